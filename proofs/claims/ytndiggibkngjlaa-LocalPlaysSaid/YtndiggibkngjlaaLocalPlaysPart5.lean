/- Parts of the proofs of the statements of this seat: AmTieLocal, AmBlk, AmSl2, AmSl3, LocalD, LocalD2, SlcLocalLe, SortA, Sort1Local, SortB, Sort2Local, Sort3Local. No conditions. -/
import Derived.Test.YtndiggibkngjlaaRows
import Derived.Test.YtndiggibkngjlaaLocalPlaysPart3
import Derived.Test.YtndiggibkngjlaaLocalPlaysPart4
import Derived.Sort.AssemblyPlain
import Derived.Sort.Walk13a
set_option linter.unusedVariables false
set_option linter.unusedSimpArgs false

/- The table of the layer local is as the program has it. Printed by lawgen.py. -/
namespace Go.Am
open Go.Proofs
set_option maxRecDepth 100000

/-- Nothing is asked of the world. -/
def G : Nat → World → Prop := fun _ _ => True
instance : Keeps G := ⟨fun _ _ _ _ h => h⟩
instance : Rises G := ⟨fun _ _ _ _ h => h⟩
theorem hmix : Try.prog.follows .mixedOrders = true := by kernel_rfl
theorem E.law15_LocalPromised : EntOk Try.prog G F.law15_LocalPromised (.rc RC.law15_LocalPromised) := ⟨Try.f3, by unfold F.law15_LocalPromised; exact Try.func3, by kernel_rfl, by kernel_rfl⟩
theorem E.law15_LocalJust : EntOk Try.prog G F.law15_LocalJust (.rc RC.law15_LocalJust) := ⟨Try.f4, by unfold F.law15_LocalJust; exact Try.func4, by kernel_rfl, by kernel_rfl⟩
theorem E.law15_LocalRest : EntOk Try.prog G F.law15_LocalRest (.rc RC.law15_LocalRest) := ⟨Try.f5, by unfold F.law15_LocalRest; exact Try.func5, by kernel_rfl, by kernel_rfl⟩
theorem E.law15_LocalPlays : EntOk Try.prog G F.law15_LocalPlays (.rc RC.law15_LocalPlays) := ⟨Try.f6, by unfold F.law15_LocalPlays; exact Try.func6, by kernel_rfl, by kernel_rfl⟩
theorem E.law15_made : EntOk Try.prog G F.law15_made (.rc RC.law15_made) := ⟨Try.f8, by unfold F.law15_made; exact Try.func8, by kernel_rfl, by kernel_rfl⟩
theorem E.ref15_Check : EntOk Try.prog G F.ref15_Check (.rc RC.ref15_Check) := ⟨Try.f9, by unfold F.ref15_Check; exact Try.func9, by kernel_rfl, by kernel_rfl⟩
theorem E.law15_awake : EntOk Try.prog G F.law15_awake (.rc RC.law15_awake) := ⟨Try.f10, by unfold F.law15_awake; exact Try.func10, by kernel_rfl, by kernel_rfl⟩
theorem E.local_Local_Total : EntOk Try.prog G F.local_Local_Total (.rc RC.local_Local_Total) := ⟨Try.f11, by unfold F.local_Local_Total; exact Try.func11, by kernel_rfl, by kernel_rfl⟩
theorem E.local_Local_Pick : EntOk Try.prog G F.local_Local_Pick (.rc RC.local_Local_Pick) := ⟨Try.f12, by unfold F.local_Local_Pick; exact Try.func12, by kernel_rfl, by kernel_rfl⟩
theorem E.local_Local_Got : EntOk Try.prog G F.local_Local_Got (.rc RC.local_Local_Got) := ⟨Try.f13, by unfold F.local_Local_Got; exact Try.func13, by kernel_rfl, by kernel_rfl⟩
theorem E.local_New : EntOk Try.prog G F.local_New (.rc RC.local_New) := ⟨Try.f14, by unfold F.local_New; exact Try.func14, by kernel_rfl, by kernel_rfl⟩
theorem E.ref15_New : EntOk Try.prog G F.ref15_New (.rc RC.ref15_New) := ⟨Try.f15, by unfold F.ref15_New; exact Try.func15, by kernel_rfl, by kernel_rfl⟩
theorem E.ref15_Pick : EntOk Try.prog G F.ref15_Pick (.rc RC.ref15_Pick) := ⟨Try.f16, by unfold F.ref15_Pick; exact Try.func16, by kernel_rfl, by kernel_rfl⟩
theorem E.local_Local_Begin : EntOk Try.prog G F.local_Local_Begin (.rc RC.local_Local_Begin) := ⟨Try.f17, by unfold F.local_Local_Begin; exact Try.func17, by kernel_rfl, by kernel_rfl⟩
theorem E.ref15_Begin : EntOk Try.prog G F.ref15_Begin (.rc RC.ref15_Begin) := ⟨Try.f18, by unfold F.ref15_Begin; exact Try.func18, by kernel_rfl, by kernel_rfl⟩
theorem E.ref15_Drop : EntOk Try.prog G F.ref15_Drop (.rc RC.ref15_Drop) := ⟨Try.f19, by unfold F.ref15_Drop; exact Try.func19, by kernel_rfl, by kernel_rfl⟩
theorem E.local_Local_Drop : EntOk Try.prog G F.local_Local_Drop (.rc RC.local_Local_Drop) := ⟨Try.f20, by unfold F.local_Local_Drop; exact Try.func20, by kernel_rfl, by kernel_rfl⟩
theorem E.ref08_Total : EntOk Try.prog G F.ref08_Total (.rc RC.ref08_Total) := ⟨Try.f21, by unfold F.ref08_Total; exact Try.func21, by kernel_rfl, by kernel_rfl⟩
theorem E.ref08_Same : EntOk Try.prog G F.ref08_Same (.rc RC.ref08_Same) := ⟨Try.f22, by unfold F.ref08_Same; exact Try.func22, by kernel_rfl, by kernel_rfl⟩
theorem E.local_Local_Wants : EntOk Try.prog G F.local_Local_Wants (.rc RC.local_Local_Wants) := ⟨Try.f23, by unfold F.local_Local_Wants; exact Try.func23, by kernel_rfl, by kernel_rfl⟩
theorem E.ref08_Check : EntOk Try.prog G F.ref08_Check (.rc RC.ref08_Check) := ⟨Try.f24, by unfold F.ref08_Check; exact Try.func24, by kernel_rfl, by kernel_rfl⟩
theorem E.order_Total : EntOk Try.prog G F.order_Total (.rc RC.order_Total) := ⟨Try.f25, by unfold F.order_Total; exact Try.func25, by kernel_rfl, by kernel_rfl⟩
theorem E.slices_Contains_int_int : EntOk Try.prog G F.slices_Contains_int_int (.rc RC.slices_Contains_int_int) := ⟨Try.f26, by unfold F.slices_Contains_int_int; exact Try.func26, by kernel_rfl, by kernel_rfl⟩
theorem E.local_ahead : EntOk Try.prog G F.local_ahead (.rc RC.local_ahead) := ⟨Try.f27, by unfold F.local_ahead; exact Try.func27, by kernel_rfl, by kernel_rfl⟩
theorem E.local_Local_find : EntOk Try.prog G F.local_Local_find (.rc RC.local_Local_find) := ⟨Try.f28, by unfold F.local_Local_find; exact Try.func28, by kernel_rfl, by kernel_rfl⟩
theorem E.order_Check : EntOk Try.prog G F.order_Check (.rc RC.order_Check) := ⟨Try.f29, by unfold F.order_Check; exact Try.func29, by kernel_rfl, by kernel_rfl⟩
theorem E.slices_SortFunc_local_entry_local_entry : EntOk Try.prog G F.slices_SortFunc_local_entry_local_entry (.rc RC.slices_SortFunc_local_entry_local_entry) := ⟨Try.f30, by unfold F.slices_SortFunc_local_entry_local_entry; exact Try.func30, by kernel_rfl, by kernel_rfl⟩
theorem E.local_New_1 : EntOk Try.prog G F.local_New_1 (.rc RC.local_New_1) := ⟨Try.f31, by unfold F.local_New_1; exact Try.func31, by kernel_rfl, by kernel_rfl⟩
theorem E.cmp_Compare_int : EntOk Try.prog G F.cmp_Compare_int (.rc RC.cmp_Compare_int) := ⟨Try.f32, by unfold F.cmp_Compare_int; exact Try.func32, by kernel_rfl, by kernel_rfl⟩
theorem E.ref15_Next : EntOk Try.prog G F.ref15_Next (.rc RC.ref15_Next) := ⟨Try.f33, by unfold F.ref15_Next; exact Try.func33, by kernel_rfl, by kernel_rfl⟩
theorem E.slices_Delete_local_entry_local_entry : EntOk Try.prog G F.slices_Delete_local_entry_local_entry (.rc RC.slices_Delete_local_entry_local_entry) := ⟨Try.f34, by unfold F.slices_Delete_local_entry_local_entry; exact Try.func34, by kernel_rfl, by kernel_rfl⟩
theorem E.ref02_Add : EntOk Try.prog G F.ref02_Add (.rc RC.ref02_Add) := ⟨Try.f35, by unfold F.ref02_Add; exact Try.func35, by kernel_rfl, by kernel_rfl⟩
theorem E.ref08_Is : EntOk Try.prog G F.ref08_Is (.rc RC.ref08_Is) := ⟨Try.f36, by unfold F.ref08_Is; exact Try.func36, by kernel_rfl, by kernel_rfl⟩
theorem E.fixq_Add : EntOk Try.prog G F.fixq_Add (.rc RC.fixq_Add) := ⟨Try.f37, by unfold F.fixq_Add; exact Try.func37, by kernel_rfl, by kernel_rfl⟩
theorem E.slices_Index_int_int : EntOk Try.prog G F.slices_Index_int_int (.rc RC.slices_Index_int_int) := ⟨Try.f38, by unfold F.slices_Index_int_int; exact Try.func38, by kernel_rfl, by kernel_rfl⟩
theorem E.fixq_Compare : EntOk Try.prog G F.fixq_Compare (.rc RC.fixq_Compare) := ⟨Try.f39, by unfold F.fixq_Compare; exact Try.func39, by kernel_rfl, by kernel_rfl⟩
theorem E.slices_IndexFunc_local_entry_local_entry : EntOk Try.prog G F.slices_IndexFunc_local_entry_local_entry (.rc RC.slices_IndexFunc_local_entry_local_entry) := ⟨Try.f40, by unfold F.slices_IndexFunc_local_entry_local_entry; exact Try.func40, by kernel_rfl, by kernel_rfl⟩
theorem E.local_Local_find_1 : EntOk Try.prog G F.local_Local_find_1 (.rc RC.local_Local_find_1) := ⟨Try.f41, by unfold F.local_Local_find_1; exact Try.func41, by kernel_rfl, by kernel_rfl⟩
theorem E.order_Kind : EntOk Try.prog G F.order_Kind (.rc RC.order_Kind) := ⟨Try.f42, by unfold F.order_Kind; exact Try.func42, by kernel_rfl, by kernel_rfl⟩
theorem E.slices_pdqsortCmpFunc_local_entry : EntOk Try.prog G F.slices_pdqsortCmpFunc_local_entry (.rc RC.slices_pdqsortCmpFunc_local_entry) := ⟨Try.f43, by unfold F.slices_pdqsortCmpFunc_local_entry; exact Try.func43, by kernel_rfl, by kernel_rfl⟩
theorem E.math_bits_Len : EntOk Try.prog G F.math_bits_Len (.rc RC.math_bits_Len) := ⟨Try.f44, by unfold F.math_bits_Len; exact Try.func44, by kernel_rfl, by kernel_rfl⟩
theorem E.cmp_isNaN_int : EntOk Try.prog G F.cmp_isNaN_int (.rc RC.cmp_isNaN_int) := ⟨Try.f45, by unfold F.cmp_isNaN_int; exact Try.func45, by kernel_rfl, by kernel_rfl⟩
theorem E.ref15_Has : EntOk Try.prog G F.ref15_Has (.rc RC.ref15_Has) := ⟨Try.f46, by unfold F.ref15_Has; exact Try.func46, by kernel_rfl, by kernel_rfl⟩
theorem E.math_bits_Mul64 : EntOk Try.prog G F.math_bits_Mul64 (.rc RC.math_bits_Mul64) := ⟨Try.f47, by unfold F.math_bits_Mul64; exact Try.func47, by kernel_rfl, by kernel_rfl⟩
theorem E.slices_insertionSortCmpFunc_local_entry : EntOk Try.prog G F.slices_insertionSortCmpFunc_local_entry (.rc RC.slices_insertionSortCmpFunc_local_entry) := ⟨Try.f48, by unfold F.slices_insertionSortCmpFunc_local_entry; exact Try.func48, by kernel_rfl, by kernel_rfl⟩
theorem E.slices_heapSortCmpFunc_local_entry : EntOk Try.prog G F.slices_heapSortCmpFunc_local_entry (.rc RC.slices_heapSortCmpFunc_local_entry) := ⟨Try.f49, by unfold F.slices_heapSortCmpFunc_local_entry; exact Try.func49, by kernel_rfl, by kernel_rfl⟩
theorem E.slices_breakPatternsCmpFunc_local_entry : EntOk Try.prog G F.slices_breakPatternsCmpFunc_local_entry (.rc RC.slices_breakPatternsCmpFunc_local_entry) := ⟨Try.f50, by unfold F.slices_breakPatternsCmpFunc_local_entry; exact Try.func50, by kernel_rfl, by kernel_rfl⟩
theorem E.slices_choosePivotCmpFunc_local_entry : EntOk Try.prog G F.slices_choosePivotCmpFunc_local_entry (.rc RC.slices_choosePivotCmpFunc_local_entry) := ⟨Try.f51, by unfold F.slices_choosePivotCmpFunc_local_entry; exact Try.func51, by kernel_rfl, by kernel_rfl⟩
theorem E.slices_reverseRangeCmpFunc_local_entry : EntOk Try.prog G F.slices_reverseRangeCmpFunc_local_entry (.rc RC.slices_reverseRangeCmpFunc_local_entry) := ⟨Try.f52, by unfold F.slices_reverseRangeCmpFunc_local_entry; exact Try.func52, by kernel_rfl, by kernel_rfl⟩
theorem E.slices_partialInsertionSortCmpFunc_local_entry : EntOk Try.prog G F.slices_partialInsertionSortCmpFunc_local_entry (.rc RC.slices_partialInsertionSortCmpFunc_local_entry) := ⟨Try.f53, by unfold F.slices_partialInsertionSortCmpFunc_local_entry; exact Try.func53, by kernel_rfl, by kernel_rfl⟩
theorem E.slices_partitionEqualCmpFunc_local_entry : EntOk Try.prog G F.slices_partitionEqualCmpFunc_local_entry (.rc RC.slices_partitionEqualCmpFunc_local_entry) := ⟨Try.f54, by unfold F.slices_partitionEqualCmpFunc_local_entry; exact Try.func54, by kernel_rfl, by kernel_rfl⟩
theorem E.slices_partitionCmpFunc_local_entry : EntOk Try.prog G F.slices_partitionCmpFunc_local_entry (.rc RC.slices_partitionCmpFunc_local_entry) := ⟨Try.f55, by unfold F.slices_partitionCmpFunc_local_entry; exact Try.func55, by kernel_rfl, by kernel_rfl⟩
theorem E.math_bits_Len32 : EntOk Try.prog G F.math_bits_Len32 (.rc RC.math_bits_Len32) := ⟨Try.f56, by unfold F.math_bits_Len32; exact Try.func56, by kernel_rfl, by kernel_rfl⟩
theorem E.math_bits_Len64 : EntOk Try.prog G F.math_bits_Len64 (.rc RC.math_bits_Len64) := ⟨Try.f57, by unfold F.math_bits_Len64; exact Try.func57, by kernel_rfl, by kernel_rfl⟩
theorem E.slices_siftDownCmpFunc_local_entry : EntOk Try.prog G F.slices_siftDownCmpFunc_local_entry (.rc RC.slices_siftDownCmpFunc_local_entry) := ⟨Try.f58, by unfold F.slices_siftDownCmpFunc_local_entry; exact Try.func58, by kernel_rfl, by kernel_rfl⟩
theorem E.slices_nextPowerOfTwo : EntOk Try.prog G F.slices_nextPowerOfTwo (.rc RC.slices_nextPowerOfTwo) := ⟨Try.f59, by unfold F.slices_nextPowerOfTwo; exact Try.func59, by kernel_rfl, by kernel_rfl⟩
theorem E.slices_xorshift_Next : EntOk Try.prog G F.slices_xorshift_Next (.rc RC.slices_xorshift_Next) := ⟨Try.f60, by unfold F.slices_xorshift_Next; exact Try.func60, by kernel_rfl, by kernel_rfl⟩
theorem E.slices_medianAdjacentCmpFunc_local_entry : EntOk Try.prog G F.slices_medianAdjacentCmpFunc_local_entry (.rc RC.slices_medianAdjacentCmpFunc_local_entry) := ⟨Try.f61, by unfold F.slices_medianAdjacentCmpFunc_local_entry; exact Try.func61, by kernel_rfl, by kernel_rfl⟩
theorem E.slices_medianCmpFunc_local_entry : EntOk Try.prog G F.slices_medianCmpFunc_local_entry (.rc RC.slices_medianCmpFunc_local_entry) := ⟨Try.f62, by unfold F.slices_medianCmpFunc_local_entry; exact Try.func62, by kernel_rfl, by kernel_rfl⟩
theorem E.slices_order2CmpFunc_local_entry : EntOk Try.prog G F.slices_order2CmpFunc_local_entry (.rc RC.slices_order2CmpFunc_local_entry) := ⟨Try.f63, by unfold F.slices_order2CmpFunc_local_entry; exact Try.func63, by kernel_rfl, by kernel_rfl⟩
theorem ents : EntsOk Try.prog G tab0 := ⟨E.law15_LocalPromised, E.law15_LocalJust, E.law15_LocalRest, E.law15_LocalPlays, E.law15_made, E.ref15_Check, E.law15_awake, E.local_Local_Total, E.local_Local_Pick, E.local_Local_Got, E.local_New, E.ref15_New, E.ref15_Pick, E.local_Local_Begin, E.ref15_Begin, E.ref15_Drop, E.local_Local_Drop, E.ref08_Total, E.ref08_Same, E.local_Local_Wants, E.ref08_Check, E.order_Total, E.slices_Contains_int_int, E.local_ahead, E.local_Local_find, E.order_Check, E.slices_SortFunc_local_entry_local_entry, E.local_New_1, E.cmp_Compare_int, E.ref15_Next, E.slices_Delete_local_entry_local_entry, E.ref02_Add, E.ref08_Is, E.fixq_Add, E.slices_Index_int_int, E.fixq_Compare, E.slices_IndexFunc_local_entry_local_entry, E.local_Local_find_1, E.order_Kind, E.slices_pdqsortCmpFunc_local_entry, E.math_bits_Len, E.cmp_isNaN_int, E.ref15_Has, E.math_bits_Mul64, E.slices_insertionSortCmpFunc_local_entry, E.slices_heapSortCmpFunc_local_entry, E.slices_breakPatternsCmpFunc_local_entry, E.slices_choosePivotCmpFunc_local_entry, E.slices_reverseRangeCmpFunc_local_entry, E.slices_partialInsertionSortCmpFunc_local_entry, E.slices_partitionEqualCmpFunc_local_entry, E.slices_partitionCmpFunc_local_entry, E.math_bits_Len32, E.math_bits_Len64, E.slices_siftDownCmpFunc_local_entry, E.slices_nextPowerOfTwo, E.slices_xorshift_Next, E.slices_medianAdjacentCmpFunc_local_entry, E.slices_medianCmpFunc_local_entry, E.slices_order2CmpFunc_local_entry, trivial⟩
theorem tabOk0 : TabOk Try.prog G R0 := TabOk.of ents
theorem C.law15_awake : EntOk Try.prog G F.law15_awake (.ext X.ok) := X.ok_sim (const_sim hmix tabOk0 (n := 1000) (by kernel_rfl))
theorem tabOk : TabOk Try.prog G R := TabOk.of (l := tab) (⟨C.law15_awake, ents⟩)
end Go.Am


/- Blocks, by their numbers: loads and stores as what they do to a block's cells. -/
set_option linter.unusedVariables false
namespace Go.Am

def ldW : Option AObj → Nat → Option Value
  | some (.cells c _), o => c[o]?
  | _, _ => none
def ldA : Option AObj → Nat → Nat → Option Value
  | some (.cells c _), o, sz => if o + sz ≤ c.length then some (.agg ((c.drop o).take sz).toArray) else none
  | _, _, _ => none
def stB (m : Mem) (b : Nat) : Option AObj → Nat → List Value → Option Mem
  | some (.cells c (some u)), o, vs => if o + vs.length ≤ c.length ∧ oneCells vs = true then some (m.set b (some (.cells (writeL c o vs) (some u)))) else none
  | _, _, _ => none

theorem ldW_c {c : List Value} {own : Option Nat} {o : Nat} : ldW (some (.cells c own)) o = c[o]? := rfl
theorem ldA_c {c : List Value} {own : Option Nat} {o sz : Nat} : ldA (some (.cells c own)) o sz = if o + sz ≤ c.length then some (.agg ((c.drop o).take sz).toArray) else none := rfl
theorem stB_c {m : Mem} {b u o : Nat} {c vs : List Value} : stB m b (some (.cells c (some u))) o vs = if o + vs.length ≤ c.length ∧ oneCells vs = true then some (m.set b (some (.cells (writeL c o vs) (some u)))) else none := rfl

theorem load_w {m : Mem} {sz b o : Nat} : aLoad false sz m (.pointer (some ⟨b, o, none⟩)) = ldW (m.blk b) o := by
  simp only [aLoad, Bool.false_eq_true, if_false]
  unfold ldW
  split <;> simp_all
theorem load_a {m : Mem} {sz b o : Nat} : aLoad true sz m (.pointer (some ⟨b, o, none⟩)) = ldA (m.blk b) o sz := by
  simp only [aLoad, if_true]
  unfold ldA
  split <;> simp_all
theorem store_b {m : Mem} {sz b o : Nat} {v : Value} : aStore sz m (.pointer (some ⟨b, o, none⟩)) v = if v.cells.size = sz then stB m b (m.blk b) o v.cells.toList else none := by
  simp only [aStore]
  split
  · unfold aWrite stB
    split <;> simp_all
  · rfl
theorem idxS_b {u b o n c : Nat} {k : IntKind} {i : Int} : aIdxS u (.slice (some ⟨b, o, none⟩) n c) (.int k i) = if 0 ≤ i ∧ i < n then some (.pointer (some ⟨b, o + i.toNat * u, none⟩)) else none := rfl
theorem set_blk {m : Mem} {b k : Nat} {o : Option AObj} : (m.set b o).blk k = if k = b then o else m.blk k := rfl
theorem new_blk {m : Mem} {k : Nat} {o : AObj} : (m.new o).blk k = if k = m.next then some o else m.blk k := rfl
theorem set_next {m : Mem} {b : Nat} {o : Option AObj} : (m.set b o).next = m.next := rfl
theorem new_next {m : Mem} {o : AObj} : (m.new o).next = m.next + 1 := rfl
theorem len_s {a : Option Addr} {n c : Nat} : aLen (.slice a n c) = some (.int .i64 n) := rfl
theorem writeL_one {cs : List Value} {i : Nat} {v : Value} (h : i < cs.length) : writeL cs i [v] = cs.set i v := writeL_set h
theorem toArr_one {v : Value} : (#[v] : Array Value).toList = [v] := rfl
theorem size_one {v : Value} : (#[v] : Array Value).size = 1 := rfl
theorem toList_toArr {l : List Value} : l.toArray.toList = l := rfl
theorem size_toArr {l : List Value} : l.toArray.size = l.length := by simp

/-- What is at these blocks may have changed; all else is as it was. -/
structure Upd (m m' : Mem) (fp : List Nat) : Prop where
  next : m.next ≤ m'.next
  same : ∀ b, b < m.next → b ∉ fp → m'.blk b = m.blk b

theorem Upd.refl (m : Mem) (fp : List Nat) : Upd m m fp := ⟨Nat.le_refl _, fun _ _ _ => rfl⟩
theorem Upd.trans {a b c : Mem} {fp fq fr : List Nat} (h : Upd a b fp) (k : Upd b c fq) (h1 : ∀ x ∈ fp, x ∈ fr) (h2 : ∀ x ∈ fq, x ∈ fr ∨ a.next ≤ x) : Upd a c fr :=
  ⟨Nat.le_trans h.next k.next, fun x hx hn => by
    rw [k.same x (Nat.lt_of_lt_of_le hx h.next) (fun hm => by rcases h2 x hm with h3 | h3; exact hn h3; omega), h.same x hx (fun hm => hn (h1 x hm))]⟩
theorem Ext.upd {m m' : Mem} (h : Ext m m') {fp : List Nat} : Upd m m' fp := ⟨h.next, fun b hb _ => h.same b hb⟩
theorem Upd.ext {m m' : Mem} (h : Upd m m' []) : Ext m m' := ⟨h.next, fun b hb => h.same b hb (by simp)⟩
theorem Upd.set {m : Mem} {b : Nat} {o : Option AObj} {fp : List Nat} (h : b ∈ fp) : Upd m (m.set b o) fp :=
  ⟨Nat.le_refl _, fun x hx hn => by rw [set_blk, if_neg (fun e => hn (by rw [e]; exact h))]⟩
/-- Only blocks from some number on have changed. -/
theorem Upd.ext_of {m0 m m' : Mem} {fp : List Nat} (h0 : Ext m0 m) (h : Upd m m' fp) (hf : ∀ x ∈ fp, m0.next ≤ x) : Ext m0 m' :=
  ⟨Nat.le_trans h0.next h.next, fun b hb => by
    rw [h.same b (Nat.lt_of_lt_of_le hb h0.next) (fun hm => by have := hf b hm; omega), h0.same b hb]⟩
end Go.Am


/- More of slices that grow: whole slices put behind. -/
set_option linter.unusedVariables false
namespace Go.Am

theorem Sl.src {m : Mem} {u k : Nat} {xs : List Value} {x : Value} (h : Sl m u k xs x) : aSrc u k m x = some xs ∧ sliceLen x = some k := by
  cases h with
  | nil h hc => subst h; subst hc; exact ⟨rfl, rfl⟩
  | «at» hc h =>
    refine ⟨?_, rfl⟩
    simp only [aSrc]
    split
    · rename_i e; subst e
      have := aCells_len h
      rw [Nat.zero_mul] at this
      rw [List.eq_nil_of_length_eq_zero this]
    · rw [if_pos (Nat.le_refl _)]; exact h

/-- All of a slice behind one's own. -/
theorem Own.appAll {m0 m : Mem} {u n k by_ : Nat} {cs xs : List Value} {v x : Value} (h : Own m0 m u n cs v) (hx : Ext m0 m) (hs : Sl m u k xs x) (h1 : oneCells xs = true) (hby : (n + k) * by_ ≤ 2 ^ 47) (hn : n + k < 2 ^ 62) (hfull : ∀ a p q, v = .slice a p q → p = q) :
    ∃ v' m', aApp none u by_ m v x = some (v', m') ∧ Own m0 m' u (n + k) (cs ++ xs) v' ∧ Ext m0 m' := by
  obtain ⟨hsrc, hlen⟩ := hs.src
  have hxl := hs.length
  cases h with
  | nil h hc =>
    subst h; subst hc
    by_cases hk : k = 0
    · subst hk
      refine ⟨.slice none 0 0, m, by simp [aApp, hlen, hsrc], .nil rfl ?_, hx⟩
      rw [Nat.zero_mul] at hxl
      rw [List.eq_nil_of_length_eq_zero hxl]; rfl
    · refine ⟨.slice (some ⟨m.next, 0, none⟩) k k, m.new (.cells xs (some u)), ?_, ?_, hx.trans Ext.new⟩
      · simp only [aApp, hlen, Option.bind_some, hsrc, hk, if_false]
        rw [if_pos ⟨by simpa using hby, by simpa using hn, h1⟩]
        rfl
      · rw [Nat.zero_add, List.nil_append]
        exact .at (all := xs) hx.next (by simp [Mem.new]) (Nat.le_refl _) (by simp [Mem.new]) hxl (by rw [← hxl, List.take_length]) h1
  | @«at» b c all hb hb2 hnc hm hl hcs hone =>
    by_cases hk : k = 0
    · subst hk
      rw [Nat.zero_mul] at hxl
      have hxs := List.eq_nil_of_length_eq_zero hxl
      subst hxs
      refine ⟨.slice (some ⟨b, 0, none⟩) n c, m, ?_, by rw [List.append_nil]; exact .at hb hb2 hnc hm hl hcs hone, hx⟩
      simp only [aApp, hlen, Option.bind_some, hsrc, if_true]
      rw [if_pos ⟨hnc, by rw [hm]; rfl⟩]
    · by_cases hroom : n + k ≤ c
      · have hle : n * u + k * u ≤ c * u := by rw [← Nat.add_mul]; exact Nat.mul_le_mul_right _ hroom
        refine ⟨.slice (some ⟨b, 0, none⟩) (n + k) c, m.set b (some (.cells (writeL all (n * u) xs) (some u))), ?_, ?_, hx.set hb⟩
        · simp only [aApp, hlen, Option.bind_some, hsrc, hk, if_false, Nat.zero_add]
          rw [if_pos hroom]
          unfold aWrite
          rw [hm]
          simp only
          rw [if_pos ⟨by omega, h1⟩]; rfl
        · refine .at (all := writeL all (n * u) xs) hb (by simpa [Mem.set] using hb2) hroom (by simp [Mem.set]) ?_ ?_ (oneCells_append hone h1)
          · unfold writeL; simp; omega
          · unfold writeL
            rw [Nat.add_mul, List.append_assoc, List.take_append]
            have e : (all.take (n * u)).length = n * u := by simp; omega
            rw [e, List.take_of_length_le (by omega), show n * u + k * u - n * u = xs.length by omega, List.take_left, hcs]
      · have hcn : n = c := hfull _ _ _ rfl
        subst hcn
        have hall : all.take (n * u) = all := by rw [← hl, List.take_length]
        rw [hall] at hcs
        subst hcs
        refine ⟨.slice (some ⟨m.next, 0, none⟩) (n + k) (n + k), (m.set b none).new (.cells (all ++ xs) (some u)), ?_, ?_, (hx.set hb).trans Ext.new⟩
        · simp only [aApp, hlen, Option.bind_some, hsrc, hk, if_false, Nat.zero_add]
          rw [if_neg hroom, hm]
          simp only [List.drop_zero, hall]
          rw [if_pos ⟨hby, hn, h1, hone, Nat.le_refl _, by omega, .inr ⟨by first | rfl | trivial, .inr (by first | rfl | trivial)⟩⟩]
          simp only [Option.isSome_some, true_and, hl, if_true, place]
          rfl
        · refine .at (all := all ++ xs) (by have := hx.next; omega) (by simp [Mem.new, Mem.set]) (Nat.le_refl _) (by simp [Mem.new, Mem.set]) (by simp [hl, hxl, Nat.add_mul]) ?_ (oneCells_append hone h1)
          rw [Nat.add_mul, List.take_of_length_le (by simp; omega)]

/-- A slice, copied: what stands behind an empty one. -/
theorem app_copy {m : Mem} {u k by_ : Nat} {xs : List Value} {x : Value} (hs : Sl (m.new (.cells [] (some u))) u k xs x) (h1 : oneCells xs = true) (hby : k * by_ ≤ 2 ^ 47) (hn : k < 2 ^ 62) :
    ∃ v' m', aApp none u by_ (m.new (.cells [] (some u))) (.slice (some ⟨m.next, 0, none⟩) 0 0) x = some (v', m') ∧ Own m m' u k xs v' ∧ Ext m m' := by
  have ho : Own m (m.new (.cells [] (some u))) u 0 [] (.slice (some ⟨m.next, 0, none⟩) 0 0) :=
    .at (all := []) (Nat.le_refl _) (by simp [Mem.new]) (Nat.le_refl _) (by simp [Mem.new]) (by simp) (by simp) rfl
  have := ho.appAll (by_ := by_) Ext.new hs h1 (by simpa using hby) (by simpa using hn) (by intro a p q h; cases h; rfl)
  simpa using this

/-- The same, with where it stands. -/
theorem app_copy_at {m : Mem} {u k by_ : Nat} {xs : List Value} {x : Value} (hs : Sl (m.new (.cells [] (some u))) u k xs x) (h1 : oneCells xs = true) (hby : k * by_ ≤ 2 ^ 47) (hn : k < 2 ^ 62) (hk : k ≠ 0) :
    ∃ m', aApp none u by_ (m.new (.cells [] (some u))) (.slice (some ⟨m.next, 0, none⟩) 0 0) x = some (.slice (some ⟨m.next + 1, 0, none⟩) k k, m') ∧ m'.blk (m.next + 1) = some (.cells xs (some u)) ∧ m'.next = m.next + 2 ∧ Ext m m' := by
  obtain ⟨hsrc, hlen⟩ := hs.src
  refine ⟨((m.new (.cells [] (some u))).set m.next none).new (.cells xs (some u)), ?_, by simp [Mem.new, Mem.set], by simp [Mem.new, Mem.set], (Ext.new.set (Nat.le_refl _)).trans Ext.new⟩
  have hb : (m.new (.cells [] (some u))).blk m.next = some (.cells [] (some u)) := by simp [Mem.new]
  simp only [aApp, hlen, Option.bind_some, hsrc, hk, if_false, Nat.zero_add]
  rw [if_neg (by omega), hb]
  simp only [List.drop_nil, List.take_nil, Nat.zero_mul, List.length_nil, List.nil_append]
  rw [if_pos ⟨by simpa using hby, by simpa using hn, h1, by first | rfl | trivial, Nat.le_refl _, Nat.le_refl _, .inr ⟨by first | rfl | trivial, .inr (by first | rfl | trivial)⟩⟩]
  simp [place, Mem.new, Mem.set]
  rfl

/-- The same behind nothing. -/
theorem app_nil {m : Mem} {u k by_ : Nat} {xs : List Value} {x : Value} (hs : Sl m u k xs x) (h1 : oneCells xs = true) (hby : k * by_ ≤ 2 ^ 47) (hn : k < 2 ^ 62) :
    ∃ v' m', aApp none u by_ m (.slice none 0 0) x = some (v', m') ∧ Own m m' u k xs v' ∧ Ext m m' := by
  have ho : Own m m u 0 [] (.slice none 0 0) := .nil rfl rfl
  have := ho.appAll (by_ := by_) (Ext.refl _) hs h1 (by simpa using hby) (by simpa using hn) (by intro a p q h; cases h; rfl)
  simpa using this

/-- A slice whose block is none of some. -/
def SlOff (fp : List Nat) : Value → Prop
  | .slice (some a) _ _ => a.block ∉ fp
  | _ => True

theorem Sl.upd {m m' : Mem} {u n : Nat} {cs : List Value} {v : Value} {fp : List Nat} (h : Sl m u n cs v) (hb : SlLt m v) (ho : SlOff fp v) (hx : Upd m m' fp) : Sl m' u n cs v := by
  cases h with
  | nil h hc => exact .nil h hc
  | «at» hc h =>
    refine .at hc ?_
    unfold aCells at h ⊢
    rw [hx.same _ hb ho]; exact h

theorem SlLt.upd {m m' : Mem} {v : Value} {fp : List Nat} (h : SlLt m v) (hx : Upd m m' fp) : SlLt m' v := by
  unfold SlLt at *
  split <;> simp_all
  exact Nat.lt_of_lt_of_le h hx.next

theorem Own.lt {m0 m : Mem} {u n : Nat} {cs : List Value} {v : Value} (h : Own m0 m u n cs v) : SlLt m v := by
  cases h with
  | nil h hc => trivial
  | «at» hb hb2 hn hm hl hcs h1 => exact hb2
theorem Own.off {m0 m : Mem} {u n : Nat} {cs : List Value} {v : Value} {fp : List Nat} (h : Own m0 m u n cs v) (hf : ∀ x ∈ fp, x < m0.next) : SlOff fp v := by
  cases h with
  | nil h hc => trivial
  | «at» hb hb2 hn hm hl hcs h1 => intro hm; have := hf _ hm; simp only at this; omega

/-- One more behind one's own, where the new block's number is given. -/
theorem Own.appAt {m0 m : Mem} {u n by_ q : Nat} {cs xs : List Value} {v x : Value} (h : Own m0 m u n cs v) (hx : Ext m0 m) (hs : Sl m u 1 xs x) (h1 : oneCells xs = true) (hby : (n + 1) * by_ ≤ 2 ^ 47) (hn : n + 1 < 2 ^ 62) (hq : m0.next ≤ q) (hq2 : q < m.next) (ho : SlOff [q] v) :
    ∃ v' m', aApp (some q) u by_ m v x = some (v', m') ∧ Own m0 m' u (n + 1) (cs ++ xs) v' ∧ Ext m0 m' := by
  obtain ⟨hsrc, hlen⟩ := hs.src
  have hxl := hs.length
  cases h with
  | nil h hc =>
    subst h; subst hc
    refine ⟨.slice (some ⟨q, 0, none⟩) 1 1, m.set q (some (.cells xs (some u))), ?_, ?_, hx.set hq⟩
    · simp only [aApp, hlen, Option.bind_some, hsrc, Nat.one_ne_zero, if_false]
      rw [if_pos ⟨by simpa using hby, by simp, h1⟩]
      rfl
    · rw [Nat.zero_add, List.nil_append]
      exact .at (all := xs) hq (by simpa [Mem.set] using hq2) (Nat.le_refl _) (by simp [Mem.set]) hxl (by rw [← hxl, List.take_length]) h1
  | @«at» b c all hb hb2 hnc hm hl hcs hone =>
    have hbq : b ≠ q := by intro e; subst e; simp [SlOff] at ho
    by_cases hroom : n + 1 ≤ c
    · have hle : n * u + 1 * u ≤ c * u := by rw [← Nat.add_mul]; exact Nat.mul_le_mul_right _ hroom
      refine ⟨.slice (some ⟨b, 0, none⟩) (n + 1) c, m.set b (some (.cells (writeL all (n * u) xs) (some u))), ?_, ?_, hx.set hb⟩
      · simp only [aApp, hlen, Option.bind_some, hsrc, Nat.one_ne_zero, if_false, Nat.zero_add]
        rw [if_pos hroom]
        unfold aWrite
        rw [hm]
        simp only
        rw [if_pos ⟨by omega, h1⟩]; rfl
      · refine .at (all := writeL all (n * u) xs) hb (by simpa [Mem.set] using hb2) hroom (by simp [Mem.set]) ?_ ?_ (oneCells_append hone h1)
        · unfold writeL; simp; omega
        · unfold writeL
          rw [Nat.add_mul, List.append_assoc, List.take_append]
          have e : (all.take (n * u)).length = n * u := by simp; omega
          rw [e, List.take_of_length_le (by omega), show n * u + 1 * u - n * u = xs.length by omega, List.take_left, hcs]
    · have hcn : n = c := by omega
      subst hcn
      have hall : all.take (n * u) = all := by rw [← hl, List.take_length]
      rw [hall] at hcs
      subst hcs
      refine ⟨.slice (some ⟨q, 0, none⟩) (n + 1) (n + 1), (m.set b none).set q (some (.cells (all ++ xs) (some u))), ?_, ?_, (hx.set hb).set hq⟩
      · simp only [aApp, hlen, Option.bind_some, hsrc, Nat.one_ne_zero, if_false, Nat.zero_add]
        rw [if_neg hroom, hm]
        simp only [List.drop_zero, hall]
        rw [if_pos ⟨hby, hn, h1, hone, Nat.le_refl _, by omega, .inr ⟨by first | rfl | trivial, .inr (by first | rfl | trivial)⟩⟩]
        simp only [Option.isSome_some, true_and, hl, if_true, place]
      · refine .at (all := all ++ xs) hq (by simpa [Mem.set] using hq2) (Nat.le_refl _) (by simp [Mem.set]) (by simp [hl, hxl, Nat.add_mul]) ?_ (oneCells_append hone h1)
        rw [Nat.add_mul, List.take_of_length_le (by simp; omega)]

/-- The same in an open order. -/
theorem Own.appD {m0 m : Mem} {u n by_ N s t : Nat} {cs es : List Value} {v : Value} (h : Own m0 m u n cs v) (hx : Ext m0 m) (he : es.length = u) (h1 : oneCells es = true) (hby : (n + 1) * by_ ≤ 2 ^ 47) (hn : n + 1 < 2 ^ 62) (hs : s < N) (ht : t < N) :
    ∃ v' m', aApp (some (m.next + t)) u by_ ((m.bump N).set (m.next + s) (some (.cells es (some u)))) v (.slice (some ⟨m.next + s, 0, none⟩) 1 1) = some (v', m') ∧ Own m0 m' u (n + 1) (cs ++ es) v' ∧ Ext m0 m' := by
  have hX : Ext m ((m.bump N).set (m.next + s) (some (.cells es (some u)))) := by
    refine Ext.set ⟨by simp, fun b hb => rfl⟩ (by omega)
  refine (h.keep hX).appAt (hx.trans hX) ?_ h1 hby hn (by have := hx.next; omega) (by simp [Mem.set]; omega) ?_
  · refine .at (Nat.le_refl _) ?_
    unfold aCells
    simp only [Mem.set, if_true, Nat.zero_add, List.drop_zero]
    rw [if_pos (by omega), Nat.one_mul, ← he, List.take_length]
  · have := h.lt
    revert this
    cases v <;> simp only [SlOff, SlLt] <;> try (intros; trivial)
    rename_i b _ _
    cases b <;> simp only [] <;> try (intros; trivial)
    intro h; simp; omega

/-- What a loop leaves may be told ahead, and used later. -/
theorem WL.mono {R : Nat → Option FEnt} {ks : List Nat} {c : RCode} {e : Env} {m : Mem} {Q Q' : Ex → Env → Mem → Prop} (h : WL R ks c e m Q) (hq : ∀ x e m, Q x e m → Q' x e m) : WL R ks c e m Q' := by
  intro Z hZ
  refine h Z fun e m hz => hZ e m (wp.mono (fun x e' m' hx => ?_) hz)
  exact onNormal.mono (fun _ _ _ h => hq _ _ _ h) (fun e m h => h) hx

theorem watchOk_nil {e : Env} {m m' : Mem} : watchOk e m m' [] = True := (rfl)
theorem watchOk_cons {e : Env} {m m' : Mem} {x : Nat} {r : List Nat} : watchOk e m m' (x :: r) = ((match Env.get e x with | some v => (match blkOf v with | some b => m'.blk b = m.blk b | none => True) | none => False) ∧ watchOk e m m' r) := (rfl)
theorem blkOf_ptr {b o : Nat} : blkOf (.pointer (some ⟨b, o, none⟩)) = some b := (rfl)
theorem blkOf_undef : blkOf undef = none := (rfl)
theorem blkOf_int {k : IntKind} {a : Int} : blkOf (.int k a) = none := (rfl)
attribute [go_sem] watchOk_nil watchOk_cons blkOf_ptr blkOf_undef blkOf_int
theorem load_bump {w : Bool} {u n : Nat} {m : Mem} {p : Value} : aLoad w u (m.bump n) p = aLoad w u m p := (rfl)
theorem blk_bump {n : Nat} {m : Mem} : (m.bump n).blk = m.blk := (rfl)
attribute [go_sem] load_bump blk_bump
theorem Ext.bump {m : Mem} {n : Nat} : Ext m (m.bump n) := ⟨by simp, fun b hb => rfl⟩

/-! ### parts of slices, copies -/

theorem unitOk_own {m : Mem} {b u : Nat} {cs : List Value} (h : m.blk b = some (.cells cs (some u))) : unitOk u m b = true := by unfold unitOk; rw [h]; simp

theorem sub_from {m : Mem} {b o n c u : Nat} {k : IntKind} {i : Nat} (hu : unitOk u m b = true) (h : i ≤ n) (hc : n ≤ c) :
    aSub u m (.slice (some ⟨b, o, none⟩) n c) (some (.int k i)) none none = some (.slice (some ⟨b, o + i * u, none⟩) (n - i) (c - i)) := by
  simp only [aSub, hu, if_true, aBounds, aBound]
  simp [h, cutAt, hc, Int.toNat_natCast]

theorem sub_to {m : Mem} {b o n c u : Nat} {k : IntKind} {i : Nat} (hu : unitOk u m b = true) (h : i ≤ c) :
    aSub u m (.slice (some ⟨b, o, none⟩) n c) none (some (.int k i)) none = some (.slice (some ⟨b, o, none⟩) i c) := by
  simp only [aSub, hu, if_true, aBounds, aBound]
  simp [h, cutAt, Int.toNat_natCast]

theorem sub_both {m : Mem} {b o n c u : Nat} {k k' : IntKind} {i j : Nat} (hu : unitOk u m b = true) (h : i ≤ j) (hj : j ≤ c) :
    aSub u m (.slice (some ⟨b, o, none⟩) n c) (some (.int k i)) (some (.int k' j)) none = some (.slice (some ⟨b, o + i * u, none⟩) (j - i) (c - i)) := by
  simp only [aSub, hu, if_true, aBounds, aBound]
  simp [h, hj, cutAt, Int.toNat_natCast]

/-- A copy into one's own block. -/
theorem copy_into {m : Mem} {b o n c u k : Nat} {cs xs : List Value} {x : Value} (hm : m.blk b = some (.cells cs (some u))) (hs : aSrc u (Nat.min k n) m x = some xs) (hl : sliceLen x = some k) (h1 : oneCells xs = true) (hx : xs.length = (Nat.min k n) * u) (ho : o + n * u ≤ cs.length) :
    aCopy u m (.slice (some ⟨b, o, none⟩) n c) x = some (.int .i64 (Nat.min k n : Nat), m.set b (some (.cells (writeL cs o xs) (some u)))) := by
  have hd : sliceLen (.slice (some ⟨b, o, none⟩) n c) = some n := rfl
  simp only [aCopy, hd, hl, Option.bind_some, hs]
  have hle : (Nat.min k n) * u ≤ n * u := Nat.mul_le_mul_right _ (Nat.min_le_right _ _)
  by_cases h0 : Nat.min k n = 0
  · rw [if_pos h0, h0]
    rw [h0, Nat.zero_mul] at hx
    have := List.eq_nil_of_length_eq_zero hx
    subst this
    have e : writeL cs o [] = cs := by unfold writeL; simp
    rw [e]
    have : m.set b (some (.cells cs (some u))) = m := by
      unfold Mem.set; congr 1; funext q; split
      · rename_i e; subst e; exact hm.symm
      · rfl
    rw [this]; rfl
  · rw [if_neg h0]
    unfold aWrite
    rw [hm]
    simp only
    rw [if_pos ⟨by omega, h1⟩]; rfl

theorem make_eq {m : Mem} {u by_ n : Nat} {z : List Value} {k k' : IntKind} (h1 : n < 2 ^ 62) (h2 : n * by_ ≤ 2 ^ 47) (h3 : z.length = u) (h4 : oneCells z = true) :
    aMake none u by_ z m (.int k n) (.int k' n) = some (.slice (some ⟨m.next, 0, none⟩) n n, m.new (.cells (zeros z n) (some u))) := by
  simp only [aMake, place]
  rw [if_pos ⟨by omega, by omega, by omega, by omega, h3, h4⟩, Int.toNat_natCast]

theorem zeros_int {n : Nat} : zeros [.int .i64 0] n = intsZ (List.replicate n 0) := by
  induction n with
  | zero => rfl
  | succ n ih => simp [zeros, ih, intsZ, List.replicate_succ]

/-! ### elements of more than one cell -/

theorem flat_len {α : Type} {f : α → List Value} {u : Nat} (hf : ∀ a, (f a).length = u) : ∀ {l : List α}, (l.flatMap f).length = l.length * u
  | [] => by simp
  | a :: l => by rw [List.flatMap_cons, List.length_append, hf, flat_len hf, List.length_cons, Nat.succ_mul]; omega

theorem flat_drop {α : Type} {f : α → List Value} {u : Nat} (hf : ∀ a, (f a).length = u) : ∀ {l : List α} {i : Nat} (h : i < l.length), ((l.flatMap f).drop (i * u)).take u = f l[i]
  | a :: l, 0, _ => by rw [Nat.zero_mul, List.drop_zero, List.flatMap_cons, ← hf a, List.take_left]; rfl
  | a :: l, i + 1, h => by
    rw [List.flatMap_cons, show (i + 1) * u = (f a).length + i * u by rw [hf, Nat.succ_mul]; omega, ← List.drop_drop, List.drop_left, flat_drop hf (by simpa using h)]; rfl

/-- What is read of the i-th element. -/
theorem Sl.elem {α : Type} {f : α → List Value} {m : Mem} {u : Nat} {l : List α} {v : Value} (h : Sl m u l.length (l.flatMap f) v) (hf : ∀ a, (f a).length = u) {k : IntKind} {i : Nat} (hi : i < l.length) :
    ∃ b o, aIdxS u v (.int k i) = some (.pointer (some ⟨b, o, none⟩)) ∧ aLoad true u m (.pointer (some ⟨b, o, none⟩)) = some (.agg (f l[i]).toArray) ∧
      (∀ j, j < u → aLoad false 1 m (.pointer (some ⟨b, o + j, none⟩)) = (f l[i])[j]?) ∧ (SlLt m v → b < m.next) := by
  have hb : ∃ b o, aIdxS u v (.int k i) = some (.pointer (some ⟨b, o, none⟩)) ∧ (SlLt m v → b < m.next) := by
    cases h with
    | nil h hc => omega
    | @«at» b o c hc h =>
      refine ⟨b, o + i * u, ?_, fun h => h⟩
      simp only [aIdxS]; rw [if_pos (by omega), Int.toNat_natCast]
  obtain ⟨b, o, h1, h4⟩ := hb
  obtain ⟨b', o', h1', h2, h3⟩ := h.cell (k := k) hi
  rw [h1] at h1'
  cases h1'
  refine ⟨b, o, h1, by rw [h3, flat_drop hf hi], fun j hj => ?_, h4⟩
  rw [h2 j hj, ← flat_drop hf hi, List.getElem?_take, List.getElem?_drop, if_pos hj]

/-- A block that is there. -/
structure Bk (m : Mem) (b : Nat) (cs : List Value) (u : Nat) : Prop where
  at_ : m.blk b = some (.cells cs (some u))
  lt : b < m.next
theorem Bk.new {m : Mem} {cs : List Value} {u : Nat} : Bk (m.new (.cells cs (some u))) m.next cs u := ⟨by simp [Mem.new], by simp [Mem.new]⟩
theorem Bk.ne {m : Mem} {b u : Nat} {cs : List Value} (h : Bk m b cs u) : (b = m.next) = False := eq_false (Nat.ne_of_lt h.lt)
theorem Bk.keep {m m' : Mem} {b u : Nat} {cs : List Value} (h : Bk m b cs u) (hx : Ext m m') : Bk m' b cs u := ⟨by rw [hx.same _ h.lt]; exact h.at_, Nat.lt_of_lt_of_le h.lt hx.next⟩
theorem Bk.upd {m m' : Mem} {b u : Nat} {cs : List Value} {fp : List Nat} (h : Bk m b cs u) (hx : Upd m m' fp) (hn : b ∉ fp) : Bk m' b cs u := ⟨by rw [hx.same _ h.lt hn]; exact h.at_, Nat.lt_of_lt_of_le h.lt hx.next⟩
end Go.Am


/- What putting behind a slice touches: its own block alone. -/
set_option linter.unusedVariables false
namespace Go.Am

/-- The block of a slice. -/
def vb : Value → List Nat
  | .slice (some a) _ _ => [a.block]
  | _ => []

theorem SlOff.vb_iff {v : Value} {fp : List Nat} : SlOff fp v ↔ ∀ b ∈ vb v, b ∉ fp := by
  unfold SlOff vb
  split <;> simp
theorem SlLt.vb_iff {m : Mem} {v : Value} : SlLt m v ↔ ∀ b ∈ vb v, b < m.next := by
  unfold SlLt vb
  split <;> simp

theorem Upd.new_of {m m' : Mem} {fp : List Nat} {o : AObj} (h : Upd m m' fp) : Upd m (m'.new o) fp :=
  ⟨Nat.le_trans h.next (by simp [Mem.new]), fun b hb hn => by
    have := h.next
    rw [← h.same b hb hn]
    simp only [Mem.new]
    rw [if_neg (by omega)]⟩

theorem aWrite_upd {m m' : Mem} {b o : Nat} {xs : List Value} (h : aWrite m b o xs = some m') : Upd m m' [b] ∧ m'.next = m.next := by
  unfold aWrite at h
  split at h
  · split at h
    · cases h; exact ⟨Upd.set (by simp), rfl⟩
    · cases h
  · cases h

theorem app_upd {u by_ : Nat} {m m' : Mem} {v v' x : Value} (h : aApp none u by_ m v x = some (v', m')) : Upd m m' (vb v) ∧ (vb v' = vb v ∨ vb v' = [m.next]) := by
  unfold aApp at h
  rw [Option.bind_eq_some_iff] at h
  obtain ⟨n, hn, h⟩ := h
  rw [Option.bind_eq_some_iff] at h
  obtain ⟨xs, hxs, h⟩ := h
  split at h
  · split at h
    · cases h; exact ⟨Upd.refl _ _, .inl rfl⟩
    · split at h
      · simp only [place] at h
        cases h
        exact ⟨(Upd.refl _ _).new_of, .inr rfl⟩
      · cases h
  · split at h
    · split at h
      · cases h; exact ⟨Upd.refl _ _, .inl rfl⟩
      · cases h
    · split at h
      · rw [Option.map_eq_some_iff] at h
        obtain ⟨m1, h1, h2⟩ := h
        cases h2
        exact ⟨(aWrite_upd h1).1, .inl rfl⟩
      · split at h
        · split at h
          · simp only [place] at h
            cases h
            refine ⟨?_, .inr ?_⟩
            · split
              · exact (Upd.set (by simp [vb])).new_of
              · exact (Upd.refl _ _).new_of
            · split <;> rfl
          · cases h
        · cases h
  · cases h
/-- A function value is called. -/
def gV (R : Nat → Option FEnt) (fv : Value) (vs : List Value) (m : Mem) (Q : Value → Mem → Prop) (_ : Ph Q := ph) : Prop := ∃ f a b, fv = .func (.func f) a b ∧ WC R f (a.toList ++ vs ++ b.toList) m Q
theorem a_callv {R : Nat → Option FEnt} {at_ : Option Nat} {e : Env} {m : Mem} {Q : Value → Mem → Prop} {x : X} {xs : List X} : gpA R at_ e m (.callv x xs) Q = Got (x.ev e) fun fv => Got (evs e xs) fun vs => gV R fv vs m Q := by
  refine propext ⟨?_, ?_⟩
  · rintro ⟨f, a, b, vs, h1, h2, h3⟩; exact ⟨_, h1, _, h2, f, a, b, rfl, h3⟩
  · rintro ⟨_, h1, vs, h2, f, a, b, rfl, h3⟩; exact ⟨f, a, b, vs, h1, h2, h3⟩
theorem gV_func {R : Nat → Option FEnt} {m : Mem} {Q : Value → Mem → Prop} {f : Nat} {vs : List Value} : gV R (.func (.func f) #[] #[]) vs m Q = gC R f vs m Q := by
  refine propext ⟨?_, fun h => ⟨f, #[], #[], rfl, by have h : WC R f vs m Q := h; simpa using h⟩⟩
  rintro ⟨_, _, _, h, k⟩
  cases h
  show WC R f vs m Q
  simpa using k
attribute [go_sem] a_callv gV_func

theorem gV.of {R : Nat → Option FEnt} {fv : Value} {vs : List Value} {m : Mem} {Q Q' : Value → Mem → Prop} (h : gV R fv vs m Q') (k : ∀ v m', Q' v m' → Q v m') : gV R fv vs m Q := by
  obtain ⟨f, a, b, rfl, h2⟩ := h
  exact ⟨f, a, b, rfl, h2.mono k⟩
theorem gV_cap {R : Nat → Option FEnt} {m : Mem} {Q : Value → Mem → Prop} {f : Nat} {vs : List Value} {c : Value} : gV R (.func (.func f) #[] #[c]) vs m Q = gC R f (vs ++ [c]) m Q := by
  refine propext ⟨?_, fun h => ⟨f, #[], #[c], rfl, by have h : WC R f (vs ++ [c]) m Q := h; simpa using h⟩⟩
  rintro ⟨_, _, _, h, k⟩
  cases h
  show WC R f (vs ++ [c]) m Q
  simpa using k
theorem Own.updq {m0 m m' : Mem} {u n : Nat} {cs : List Value} {v : Value} {fp : List Nat} (h : Own m0 m u n cs v) (hx : Upd m m' fp) (ho : ∀ b ∈ vb v, b ∉ fp) : Own m0 m' u n cs v := by
  cases h with
  | nil h hc => exact .nil h hc
  | @«at» b c all hb hb2 hn hm hl hcs h1 => exact .at hb (Nat.lt_of_lt_of_le hb2 hx.next) hn (by rw [hx.same b hb2 (ho b (by simp [vb]))]; exact hm) hl hcs h1
end Go.Am


/- A local in plain Lean: who is next; what each has behind some picks. -/
set_option linter.unusedVariables false
set_option linter.unusedSimpArgs false
namespace Go.Am

structure En where
  u : Int
  s : Int
  g : Nat
deriving Inhabited
def enV (e : En) : List Value := [.int .i64 e.u, .int .i64 e.s, .int .i64 (e.g : Nat)]
theorem enV_len (e : En) : (enV e).length = 3 := rfl
theorem enV_one (e : En) : oneCells (enV e) = true := rfl

/-- Next ahead of the other one. -/
def ahd (a b : En) : Prop := ((a.g : Int) + 1) * b.s < ((b.g : Int) + 1) * a.s
instance {a b : En} : Decidable (ahd a b) := inferInstanceAs (Decidable (_ < _))

/-- The best one of the first k. -/
def bs1 (L : List En) (w : En) (k : Nat) : Option Nat → Option Nat
  | none => some k
  | some b => if ahd w L[b]! then some k else some b
def bst (L : List En) (off : Int → Bool) : Nat → Option Nat
  | 0 => none
  | k + 1 => if off L[k]!.u then bst L off k else bs1 L L[k]! k (bst L off k)

theorem ahd_trans {a b c : En} (ha : 0 < a.s) (hb : 0 < b.s) (hc : 0 < c.s) (h1 : ¬ ahd c b) (h2 : ahd a b) : ¬ ahd c a := by
  unfold ahd at *
  intro h3
  have h1 : ((b.g : Int) + 1) * c.s ≤ ((c.g : Int) + 1) * b.s := by omega
  have k1 : ((c.g : Int) + 1) * a.s * b.s < ((a.g : Int) + 1) * c.s * b.s := Int.mul_lt_mul_of_pos_right h3 hb
  have k2 : ((a.g : Int) + 1) * b.s * c.s < ((b.g : Int) + 1) * a.s * c.s := Int.mul_lt_mul_of_pos_right h2 hc
  have k3 : ((b.g : Int) + 1) * c.s * a.s ≤ ((c.g : Int) + 1) * b.s * a.s := Int.mul_le_mul_of_nonneg_right h1 (by omega)
  have e1 : ((a.g : Int) + 1) * c.s * b.s = ((a.g : Int) + 1) * b.s * c.s := by rw [Int.mul_assoc, Int.mul_assoc, Int.mul_comm c.s]
  have e2 : ((b.g : Int) + 1) * a.s * c.s = ((b.g : Int) + 1) * c.s * a.s := by rw [Int.mul_assoc, Int.mul_assoc, Int.mul_comm a.s]
  have e3 : ((c.g : Int) + 1) * a.s * b.s = ((c.g : Int) + 1) * b.s * a.s := by rw [Int.mul_assoc, Int.mul_assoc, Int.mul_comm a.s]
  omega

/-- What is told of the best one. -/
theorem bst_spec {L : List En} {off : Int → Bool} (hs : ∀ e ∈ L, 0 < e.s) : ∀ k, k ≤ L.length →
    (match bst L off k with
    | none => ∀ j, j < k → off L[j]!.u = true
    | some b => b < k ∧ off L[b]!.u = false ∧ ∀ j, j < k → off L[j]!.u = false → ¬ ahd L[j]! L[b]!)
  | 0, _ => by intro j hj; omega
  | k + 1, hk => by
    have ih := bst_spec (L := L) (off := off) hs k (by omega)
    have pos : ∀ j, j < L.length → 0 < L[j]!.s := fun j hj => by rw [getElem!_pos L j hj]; exact hs _ (List.getElem_mem hj)
    unfold bst
    by_cases ho : off L[k]!.u = true
    · rw [if_pos ho]
      revert ih
      cases bst L off k with
      | none =>
        intro ih j hj
        by_cases e : j = k
        · subst e; exact ho
        · exact ih j (by omega)
      | some b =>
        rintro ⟨h1, h2, h3⟩
        refine ⟨by omega, h2, fun j hj hf => ?_⟩
        by_cases e : j = k
        · subst e; rw [ho] at hf; cases hf
        · exact h3 j (by omega) hf
    · rw [if_neg ho]
      have ho : off L[k]!.u = false := by simpa using ho
      revert ih
      cases bst L off k with
      | none =>
        intro ih
        simp only [bs1]
        refine ⟨by omega, ho, fun j hj hf => ?_⟩
        by_cases e : j = k
        · subst e; unfold ahd; omega
        · rw [ih j (by omega)] at hf; cases hf
      | some b =>
        rintro ⟨h1, h2, h3⟩
        simp only [bs1]
        by_cases ha : ahd L[k]! L[b]!
        · rw [if_pos ha]
          refine ⟨by omega, ho, fun j hj hf => ?_⟩
          by_cases e : j = k
          · subst e; unfold ahd; omega
          · exact ahd_trans (pos k (by omega)) (pos b (by omega)) (pos j (by omega)) (h3 j (by omega) hf) ha
        · rw [if_neg ha]
          refine ⟨by omega, h2, fun j hj hf => ?_⟩
          by_cases e : j = k
          · subst e; exact ha
          · exact h3 j (by omega) hf

def En.up (e : En) : En := { e with g := e.g + 1 }
/-- A pick. -/
def pick (L : List En) (off : Int → Bool) : List En := match bst L off L.length with
  | none => L
  | some b => L.set b L[b]!.up

def sumN (f : En → Int) (L : List En) : Int := (L.map f).foldr (· + ·) 0
theorem sumN_cons {f : En → Int} {e : En} {L : List En} : sumN f (e :: L) = f e + sumN f L := rfl
theorem sumN_set {f : En → Int} {d : Int} : ∀ {L : List En} {b : Nat} {e : En} (h : b < L.length), f e = f L[b] + d → sumN f (L.set b e) = sumN f L + d
  | e0 :: L, 0, e, h, hd => by
    rw [List.set_cons_zero, sumN_cons, sumN_cons, hd]; simp only [List.getElem_cons_zero]; omega
  | e0 :: L, b + 1, e, h, hd => by
    rw [List.set_cons_succ, sumN_cons, sumN_cons, sumN_set (d := d) (by simpa using h) (by simpa using hd)]; omega
theorem sumN_le {f g : En → Int} : ∀ {L : List En}, (∀ e ∈ L, f e ≤ g e) → sumN f L ≤ sumN g L
  | [], _ => Int.le_refl _
  | e :: L, h => by
    rw [sumN_cons, sumN_cons]
    have := h e (by simp)
    have := sumN_le (L := L) fun x hx => h x (by simp [hx])
    omega
theorem sumN_mul {f : En → Int} {c : Int} : ∀ {L : List En}, sumN (fun e => f e * c) L = sumN f L * c
  | [] => by simp [sumN]
  | e :: L => by rw [sumN_cons, sumN_cons, sumN_mul, Int.add_mul]
theorem sumN_add {f g : En → Int} : ∀ {L : List En}, sumN (fun e => f e + g e) L = sumN f L + sumN g L
  | [] => rfl
  | e :: L => by rw [sumN_cons, sumN_cons, sumN_cons, sumN_add]; omega
end Go.Am


/- What each has behind some picks: the sums. -/
set_option linter.unusedVariables false
set_option linter.unusedSimpArgs false
namespace Go.Am

def gI (e : En) : Int := e.g
def sI (e : En) : Int := e.s

theorem sumN_le1 {f g : En → Int} {d : Int} : ∀ {L : List En} {i : Nat} (hi : i < L.length), (∀ e ∈ L, f e ≤ g e) → f L[i] + d ≤ g L[i] → sumN f L + d ≤ sumN g L
  | e :: L, 0, hi, h, hd => by
    rw [sumN_cons, sumN_cons]
    have := sumN_le (f := f) (g := g) (L := L) fun x hx => h x (by simp [hx])
    simp only [List.getElem_cons_zero] at hd
    omega
  | e :: L, i + 1, hi, h, hd => by
    rw [sumN_cons, sumN_cons]
    have := h e (by simp)
    have := sumN_le1 (f := f) (g := g) (d := d) (L := L) (i := i) (by simpa using hi) (fun x hx => h x (by simp [hx])) (by simpa using hd)
    omega
theorem sumN_congr {f g : En → Int} {L : List En} (h : ∀ e ∈ L, f e = g e) : sumN f L = sumN g L :=
  Int.le_antisymm (sumN_le fun e he => by rw [h e he]; exact Int.le_refl _) (sumN_le fun e he => by rw [h e he]; exact Int.le_refl _)
theorem sumN_const {c : Int} : ∀ {L : List En}, sumN (fun _ => c) L = L.length * c
  | [] => by simp [sumN]
  | e :: L => by rw [sumN_cons, sumN_const]; simp only [List.length_cons]; rw [Int.natCast_succ, Int.add_mul]; omega
theorem sumN_mul' {f : En → Int} {c : Int} {L : List En} : sumN (fun e => c * f e) L = c * sumN f L := by
  rw [Int.mul_comm, ← sumN_mul]
  exact sumN_congr fun e _ => Int.mul_comm _ _

/-- Unit and share of each. -/
def keys (L : List En) : List (Int × Int) := L.map fun e => (e.u, e.s)
theorem keys_set {L : List En} {b : Nat} {e : En} (h : b < L.length) (hu : e.u = L[b].u) (hs : e.s = L[b].s) : keys (L.set b e) = keys L := by
  unfold keys
  rw [List.map_set]
  apply List.ext_getElem
  · simp
  · intro j h1 h2
    rw [List.getElem_set]
    split
    · rename_i h3; subst h3; simp [hu, hs]
    · rfl
theorem keys_sum {L L' : List En} (h : keys L = keys L') : sumN sI L = sumN sI L' := by
  have e : ∀ L : List En, sumN sI L = ((keys L).map Prod.snd).foldr (· + ·) 0 := fun L => by
    unfold sumN keys sI; rw [List.map_map]; rfl
  rw [e, e, h]
theorem keys_len {L L' : List En} (h : keys L = keys L') : L.length = L'.length := by
  have := congrArg List.length h
  simpa [keys] using this
theorem keys_get {L L' : List En} (h : keys L = keys L') {i : Nat} (hi : i < L.length) : L[i].u = (L'[i]'(by rw [← keys_len h]; exact hi)).u ∧ L[i].s = (L'[i]'(by rw [← keys_len h]; exact hi)).s := by
  have h1 : (keys L)[i]'(by simpa [keys] using hi) = (L[i].u, L[i].s) := by simp [keys]
  have h2 : (keys L')[i]'(by simpa [keys, ← keys_len h] using hi) = ((L'[i]'(by rw [← keys_len h]; exact hi)).u, (L'[i]'(by rw [← keys_len h]; exact hi)).s) := by simp [keys]
  have h3 : (keys L)[i]'(by simpa [keys] using hi) = (keys L')[i]'(by simpa [keys, ← keys_len h] using hi) := by congr 1
  rw [h1, h2] at h3
  exact ⟨congrArg Prod.fst h3, congrArg Prod.snd h3⟩

theorem pick_some {L : List En} {off : Int → Bool} {b : Nat} (h : bst L off L.length = some b) (hb : b < L.length) : pick L off = L.set b L[b].up := by
  unfold pick
  rw [h]
  simp only
  rw [getElem!_pos L b hb]

theorem pick_keys {L : List En} {off : Int → Bool} (hs : ∀ e ∈ L, 0 < e.s) : keys (pick L off) = keys L := by
  have := bst_spec (off := off) hs L.length (Nat.le_refl _)
  cases h : bst L off L.length with
  | none => unfold pick; rw [h]
  | some b =>
    rw [h] at this
    rw [pick_some h this.1]
    exact keys_set this.1 rfl rfl

theorem pos_keys {L L' : List En} (h : keys L = keys L') (hs : ∀ e ∈ L, 0 < e.s) : ∀ e ∈ L', 0 < e.s := by
  intro e he
  obtain ⟨i, hi, rfl⟩ := List.getElem_of_mem he
  have hi' : i < L.length := by rw [keys_len h]; exact hi
  rw [← (keys_get h hi').2]
  exact hs _ (List.getElem_mem hi')

/-- Of one that never is off: none is more than one ahead of it, by share. -/
def Fair (L : List En) (i : Nat) : Prop := ∀ (hi : i < L.length) (j : Nat) (hj : j < L.length), (L[j].g : Int) * L[i].s ≤ ((L[i].g : Int) + 1) * L[j].s

theorem pick_fair {L : List En} {off : Int → Bool} {i : Nat} (hs : ∀ e ∈ L, 0 < e.s) (hi : i < L.length) (ho : off L[i].u = false) (h : Fair L i) :
    Fair (pick L off) i ∧ sumN gI (pick L off) = sumN gI L + 1 ∧ ∃ b, bst L off L.length = some b := by
  have sp := bst_spec (off := off) hs L.length (Nat.le_refl _)
  cases hb : bst L off L.length with
  | none =>
    rw [hb] at sp
    have := sp i hi
    rw [getElem!_pos L i hi, ho] at this; cases this
  | some b =>
    rw [hb] at sp
    obtain ⟨h1, h2, h3⟩ := sp
    have nah := h3 i hi (by rw [getElem!_pos L i hi]; exact ho)
    rw [getElem!_pos L i hi, getElem!_pos L b h1] at nah
    unfold ahd at nah
    rw [pick_some hb h1]
    refine ⟨fun hi' j hj => ?_, sumN_set h1 (by show ((L[b].g + 1 : Nat) : Int) = (L[b].g : Int) + 1; omega), b, rfl⟩
    have hj' : j < L.length := by simpa using hj
    have hf := h hi j hj'
    have psi := hs _ (List.getElem_mem hi)
    have psj := hs _ (List.getElem_mem hj')
    rw [List.getElem_set, List.getElem_set]
    by_cases e1 : b = j
    · subst e1
      by_cases e2 : b = i
      · subst e2
        simp only [if_true]
        show ((L[b].g + 1 : Nat) : Int) * L[b].s ≤ (((L[b].g + 1 : Nat) : Int) + 1) * L[b].s
        exact Int.mul_le_mul_of_nonneg_right (by omega) (by omega)
      · simp only [if_true, if_neg e2]
        show ((L[b].g + 1 : Nat) : Int) * L[i].s ≤ ((L[i].g : Int) + 1) * L[b].s
        rw [Int.natCast_succ]; omega
    · by_cases e2 : b = i
      · subst e2
        simp only [if_true, if_neg e1]
        show (L[j].g : Int) * L[b].s ≤ (((L[b].g + 1 : Nat) : Int) + 1) * L[j].s
        have : ((L[b].g : Int) + 1) * L[j].s ≤ (((L[b].g + 1 : Nat) : Int) + 1) * L[j].s := Int.mul_le_mul_of_nonneg_right (by omega) (by omega)
        omega
      · simp only [if_neg e1, if_neg e2]; exact hf

/-- Nobody is left behind. -/
theorem fair_sum {L : List En} {i : Nat} (hs : ∀ e ∈ L, 0 < e.s) (hi : i < L.length) (h : Fair L i) : sumN gI L * L[i].s + L[i].s ≤ ((L[i].g : Int) + 1) * sumN sI L := by
  rw [← sumN_mul, ← sumN_mul']
  refine sumN_le1 hi (fun e he => ?_) ?_
  · obtain ⟨j, hj, rfl⟩ := List.getElem_of_mem he
    exact h hi j hj
  · show (L[i].g : Int) * L[i].s + L[i].s ≤ ((L[i].g : Int) + 1) * L[i].s
    rw [Int.add_mul]; omega

theorem sum_pos {L : List En} (hs : ∀ e ∈ L, 0 < e.s) {i : Nat} (hi : i < L.length) : L[i].s ≤ sumN sI L := by
  have := sumN_le1 (f := fun _ => 0) (g := sI) (d := L[i].s) hi (fun e he => by have := hs e he; show 0 ≤ e.s; omega) (by show 0 + L[i].s ≤ L[i].s; omega)
  rw [sumN_const] at this
  simpa using this

/-- As many picks as all shares: it has its own. -/
theorem fair_share {L : List En} {i : Nat} (hs : ∀ e ∈ L, 0 < e.s) (hi : i < L.length) (h : Fair L i) (ht : sumN sI L ≤ sumN gI L) : L[i].s ≤ L[i].g := by
  have h1 := fair_sum hs hi h
  have h2 := sum_pos hs hi
  have h3 := hs _ (List.getElem_mem hi)
  by_cases hc : L[i].s ≤ L[i].g
  · exact hc
  · exfalso
    have h4 : ((L[i].g : Int) + 1) * sumN sI L ≤ L[i].s * sumN sI L := Int.mul_le_mul_of_nonneg_right (by omega) (by omega)
    have h5 : sumN sI L * L[i].s ≤ sumN gI L * L[i].s := Int.mul_le_mul_of_nonneg_right ht (by omega)
    rw [Int.mul_comm (sumN sI L)] at h5
    omega

/-- Just as many: just its own. -/
theorem fair_just {L : List En} (hs : ∀ e ∈ L, 0 < e.s) (h : ∀ i, i < L.length → Fair L i) (ht : sumN gI L = sumN sI L) {i : Nat} (hi : i < L.length) : (L[i].g : Int) = L[i].s := by
  have h1 := fair_share hs hi (h i hi) (by omega)
  have h2 := sumN_le1 (f := sI) (g := gI) (d := L[i].g - L[i].s) hi (fun e he => by
    obtain ⟨j, hj, rfl⟩ := List.getElem_of_mem he
    exact fair_share hs hj (h j hj) (by omega)) (by show L[i].s + (L[i].g - L[i].s) ≤ (L[i].g : Int); omega)
  omega

/-- However many there are. -/
theorem fair_rest {L : List En} (hs : ∀ e ∈ L, 0 < e.s) (h : ∀ i, i < L.length → Fair L i) {t S : Int} (ht : sumN gI L = t) (hS : sumN sI L = S) {i : Nat} (hi : i < L.length) :
    (L[i].g : Int) * S - L[i].s * t ≤ ((L.length : Int) - 1) * S ∧ -((L[i].g : Int) * S - L[i].s * t) ≤ ((L.length : Int) - 1) * S := by
  have low : ∀ j (hj : j < L.length), -((L[j].g : Int) * S - L[j].s * t) ≤ S - L[j].s := fun j hj => by
    have h1 := fair_sum hs hj (h j hj)
    rw [ht, hS, Int.add_mul, Int.one_mul, Int.mul_comm t] at h1
    omega
  have hp := hs _ (List.getElem_mem hi)
  have hle := sum_pos hs hi
  rw [hS] at hle
  have e0 : sumN (fun e => -((e.g : Int) * S - e.s * t)) L = 0 := by
    have : sumN (fun e => gI e * -S + sI e * t) L = 0 := by
      rw [sumN_add, sumN_mul, sumN_mul, ht, hS, Int.mul_neg, Int.mul_comm t]; omega
    rw [← this]
    refine sumN_congr fun e _ => ?_
    show -((e.g : Int) * S - e.s * t) = (e.g : Int) * -S + e.s * t
    rw [Int.mul_neg]; omega
  have e1 : sumN (fun e => S - e.s) L = (L.length : Int) * S - S := by
    have : sumN (fun e => S + sI e * -1) L = (L.length : Int) * S - S := by
      rw [sumN_add, sumN_const, sumN_mul, hS]; omega
    rw [← this]
    exact sumN_congr fun e _ => by show S - e.s = S + e.s * -1; omega
  have up := sumN_le1 (f := fun e => -((e.g : Int) * S - e.s * t)) (g := fun e => S - e.s) (d := S - L[i].s + ((L[i].g : Int) * S - L[i].s * t)) hi (fun e he => by
    obtain ⟨j, hj, rfl⟩ := List.getElem_of_mem he
    exact low j hj) (by show -((L[i].g : Int) * S - L[i].s * t) + (S - L[i].s + ((L[i].g : Int) * S - L[i].s * t)) ≤ S - L[i].s; omega)
  rw [e0, e1] at up
  have lo := low i hi
  have e2 : ((L.length : Int) - 1) * S = (L.length : Int) * S - S := by rw [Int.sub_mul, Int.one_mul]
  rw [e2]
  refine ⟨by omega, ?_⟩
  -- one alone: all is its own
  by_cases h1 : L.length = 1
  · have e3 : L[i].s = S := by
      match L, h1, hS, hi with
      | [e], _, hS, hi =>
        have : i = 0 := by simpa using hi
        subst this
        rw [← hS]; show e.s = e.s + 0; omega
    rw [h1]
    rw [h1] at e2
    have : ((1 : Nat) : Int) * S = S := by simp
    omega
  · have : 2 * S ≤ (L.length : Int) * S := Int.mul_le_mul_of_nonneg_right (by omega) (by omega)
    omega
end Go.Am


/- Slices at local_entry (Local): copies, what is found, what is left out. Printed out of SlcT.tmpl by slcgen.py. -/
set_option linter.unusedVariables false
set_option linter.unusedSimpArgs false
namespace Go.Am
variable {α : Type} {f : α → List Value} {m : Mem}

/-- Where the first one is that is so; -1: nowhere. -/
theorem le_Index {l : List α} {v fv : Value} {p : α → Bool} (hf : ∀ a, (f a).length = 3) (hs : Sl m 3 l.length (l.flatMap f) v) (hb : SlLt m v) (hl : l.length < 1000000)
    (hp : ∀ m1 x, Ext m m1 → gV R fv [.agg (f x).toArray] m1 fun r m' => r = .bool (p x) ∧ Ext m1 m') :
    WC R F.slices_IndexFunc_local_entry_local_entry [v, fv] m fun r m' => ((l.any p = false ∧ r = .int .i64 (-1)) ∨ ∃ i : Nat, ∃ h : i < l.length, r = .int .i64 i ∧ p l[i] = true ∧ ∀ j (hj : j < i), p (l[j]'(by omega)) = false) ∧ Ext m m' := by
  refine WC.of R.slices_IndexFunc_local_entry_local_entry rfl ?_
  simp only [RC.slices_IndexFunc_local_entry_local_entry, go_sem, Int.reduceBEq, Int.reduceBNe, Int.reduceNeg, reduceCtorEq, Nat.reduceEqDiff, Nat.reduceAdd, Nat.reduceLeDiff, Nat.reduceMul, Nat.reduceSub, Int.reduceToNat, Int.reduceLT, Int.reduceLE, hs.len]
  refine WL.of (fun n e m' => ∃ i : Nat, i ≤ l.length ∧ n = l.length - i ∧ e = [(0, v), (1, fv), (7, .int .i64 l.length), (8, .int .i64 i)] ∧ (∀ j (hj : j < l.length), j < i → p l[j] = false) ∧ Ext m m') l.length
    ⟨0, by omega, by omega, by simp only [go_sem, Int.reduceBEq, Int.reduceBNe, Int.reduceNeg, reduceCtorEq, Nat.reduceEqDiff, Nat.reduceAdd, Nat.reduceLeDiff, Nat.reduceMul, Nat.reduceSub, Int.reduceToNat, Int.reduceLT, Int.reduceLE] <;> rfl, fun _ _ h => by omega, Ext.refl _⟩ ?_
  rintro _ _ m1 ⟨i, hi, rfl, rfl, hj, hx⟩
  have hs1 := hs.keep hb hx
  simp only [RB.slices_IndexFunc_local_entry_local_entry_1, go_sem, Int.reduceBEq, Int.reduceBNe, Int.reduceNeg, reduceCtorEq, Nat.reduceEqDiff, Nat.reduceAdd, Nat.reduceLeDiff, Nat.reduceMul, Nat.reduceSub, Int.reduceToNat, Int.reduceLT, Int.reduceLE]
  refine gT.of (fun g1' => ?_) (fun g1' => ?_) <;> (have g1 := g1'; try simp only [decide_eq_true_eq, decide_eq_false_iff_not, beq_iff_eq, bne_iff_ne, beq_eq_false_iff_ne, ne_eq, Bool.not_eq_true', Bool.not_eq_false', bne_eq_false_iff_eq, Int.not_lt, Int.not_le] at g1)
  · have hil : i < l.length := by omega
    obtain ⟨b, o, a1, a2, a3, a4⟩ := hs1.elem hf (k := .i64) hil
    simp only [go_sem, Int.reduceBEq, Int.reduceBNe, Int.reduceNeg, reduceCtorEq, Nat.reduceEqDiff, Nat.reduceAdd, Nat.reduceLeDiff, Nat.reduceMul, Nat.reduceSub, Int.reduceToNat, Int.reduceLT, Int.reduceLE, g1', a1, a2]
    refine gV.of (hp m1 l[i] hx) ?_
    rintro _ m2 ⟨rfl, hx2⟩
    simp only [go_sem, Int.reduceBEq, Int.reduceBNe, Int.reduceNeg, reduceCtorEq, Nat.reduceEqDiff, Nat.reduceAdd, Nat.reduceLeDiff, Nat.reduceMul, Nat.reduceSub, Int.reduceToNat, Int.reduceLT, Int.reduceLE]
    refine gT.of (fun g2 => ?_) (fun g2 => ?_)
    · simp only [go_sem, Int.reduceBEq, Int.reduceBNe, Int.reduceNeg, reduceCtorEq, Nat.reduceEqDiff, Nat.reduceAdd, Nat.reduceLeDiff, Nat.reduceMul, Nat.reduceSub, Int.reduceToNat, Int.reduceLT, Int.reduceLE]
      exact ⟨.inr ⟨i, hil, rfl, g2, fun j hj2 => hj j (by omega) hj2⟩, hx.trans hx2⟩
    · have w : IntKind.wrap .i64 ((i : Int) + 1) = ((i + 1 : Nat) : Int) := by rw [wrap_i64 (by omega) (by omega)]; rfl
      simp only [go_sem, Int.reduceBEq, Int.reduceBNe, Int.reduceNeg, reduceCtorEq, Nat.reduceEqDiff, Nat.reduceAdd, Nat.reduceLeDiff, Nat.reduceMul, Nat.reduceSub, Int.reduceToNat, Int.reduceLT, Int.reduceLE, w]
      refine ⟨l.length - (i + 1), by omega, i + 1, by omega, rfl, rfl, fun j h1 h2 => ?_, hx.trans hx2⟩
      by_cases e : j = i
      · subst e; exact g2
      · exact hj j h1 (by omega)
  · have : i = l.length := by omega
    subst this
    simp only [go_sem, Int.reduceBEq, Int.reduceBNe, Int.reduceNeg, reduceCtorEq, Nat.reduceEqDiff, Nat.reduceAdd, Nat.reduceLeDiff, Nat.reduceMul, Nat.reduceSub, Int.reduceToNat, Int.reduceLT, Int.reduceLE, g1']
    refine ⟨.inl ?_, hx⟩
    refine List.any_eq_false.2 fun x hx' => ?_
    obtain ⟨j, h1, rfl⟩ := List.getElem_of_mem hx'
    rw [hj j h1 h1]; simp
theorem le_upd2 {all A B C : List Value} {o : Nat} (h : all = A ++ B ++ C) (ho : A.length = o) {X : List Value} (hl : X.length = B.length) : writeL all o X = A ++ X ++ C := by
  subst h
  unfold writeL
  have e1 : (A ++ B ++ C).take o = A := by rw [List.append_assoc]; exact List.take_left' ho
  have e2 : (A ++ B ++ C).drop (o + X.length) = C := List.drop_left' (by rw [List.length_append, ho, hl])
  rw [e1, e2]

/-- One left out; the last place is cleared. -/
theorem le_Delete1 {l : List α} {v : Value} {m0 : Mem} {i : Nat} (hf : ∀ a, (f a).length = 3) (h1 : ∀ a, oneCells (f a) = true) (ho : Own m0 m 3 l.length (l.flatMap f) v) (hx0 : Ext m0 m) (hl : l.length < 100000) (hi : i < l.length) :
    WC R F.slices_Delete_local_entry_local_entry [v, .int .i64 i, .int .i64 (i + 1 : Nat)] m fun r m' => Own m0 m' 3 (l.eraseIdx i).length ((l.eraseIdx i).flatMap f) r ∧ Ext m0 m' ∧ vb r = vb v ∧ Upd m m' (vb v) := by
  refine WC.of R.slices_Delete_local_entry_local_entry rfl ?_
  simp only [RC.slices_Delete_local_entry_local_entry, go_sem, Int.reduceBEq, Int.reduceBNe, Int.reduceNeg, reduceCtorEq, Nat.reduceEqDiff, Nat.reduceAdd, Nat.reduceLeDiff, Nat.reduceMul, Nat.reduceSub, Int.reduceToNat, Int.reduceLT, Int.reduceLE]
  cases ho with
  | nil h hc => omega
  | @«at» b c all hb hb2 hnc hm hal hcs hone =>
    have hun : unitOk 3 m b = true := unitOk_own hm
    have b3 : aSub 3 m (.slice (some ⟨b, 0, none⟩) l.length c) (some (.int .i64 (i : Nat))) (some (.int .i64 ((i + 1 : Nat) : Int))) (some (.int .i64 (l.length : Nat))) = some (.slice (some ⟨b, 0 + i * 3, none⟩) (i + 1 - i) (l.length - i)) := by
      have q : ∀ (N n : Nat), n ≤ N → aBound N (.int .i64 (n : Nat)) = some n := fun N n h => by
        simp only [aBound]; rw [if_pos (by omega)]; simp
      simp only [aSub, hun, if_true, aBounds, q c l.length hnc, q l.length (i + 1) (by omega), q (i + 1) i (by omega), Option.bind_some, cutAt]
      rw [if_pos (by omega)]
    have ne : ((i : Int) == ((i + 1 : Nat) : Int)) = false := by rw [beq_eq_false_iff_ne]; omega
    have hunb : ∀ n, unitOk 3 (m.bump n) b = true := fun n => hun
    have c1 : ∀ n, aSub 3 (m.bump n) (.slice (some ⟨b, 0, none⟩) l.length c) none (some (.int .i64 (i : Nat))) none = some (.slice (some ⟨b, 0, none⟩) i c) := fun n => sub_to (hunb n) (by omega)
    have c2 : ∀ n, aSub 3 (m.bump n) (.slice (some ⟨b, 0, none⟩) l.length c) (some (.int .i64 ((i + 1 : Nat) : Int))) none none = some (.slice (some ⟨b, (i + 1) * 3, none⟩) (l.length - (i + 1)) (c - (i + 1))) := fun n => by
      have := sub_from (m := m.bump n) (b := b) (o := 0) (n := l.length) (c := c) (u := 3) (k := .i64) (i := i + 1) (hunb n) (by omega) hnc
      rw [Nat.zero_add] at this; exact this
    have key : ∀ (q n : Nat), ∃ (m' : Mem) (X : List Value), aApp (some q) 3 24 (m.bump n) (.slice (some ⟨b, 0, none⟩) i c) (.slice (some ⟨b, (i + 1) * 3, none⟩) (l.length - (i + 1)) (c - (i + 1))) = some (.slice (some ⟨b, 0, none⟩) (l.length - 1) c, m') ∧
        X.length = 3 ∧ m'.blk b = some (.cells ((l.eraseIdx i).flatMap f ++ X ++ all.drop (l.length * 3)) (some 3)) ∧ Upd m m' [b] := by
      intro q n
      have hbm : (m.bump n).blk b = some (.cells all (some 3)) := hm
      have hall : all = l.flatMap f ++ all.drop (l.length * 3) := by rw [← hcs, List.take_append_drop]
      generalize all.drop (l.length * 3) = sp at hall ⊢
      have hle : l.length * 3 ≤ c * 3 := Nat.mul_le_mul_right _ hnc
      have e0 : l = l.take i ++ l[i] :: l.drop (i + 1) := by rw [← List.drop_eq_getElem_cons hi, List.take_append_drop]
      have hti : ((l.take i).flatMap f).length = i * 3 := by rw [flat_len hf, List.length_take]; congr 1; omega
      have hdi : ((l.drop (i + 1)).flatMap f).length = (l.length - (i + 1)) * 3 := by rw [flat_len hf, List.length_drop]
      have hE : l.eraseIdx i = l.take i ++ l.drop (i + 1) := List.eraseIdx_eq_take_drop_succ ..
      have hl2 : l.flatMap f = (l.take i).flatMap f ++ (f l[i] ++ (l.drop (i + 1)).flatMap f) := by
        conv => lhs; rw [e0]
        rw [List.flatMap_append, List.flatMap_cons]
      by_cases hk : l.length - (i + 1) = 0
      · have hd : l.drop (i + 1) = [] := List.eq_nil_of_length_eq_zero (by rw [List.length_drop]; exact hk)
        refine ⟨m.bump n, f l[i], ?_, hf _, ?_, Ext.bump.upd⟩
        · rw [hk]
          simp only [aApp, sliceLen, Option.bind_some, aSrc, if_true]
          rw [if_pos ⟨by omega, by rw [hbm]; rfl⟩, show i = l.length - 1 by omega]
        · rw [hbm, hE, hd, List.append_nil, hall, hl2, hd, List.flatMap_nil, List.append_nil]
      · have hsl : Sl (m.bump n) 3 (l.length - (i + 1)) ((l.drop (i + 1)).flatMap f) (.slice (some ⟨b, (i + 1) * 3, none⟩) (l.length - (i + 1)) (c - (i + 1))) := by
          refine .at (by omega) ?_
          unfold aCells
          rw [hbm]
          have e1 : all.length = c * 3 := hal
          have e2 : (i + 1) * 3 + (l.length - (i + 1)) * 3 = l.length * 3 := by rw [← Nat.add_mul]; congr 1; omega
          have e3 : all.drop ((i + 1) * 3) = (l.drop (i + 1)).flatMap f ++ sp := by
            rw [hall, hl2]
            have : ((l.take i).flatMap f ++ (f l[i] ++ (l.drop (i + 1)).flatMap f) ++ sp) = ((l.take i).flatMap f ++ f l[i]) ++ ((l.drop (i + 1)).flatMap f ++ sp) := by simp only [List.append_assoc]
            rw [this]
            exact List.drop_left' (by rw [List.length_append, hti, hf, Nat.succ_mul])
          simp only
          rw [if_pos (by omega), e3, List.take_left' hdi]
        obtain ⟨s1, s2⟩ := hsl.src
        have oneD : oneCells ((l.drop (i + 1)).flatMap f) = true := by
          unfold oneCells
          rw [List.all_eq_true]
          intro x hx
          obtain ⟨y, _, hy⟩ := List.mem_flatMap.1 hx
          have := h1 y
          unfold oneCells at this
          exact List.all_eq_true.1 this x hy
        obtain ⟨B, X, hBX, hBl, hXl⟩ : ∃ B X : List Value, f l[i] ++ (l.drop (i + 1)).flatMap f = B ++ X ∧ B.length = (l.length - (i + 1)) * 3 ∧ X.length = 3 := by
          refine ⟨_, _, (List.take_append_drop ((l.length - (i + 1)) * 3) _).symm, ?_, ?_⟩
          · rw [List.length_take, List.length_append, hdi]; omega
          · rw [List.length_drop, List.length_append, hdi, hf]; omega
        have hw : writeL all (i * 3) ((l.drop (i + 1)).flatMap f) = (l.eraseIdx i).flatMap f ++ X ++ sp := by
          rw [le_upd2 (A := (l.take i).flatMap f) (B := B) (C := X ++ sp) (by rw [hall, hl2, hBX]; simp only [List.append_assoc]) hti (by rw [hdi, hBl]), hE, List.flatMap_append]
          simp only [List.append_assoc]
        have hlen : i * 3 + (l.length - (i + 1)) * 3 ≤ all.length := by
          have e1 : all.length = c * 3 := hal
          have : i * 3 + (l.length - (i + 1)) * 3 ≤ l.length * 3 := by rw [← Nat.add_mul]; exact Nat.mul_le_mul_right _ (by omega)
          omega
        refine ⟨(m.bump n).set b (some (.cells ((l.eraseIdx i).flatMap f ++ X ++ sp) (some 3))), X, ?_, hXl, by simp [Mem.set], Ext.bump.upd.trans (Upd.set (fp := [b]) (by simp)) (fun _ h => h) (fun _ h => .inl h)⟩
        simp only [aApp, s2, Option.bind_some, s1, hk, if_false, Nat.zero_add]
        rw [if_pos (by omega)]
        unfold aWrite
        rw [hbm]
        simp only
        rw [if_pos ⟨by omega, oneD⟩, hw, show i + (l.length - (i + 1)) = l.length - 1 by omega]
        rfl
    obtain ⟨m1, X, k1, k2, k3, k4⟩ := key (m.next + 6) 8
    have hE2 : (l.eraseIdx i).length = l.length - 1 := by rw [List.length_eraseIdx]; simp [hi]
    have hfe : ((l.eraseIdx i).flatMap f).length = (l.length - 1) * 3 := by rw [flat_len hf, hE2]
    have hun1 : unitOk 3 m1 b = true := unitOk_own k3
    have c3 : aSub 3 m1 (.slice (some ⟨b, 0, none⟩) (l.length - 1) c) (some (.int .i64 ((l.length - 1 : Nat) : Int))) (some (.int .i64 (l.length : Nat))) none = some (.slice (some ⟨b, (l.length - 1) * 3, none⟩) 1 (c - (l.length - 1))) := by
      have := sub_both (m := m1) (b := b) (o := 0) (n := l.length - 1) (c := c) (u := 3) (k := .i64) (k' := .i64) (i := l.length - 1) (j := l.length) hun1 (by omega) hnc
      rw [Nat.zero_add, show l.length - (l.length - 1) = 1 by omega] at this
      exact this
    have hclr : aClr 3 [(.int .i64 0), (.int .i64 0), (.int .i64 0)] m1 (.slice (some ⟨b, (l.length - 1) * 3, none⟩) 1 (c - (l.length - 1))) = some (m1.set b (some (.cells ((l.eraseIdx i).flatMap f ++ [(.int .i64 0), (.int .i64 0), (.int .i64 0)] ++ all.drop (l.length * 3)) (some 3)))) := by
      simp only [aClr]
      rw [if_neg (by omega), if_pos (show ([(.int .i64 0), (.int .i64 0), (.int .i64 0)] : List Value).length = 3 from rfl)]
      unfold aWrite
      rw [k3]
      have hz : zeros [(.int .i64 0), (.int .i64 0), (.int .i64 0)] 1 = [(.int .i64 0), (.int .i64 0), (.int .i64 0)] := by simp [zeros]
      rw [hz]
      simp only
      rw [if_pos ⟨by simp only [List.length_append, hfe, k2, List.length_cons, List.length_nil]; omega, rfl⟩]
      congr 4
      exact le_upd2 rfl hfe (by rw [k2]; rfl)
    simp only [go_sem, Int.reduceBEq, Int.reduceBNe, Int.reduceNeg, reduceCtorEq, Nat.reduceEqDiff, Nat.reduceAdd, Nat.reduceLeDiff, Nat.reduceMul, Nat.reduceSub, Int.reduceToNat, Int.reduceLT, Int.reduceLE, len_s, b3, ne, c1, c2]
    rw [k1]
    simp only [go_sem, Int.reduceBEq, Int.reduceBNe, Int.reduceNeg, reduceCtorEq, Nat.reduceEqDiff, Nat.reduceAdd, Nat.reduceLeDiff, Nat.reduceMul, Nat.reduceSub, Int.reduceToNat, Int.reduceLT, Int.reduceLE, len_s, c3, hclr]
    have hu : Upd m (m1.set b (some (.cells ((l.eraseIdx i).flatMap f ++ [(.int .i64 0), (.int .i64 0), (.int .i64 0)] ++ all.drop (l.length * 3)) (some 3)))) [b] := k4.trans (Upd.set (fp := [b]) (by simp)) (fun _ h => h) (fun _ h => .inl h)
    refine ⟨?_, hu.ext_of hx0 (by simpa using hb), rfl, hu⟩
    rw [← hE2]
    refine .at (all := (l.eraseIdx i).flatMap f ++ [(.int .i64 0), (.int .i64 0), (.int .i64 0)] ++ all.drop (l.length * 3)) hb (Nat.lt_of_lt_of_le hb2 hu.next) (by omega) (by simp [Mem.set]) ?_ ?_ ?_
    · have e1 : l.length * 3 ≤ c * 3 := Nat.mul_le_mul_right _ hnc
      have e2 : (l.length - 1) * 3 + 3 = l.length * 3 := by rw [← Nat.succ_mul]; congr 1; omega
      simp only [List.length_append, hfe, List.length_drop, hal, List.length_cons, List.length_nil]
      omega
    · rw [List.append_assoc, List.take_left' (by rw [hfe, hE2])]
    · unfold oneCells
      rw [List.all_eq_true]
      intro x hx
      obtain ⟨y, _, hy⟩ := List.mem_flatMap.1 hx
      have := h1 y
      unfold oneCells at this
      exact List.all_eq_true.1 this x hy
end Go.Am


/- What a sort stands on: a row of elements in a block, a function that compares. -/
set_option linter.unusedVariables false
namespace Go.Am
open Go.Sort

structure SortC (R : Nat → Option FEnt) (α : Type) [Inhabited α] (u : Nat) where
  f : α → List Value
  len : ∀ a, (f a).length = u
  one : ∀ a, oneCells (f a) = true
  cf : α → α → Int
  g : Nat
  cmp : ∀ (m : Mem) (x y : α), WC R g [.agg (f x).toArray, .agg (f y).toArray] m fun r m' => r = .int .i64 (cf x y) ∧ Ext m m'
  b : Nat
  o : Nat
  n : Nat
  c : Nat
  pre : List Value
  post : List Value
  hpre : pre.length = o
  m0 : Mem
  small : n < 1000000

variable {R : Nat → Option FEnt} {α : Type} [Inhabited α] {u : Nat} {S : SortC R α u} {m m' : Mem} {d : Array α}

def SortC.sv (S : SortC R α u) : Value := .slice (some ⟨S.b, S.o, none⟩) S.n S.c
def SortC.lt (S : SortC R α u) (x y : α) : Bool := decide (S.cf x y < 0)
abbrev SortC.cv (S : SortC R α u) : Value := .func (.func S.g) #[] #[]

structure SortC.Row (S : SortC R α u) (m : Mem) (d : Array α) : Prop where
  at_ : m.blk S.b = some (.cells (S.pre ++ d.toList.flatMap S.f ++ S.post) (some u))
  lt : S.b < m.next
  size : d.size = S.n
  upd : Upd S.m0 m [S.b]

theorem SortC.Row.keep (h : S.Row m d) (hx : Ext m m') : S.Row m' d := ⟨by rw [hx.same _ h.lt]; exact h.at_, Nat.lt_of_lt_of_le h.lt hx.next, h.size, h.upd.trans (hx.upd (fp := [])) (fun _ h => h) (fun _ h => by simp at h)⟩

theorem SortC.ix (S : SortC R α u) {i : Nat} (hi : i < S.n) : aIdxS u S.sv (.int .i64 (i : Nat)) = some (.pointer (some ⟨S.b, S.o + i * u, none⟩)) := by
  simp only [SortC.sv, aIdxS]
  rw [if_pos (by omega), Int.toNat_natCast]

theorem SortC.Row.cut (h : S.Row m d) {i : Nat} (hi : i < S.n) : S.pre ++ d.toList.flatMap S.f ++ S.post = (S.pre ++ (d.toList.take i).flatMap S.f) ++ (S.f d[i]! ++ ((d.toList.drop (i + 1)).flatMap S.f ++ S.post)) ∧ (S.pre ++ (d.toList.take i).flatMap S.f).length = S.o + i * u := by
  have hs : i < d.toList.length := by rw [Array.length_toList, h.size]; exact hi
  have e : d.toList = d.toList.take i ++ d[i]! :: d.toList.drop (i + 1) := by
    conv => lhs; rw [← List.take_append_drop i d.toList, List.drop_eq_getElem_cons hs]
    congr 2
    rw [Array.getElem_toList, getElem!_pos d i (by simpa using hs)]
  constructor
  · conv => lhs; rw [e]
    simp only [List.flatMap_append, List.flatMap_cons, List.append_assoc]
  · rw [List.length_append, S.hpre, flat_len S.len, List.length_take]
    congr 2; omega

theorem SortC.Row.ld (h : S.Row m d) {i : Nat} (hi : i < S.n) : aLoad true u m (.pointer (some ⟨S.b, S.o + i * u, none⟩)) = some (.agg (S.f d[i]!).toArray) := by
  obtain ⟨e1, e2⟩ := h.cut hi
  refine load_agg ?_
  unfold aCells
  rw [h.at_, e1]
  simp only
  have hl := S.len d[i]!
  rw [if_pos (by simp only [List.length_append] at e2 ⊢; omega), ← e2, List.drop_left, List.take_left' hl]

theorem SortC.Row.st (h : S.Row m d) {i : Nat} (hi : i < S.n) (x : α) : ∃ m', aStore u m (.pointer (some ⟨S.b, S.o + i * u, none⟩)) (.agg (S.f x).toArray) = some m' ∧ S.Row m' (d.setIfInBounds i x) := by
  obtain ⟨e1, e2⟩ := h.cut hi
  have hl := S.len d[i]!
  have hx := S.len x
  have hs : i < d.toList.length := by rw [Array.length_toList, h.size]; exact hi
  have ew : writeL (S.pre ++ d.toList.flatMap S.f ++ S.post) (S.o + i * u) (S.f x) = S.pre ++ (d.setIfInBounds i x).toList.flatMap S.f ++ S.post := by
    rw [e1]
    unfold writeL
    rw [← e2, List.take_left, hx, ← List.drop_drop, List.drop_left, List.drop_left' hl]
    rw [Array.toList_setIfInBounds, List.set_eq_take_append_cons_drop, if_pos hs]
    simp only [List.flatMap_append, List.flatMap_cons, List.append_assoc]
  refine ⟨m.set S.b (some (.cells (S.pre ++ (d.setIfInBounds i x).toList.flatMap S.f ++ S.post) (some u))), ?_, ?_, h.lt, by simpa using h.size, h.upd.trans (Upd.set (fp := [S.b]) (by simp)) (fun _ h => h) (fun _ h => .inl h)⟩
  · simp only [aStore]
    rw [if_pos (show (Value.agg (S.f x).toArray).cells.size = u by show (S.f x).toArray.size = u; simpa using hx)]
    show aWrite m S.b _ (S.f x).toArray.toList = _
    rw [List.toList_toArray]
    unfold aWrite
    rw [h.at_]
    simp only
    rw [if_pos ⟨by rw [e1]; simp only [List.length_append] at e2 ⊢; omega, S.one x⟩, ew]
  · simp [Mem.set]

theorem SortC.Row.sw (h : S.Row m d) {i j : Nat} (hi : i < S.n) (hj : j < S.n) : ∃ m1 m2, aStore u m (.pointer (some ⟨S.b, S.o + i * u, none⟩)) (.agg (S.f d[j]!).toArray) = some m1 ∧
    aStore u m1 (.pointer (some ⟨S.b, S.o + j * u, none⟩)) (.agg (S.f d[i]!).toArray) = some m2 ∧ S.Row m2 (swp d i j) := by
  obtain ⟨m1, a1, h1⟩ := h.st hi d[j]!
  obtain ⟨m2, a2, h2⟩ := h1.st hj d[i]!
  exact ⟨m1, m2, a1, a2, h2⟩

theorem SortC.lt_t (S : SortC R α u) {x y : α} (h : S.cf x y < 0) : S.lt x y = true := by simp [SortC.lt, h]
theorem SortC.lt_f (S : SortC R α u) {x y : α} (h : ¬ S.cf x y < 0) : S.lt x y = false := by simp [SortC.lt]; omega
theorem SortC.lt_f' (S : SortC R α u) {x y : α} (h : 0 ≤ S.cf x y) : S.lt x y = false := by simp [SortC.lt]; omega

/-! ### numbers -/
theorem nadd {i k : Nat} (h : i + k < 4000000) : IntKind.wrap .i64 ((i : Int) + (k : Nat)) = ((i + k : Nat) : Int) := by rw [wrap_i64 (by omega) (by omega)]; omega
theorem nadd1 {i : Nat} (h : i < 4000000) : IntKind.wrap .i64 ((i : Int) + 1) = ((i + 1 : Nat) : Int) := by rw [wrap_i64 (by omega) (by omega)]; omega
theorem nsub {i k : Nat} (h : k ≤ i) (h2 : i < 4000000) : IntKind.wrap .i64 ((i : Int) - (k : Nat)) = ((i - k : Nat) : Int) := by rw [wrap_i64 (by omega) (by omega)]; omega
theorem nsub1 {i : Nat} (h : 0 < i) (h2 : i < 4000000) : IntKind.wrap .i64 ((i : Int) - 1) = ((i - 1 : Nat) : Int) := by rw [wrap_i64 (by omega) (by omega)]; omega
theorem nmul {i : Nat} {k : Nat} (h : k * i < 4000000) : IntKind.wrap .i64 ((k : Int) * (i : Nat)) = ((k * i : Nat) : Int) := by
  have : ((k : Int) * (i : Nat)) = ((k * i : Nat) : Int) := by simp
  rw [this, wrap_i64 (by omega) (by omega)]
end Go.Am


/- Sorting a row at local_entry (Local): insertion, reversal, the pivot. Printed out of SortT1.tmpl by sortgen.py. -/
set_option linter.unusedVariables false
set_option linter.unusedSimpArgs false
namespace Go.Am
open Go.Sort
variable {α : Type} [Inhabited α] {S : SortC R α 3} {m : Mem} {d : Array α}

theorem so_ins1 {a j : Nat} {vb vi : Value} (h : S.Row m d) (hj : j < S.n) (ha : a < 2000000) :
    WL R [0, 1, 2, 3, 8, 9] RB.slices_insertionSortCmpFunc_local_entry_1 [(0, S.sv), (1, .int .i64 a), (2, vb), (3, S.cv), (8, vi), (9, .int .i64 j)] m fun x e m' =>
      x = .exit 2 ∧ (∃ q, e = [(0, S.sv), (1, .int .i64 a), (2, vb), (3, S.cv), (8, vi), (9, q), (34, .bool false)]) ∧ S.Row m' (insInner S.lt a j d) := by
  have hn := S.small
  refine WL.of (fun r e m' => ∃ (k : Nat) (d' : Array α), k < S.n ∧ r = k ∧ e = [(0, S.sv), (1, .int .i64 a), (2, vb), (3, S.cv), (8, vi), (9, .int .i64 k)] ∧ S.Row m' d' ∧ insInner S.lt a k d' = insInner S.lt a j d) j
    ⟨j, d, hj, rfl, by simp only [go_sem, Int.reduceBEq, Int.reduceBNe, Int.reduceNeg, reduceCtorEq, Nat.reduceEqDiff, Nat.reduceAdd, Nat.reduceLeDiff, Nat.reduceMul, Nat.reduceSub, Int.reduceToNat, Int.reduceLT, Int.reduceLE] <;> rfl, h, rfl⟩ ?_
  rintro n _ m1 ⟨k, d', hk, hr, rfl, h1, he⟩
  simp only [RB.slices_insertionSortCmpFunc_local_entry_1, go_sem, Int.reduceBEq, Int.reduceBNe, Int.reduceNeg, reduceCtorEq, Nat.reduceEqDiff, Nat.reduceAdd, Nat.reduceLeDiff, Nat.reduceMul, Nat.reduceSub, Int.reduceToNat, Int.reduceLT, Int.reduceLE]
  refine gT.of (fun g1' => ?_) (fun g1' => ?_) <;> (have g1 := g1'; try simp only [decide_eq_true_eq, decide_eq_false_iff_not, beq_iff_eq, bne_iff_ne, beq_eq_false_iff_ne, ne_eq, Bool.not_eq_true', Bool.not_eq_false', bne_eq_false_iff_eq, Int.not_lt, Int.not_le] at g1)
  · obtain ⟨k, rfl⟩ : ∃ k', k = k' + 1 := ⟨k - 1, by omega⟩
    have hk0 : k < S.n := by omega
    have e1 := nsub1 (i := k + 1) (by omega) (by omega)
    simp only [Nat.add_sub_cancel] at e1
    simp only [go_sem, Int.reduceBEq, Int.reduceBNe, Int.reduceNeg, reduceCtorEq, Nat.reduceEqDiff, Nat.reduceAdd, Nat.reduceLeDiff, Nat.reduceMul, Nat.reduceSub, Int.reduceToNat, Int.reduceLT, Int.reduceLE, g1', e1, S.ix hk, S.ix hk0, h1.ld hk, h1.ld hk0]
    refine gC.of (S.cmp m1 d'[k + 1]! d'[k]!) ?_
    rintro _ m2 ⟨rfl, hx2⟩
    simp only [go_sem, Int.reduceBEq, Int.reduceBNe, Int.reduceNeg, reduceCtorEq, Nat.reduceEqDiff, Nat.reduceAdd, Nat.reduceLeDiff, Nat.reduceMul, Nat.reduceSub, Int.reduceToNat, Int.reduceLT, Int.reduceLE]
    have h2 := h1.keep hx2
    refine gT.of (fun g2' => ?_) (fun g2' => ?_) <;> (have g2 := g2'; try simp only [decide_eq_true_eq, decide_eq_false_iff_not, beq_iff_eq, bne_iff_ne, beq_eq_false_iff_ne, ne_eq, Bool.not_eq_true', Bool.not_eq_false', bne_eq_false_iff_eq, Int.not_lt, Int.not_le] at g2)
    · obtain ⟨n1, n2, t1, t2, h3⟩ := h2.sw hk hk0
      simp only [go_sem, Int.reduceBEq, Int.reduceBNe, Int.reduceNeg, reduceCtorEq, Nat.reduceEqDiff, Nat.reduceAdd, Nat.reduceLeDiff, Nat.reduceMul, Nat.reduceSub, Int.reduceToNat, Int.reduceLT, Int.reduceLE, g2', e1, S.ix hk, S.ix hk0, h2.ld hk, h2.ld hk0, t1, t2]
      refine ⟨k, by omega, k, _, hk0, rfl, rfl, h3, ?_⟩
      rw [← he]
      simp only [insInner, S.lt_t g2]
      rw [if_pos (by simp; omega)]
    · simp only [go_sem, Int.reduceBEq, Int.reduceBNe, Int.reduceNeg, reduceCtorEq, Nat.reduceEqDiff, Nat.reduceAdd, Nat.reduceLeDiff, Nat.reduceMul, Nat.reduceSub, Int.reduceToNat, Int.reduceLT, Int.reduceLE, g2']
      rw [← he]
      simp only [insInner, S.lt_f' g2, Bool.and_false, Bool.false_eq_true, if_false]
      exact ⟨⟨_, rfl⟩, h1.keep hx2⟩
  · simp only [go_sem, Int.reduceBEq, Int.reduceBNe, Int.reduceNeg, reduceCtorEq, Nat.reduceEqDiff, Nat.reduceAdd, Nat.reduceLeDiff, Nat.reduceMul, Nat.reduceSub, Int.reduceToNat, Int.reduceLT, Int.reduceLE, g1']
    rw [← he]
    cases k with
    | zero => exact ⟨⟨_, rfl⟩, by simpa [insInner] using h1⟩
    | succ k =>
      simp only [insInner]
      rw [if_neg (by simp; omega)]
      exact ⟨⟨_, rfl⟩, h1⟩

theorem so_ins {a b : Nat} (h : S.Row m d) (hb : b ≤ S.n) (ha : a ≤ b) : WC R F.slices_insertionSortCmpFunc_local_entry [S.sv, .int .i64 a, .int .i64 b, S.cv] m fun r m' => S.Row m' (insertionSort S.lt d a b) := by
  refine WC.of R.slices_insertionSortCmpFunc_local_entry rfl ?_
  have hn := S.small
  simp only [RC.slices_insertionSortCmpFunc_local_entry, go_sem, Int.reduceBEq, Int.reduceBNe, Int.reduceNeg, reduceCtorEq, Nat.reduceEqDiff, Nat.reduceAdd, Nat.reduceLeDiff, Nat.reduceMul, Nat.reduceSub, Int.reduceToNat, Int.reduceLT, Int.reduceLE, nadd1 (show a < 4000000 by omega)]
  refine WL.of (fun r e m' => ∃ (k : Nat) (d' : Array α), r = b - k ∧ k ≤ b + 1 ∧ e = [(0, S.sv), (1, .int .i64 a), (2, .int .i64 b), (3, S.cv), (8, .int .i64 k)] ∧ S.Row m' d' ∧ insOuter S.lt a b k d' = insertionSort S.lt d a b) (b - (a + 1))
    ⟨a + 1, d, rfl, by omega, by simp only [go_sem, Int.reduceBEq, Int.reduceBNe, Int.reduceNeg, reduceCtorEq, Nat.reduceEqDiff, Nat.reduceAdd, Nat.reduceLeDiff, Nat.reduceMul, Nat.reduceSub, Int.reduceToNat, Int.reduceLT, Int.reduceLE] <;> rfl, h, rfl⟩ ?_
  rintro _ _ m1 ⟨k, d', rfl, hk, rfl, h1, he⟩
  simp only [RB.slices_insertionSortCmpFunc_local_entry_2, go_sem, Int.reduceBEq, Int.reduceBNe, Int.reduceNeg, reduceCtorEq, Nat.reduceEqDiff, Nat.reduceAdd, Nat.reduceLeDiff, Nat.reduceMul, Nat.reduceSub, Int.reduceToNat, Int.reduceLT, Int.reduceLE]
  refine gT.of (fun g1' => ?_) (fun g1' => ?_) <;> (have g1 := g1'; try simp only [decide_eq_true_eq, decide_eq_false_iff_not, beq_iff_eq, bne_iff_ne, beq_eq_false_iff_ne, ne_eq, Bool.not_eq_true', Bool.not_eq_false', bne_eq_false_iff_eq, Int.not_lt, Int.not_le] at g1)
  · simp only [go_sem, Int.reduceBEq, Int.reduceBNe, Int.reduceNeg, reduceCtorEq, Nat.reduceEqDiff, Nat.reduceAdd, Nat.reduceLeDiff, Nat.reduceMul, Nat.reduceSub, Int.reduceToNat, Int.reduceLT, Int.reduceLE, g1']
    refine WL.mono (so_ins1 h1 (show k < S.n by omega) (by omega)) ?_
    rintro _ _ m2 ⟨rfl, ⟨q, rfl⟩, h2⟩
    simp only [go_sem, Int.reduceBEq, Int.reduceBNe, Int.reduceNeg, reduceCtorEq, Nat.reduceEqDiff, Nat.reduceAdd, Nat.reduceLeDiff, Nat.reduceMul, Nat.reduceSub, Int.reduceToNat, Int.reduceLT, Int.reduceLE, nadd1 (show k < 4000000 by omega)]
    refine ⟨b - (k + 1), by omega, k + 1, _, rfl, by omega, rfl, h2, ?_⟩
    rw [← he]
    conv => rhs; rw [insOuter, if_pos (by omega)]
  · simp only [go_sem, Int.reduceBEq, Int.reduceBNe, Int.reduceNeg, reduceCtorEq, Nat.reduceEqDiff, Nat.reduceAdd, Nat.reduceLeDiff, Nat.reduceMul, Nat.reduceSub, Int.reduceToNat, Int.reduceLT, Int.reduceLE, g1']
    rw [← he, insOuter, if_neg (by omega)]
    exact h1

theorem so_rev {a b : Nat} {cv : Value} (h : S.Row m d) (hb : b ≤ S.n) (ha : a < b) : WC R F.slices_reverseRangeCmpFunc_local_entry [S.sv, .int .i64 a, .int .i64 b, cv] m fun r m' => S.Row m' (reverseRange d a b) := by
  refine WC.of R.slices_reverseRangeCmpFunc_local_entry rfl ?_
  have hn := S.small
  simp only [RC.slices_reverseRangeCmpFunc_local_entry, go_sem, Int.reduceBEq, Int.reduceBNe, Int.reduceNeg, reduceCtorEq, Nat.reduceEqDiff, Nat.reduceAdd, Nat.reduceLeDiff, Nat.reduceMul, Nat.reduceSub, Int.reduceToNat, Int.reduceLT, Int.reduceLE, nsub1 (show 0 < b by omega) (show b < 4000000 by omega)]
  refine WL.of (fun r e m' => ∃ (i j : Nat) (d' : Array α), r = j - i ∧ i < S.n ∧ j < S.n ∧ e = [(0, S.sv), (8, .int .i64 i), (9, .int .i64 j)] ∧ S.Row m' d' ∧ reverseLoop i j d' = reverseRange d a b) (b - 1 - a)
    ⟨a, b - 1, d, rfl, by omega, by omega, by simp only [go_sem, Int.reduceBEq, Int.reduceBNe, Int.reduceNeg, reduceCtorEq, Nat.reduceEqDiff, Nat.reduceAdd, Nat.reduceLeDiff, Nat.reduceMul, Nat.reduceSub, Int.reduceToNat, Int.reduceLT, Int.reduceLE] <;> rfl, h, rfl⟩ ?_
  rintro _ _ m1 ⟨i, j, d', rfl, hi, hj, rfl, h1, he⟩
  simp only [RB.slices_reverseRangeCmpFunc_local_entry_1, go_sem, Int.reduceBEq, Int.reduceBNe, Int.reduceNeg, reduceCtorEq, Nat.reduceEqDiff, Nat.reduceAdd, Nat.reduceLeDiff, Nat.reduceMul, Nat.reduceSub, Int.reduceToNat, Int.reduceLT, Int.reduceLE]
  refine gT.of (fun g1' => ?_) (fun g1' => ?_) <;> (have g1 := g1'; try simp only [decide_eq_true_eq, decide_eq_false_iff_not, beq_iff_eq, bne_iff_ne, beq_eq_false_iff_ne, ne_eq, Bool.not_eq_true', Bool.not_eq_false', bne_eq_false_iff_eq, Int.not_lt, Int.not_le] at g1)
  · obtain ⟨n1, n2, t1, t2, h3⟩ := h1.sw hi hj
    simp only [go_sem, Int.reduceBEq, Int.reduceBNe, Int.reduceNeg, reduceCtorEq, Nat.reduceEqDiff, Nat.reduceAdd, Nat.reduceLeDiff, Nat.reduceMul, Nat.reduceSub, Int.reduceToNat, Int.reduceLT, Int.reduceLE, g1', S.ix hi, S.ix hj, h1.ld hi, h1.ld hj, t1, t2, nadd1 (show i < 4000000 by omega), nsub1 (show 0 < j by omega) (show j < 4000000 by omega)]
    refine ⟨j - 1 - (i + 1), by omega, i + 1, j - 1, _, rfl, by omega, by omega, rfl, h3, ?_⟩
    rw [← he]
    conv => rhs; rw [reverseLoop, if_pos (by omega)]
  · simp only [go_sem, Int.reduceBEq, Int.reduceBNe, Int.reduceNeg, reduceCtorEq, Nat.reduceEqDiff, Nat.reduceAdd, Nat.reduceLeDiff, Nat.reduceMul, Nat.reduceSub, Int.reduceToNat, Int.reduceLT, Int.reduceLE, g1']
    rw [← he, reverseLoop, if_neg (by omega)]
    exact h1

/-- A counter in a block of its own. -/
structure so_Cnt (m : Mem) (q s : Nat) : Prop where
  at_ : m.blk q = some (.cells [.int .i64 s] (some 1))
  lt : q < m.next
theorem so_Cnt.keep {m m' : Mem} {q s : Nat} (h : so_Cnt m q s) (hx : Ext m m') : so_Cnt m' q s := ⟨by rw [hx.same _ h.lt]; exact h.at_, Nat.lt_of_lt_of_le h.lt hx.next⟩

theorem SortC.Row.so_other {m' : Mem} {q : Nat} (h : S.Row m d) (hx : Upd m m' [q]) (hq : S.b ≠ q) (h0 : S.m0.next ≤ q) : S.Row m' d :=
  ⟨by rw [hx.same _ h.lt (by simpa using hq)]; exact h.at_, Nat.lt_of_lt_of_le h.lt hx.next, h.size, h.upd.trans hx (fun _ h => h) (fun x hx => by simp at hx; subst hx; exact .inr h0)⟩

theorem so_order2 {a b s q : Nat} (h : S.Row m d) (hc : so_Cnt m q s) (hq : S.b ≠ q) (h0 : S.m0.next ≤ q) (ha : a < S.n) (hb : b < S.n) (hs : s < 1000) : WC R F.slices_order2CmpFunc_local_entry [S.sv, .int .i64 a, .int .i64 b, .pointer (some ⟨q, 0, none⟩), S.cv] m fun r m' =>
    r = .tuple #[.int .i64 (order2 S.lt d a b s).1, .int .i64 (order2 S.lt d a b s).2.1] ∧ S.Row m' d ∧ so_Cnt m' q (order2 S.lt d a b s).2.2 := by
  refine WC.of R.slices_order2CmpFunc_local_entry rfl ?_
  have hn := S.small
  simp only [RC.slices_order2CmpFunc_local_entry, go_sem, Int.reduceBEq, Int.reduceBNe, Int.reduceNeg, reduceCtorEq, Nat.reduceEqDiff, Nat.reduceAdd, Nat.reduceLeDiff, Nat.reduceMul, Nat.reduceSub, Int.reduceToNat, Int.reduceLT, Int.reduceLE, S.ix ha, S.ix hb, h.ld ha, h.ld hb]
  refine gC.of (S.cmp m d[b]! d[a]!) ?_
  rintro _ m2 ⟨rfl, hx2⟩
  simp only [go_sem, Int.reduceBEq, Int.reduceBNe, Int.reduceNeg, reduceCtorEq, Nat.reduceEqDiff, Nat.reduceAdd, Nat.reduceLeDiff, Nat.reduceMul, Nat.reduceSub, Int.reduceToNat, Int.reduceLT, Int.reduceLE]
  have h2 := h.keep hx2
  have hc2 := hc.keep hx2
  refine gT.of (fun g' => ?_) (fun g' => ?_) <;> (have g := g'; try simp only [decide_eq_true_eq, decide_eq_false_iff_not, beq_iff_eq, bne_iff_ne, beq_eq_false_iff_ne, ne_eq, Bool.not_eq_true', Bool.not_eq_false', bne_eq_false_iff_eq, Int.not_lt, Int.not_le] at g)
  · have ho : order2 S.lt d a b s = (b, a, s + 1) := by simp [order2, S.lt_t g]
    rw [ho]
    simp only [go_sem, Int.reduceBEq, Int.reduceBNe, Int.reduceNeg, reduceCtorEq, Nat.reduceEqDiff, Nat.reduceAdd, Nat.reduceLeDiff, Nat.reduceMul, Nat.reduceSub, Int.reduceToNat, Int.reduceLT, Int.reduceLE, load_w, load_a, store_b, idxS_b, set_blk, new_blk, set_next, new_next, len_s, ldW_c, ldA_c, stB_c, toArr_one, size_one, toList_toArr, size_toArr, List.length_cons, List.length_nil, List.getElem?_cons_zero, List.getElem?_cons_succ, Nat.zero_add, Nat.add_zero, g', hc2.at_, nadd1 (show s < 4000000 by omega)]
    have hu : Upd m2 (m2.set q (some (.cells [.int .i64 ((s + 1 : Nat) : Int)] (some 1)))) [q] := Upd.set (by simp)
    exact ⟨h2.so_other hu hq h0, ⟨by simp [Mem.set], hc2.lt⟩⟩
  · have ho : order2 S.lt d a b s = (a, b, s) := by simp [order2, S.lt_f' g]
    rw [ho]
    simp only [go_sem, Int.reduceBEq, Int.reduceBNe, Int.reduceNeg, reduceCtorEq, Nat.reduceEqDiff, Nat.reduceAdd, Nat.reduceLeDiff, Nat.reduceMul, Nat.reduceSub, Int.reduceToNat, Int.reduceLT, Int.reduceLE, load_w, load_a, store_b, idxS_b, set_blk, new_blk, set_next, new_next, len_s, ldW_c, ldA_c, stB_c, toArr_one, size_one, toList_toArr, size_toArr, List.length_cons, List.length_nil, List.getElem?_cons_zero, List.getElem?_cons_succ, Nat.zero_add, Nat.add_zero, g']
    exact ⟨h2, hc2⟩

theorem so_order2_lt {a b s : Nat} (ha : a < S.n) (hb : b < S.n) : (order2 S.lt d a b s).1 < S.n ∧ (order2 S.lt d a b s).2.1 < S.n ∧ (order2 S.lt d a b s).2.2 ≤ s + 1 := by
  unfold order2; split <;> simp <;> omega

theorem so_median {a b c s q : Nat} (h : S.Row m d) (hc : so_Cnt m q s) (hq : S.b ≠ q) (h0 : S.m0.next ≤ q) (ha : a < S.n) (hb : b < S.n) (hcc : c < S.n) (hs : s < 100) : WC R F.slices_medianCmpFunc_local_entry [S.sv, .int .i64 a, .int .i64 b, .int .i64 c, .pointer (some ⟨q, 0, none⟩), S.cv] m fun r m' =>
    r = .int .i64 (median S.lt d a b c s).1 ∧ S.Row m' d ∧ so_Cnt m' q (median S.lt d a b c s).2 ∧ (median S.lt d a b c s).1 < S.n ∧ (median S.lt d a b c s).2 ≤ s + 3 := by
  refine WC.of R.slices_medianCmpFunc_local_entry rfl ?_
  simp only [RC.slices_medianCmpFunc_local_entry, go_sem, Int.reduceBEq, Int.reduceBNe, Int.reduceNeg, reduceCtorEq, Nat.reduceEqDiff, Nat.reduceAdd, Nat.reduceLeDiff, Nat.reduceMul, Nat.reduceSub, Int.reduceToNat, Int.reduceLT, Int.reduceLE]
  obtain ⟨l1, l2, l3⟩ := so_order2_lt (S := S) (d := d) (s := s) ha hb
  refine gC.of (so_order2 h hc hq h0 ha hb (by omega)) ?_
  rintro _ m1 ⟨rfl, h1, hc1⟩
  obtain ⟨p1, p2, p3⟩ := so_order2_lt (S := S) (d := d) (s := (order2 S.lt d a b s).2.2) l2 hcc
  simp only [go_sem, Int.reduceBEq, Int.reduceBNe, Int.reduceNeg, reduceCtorEq, Nat.reduceEqDiff, Nat.reduceAdd, Nat.reduceLeDiff, Nat.reduceMul, Nat.reduceSub, Int.reduceToNat, Int.reduceLT, Int.reduceLE, aExt0, aExt1]
  refine gC.of (so_order2 h1 hc1 hq h0 l2 hcc (by omega)) ?_
  rintro _ m2 ⟨rfl, h2, hc2⟩
  obtain ⟨q1, q2, q3⟩ := so_order2_lt (S := S) (d := d) (s := (order2 S.lt d (order2 S.lt d a b s).2.1 c (order2 S.lt d a b s).2.2).2.2) l1 p1
  simp only [go_sem, Int.reduceBEq, Int.reduceBNe, Int.reduceNeg, reduceCtorEq, Nat.reduceEqDiff, Nat.reduceAdd, Nat.reduceLeDiff, Nat.reduceMul, Nat.reduceSub, Int.reduceToNat, Int.reduceLT, Int.reduceLE, aExt0, aExt1]
  refine gC.of (so_order2 h2 hc2 hq h0 l1 p1 (by omega)) ?_
  rintro _ m3 ⟨rfl, h3, hc3⟩
  simp only [go_sem, Int.reduceBEq, Int.reduceBNe, Int.reduceNeg, reduceCtorEq, Nat.reduceEqDiff, Nat.reduceAdd, Nat.reduceLeDiff, Nat.reduceMul, Nat.reduceSub, Int.reduceToNat, Int.reduceLT, Int.reduceLE, aExt0, aExt1]
  refine ⟨rfl, h3, hc3, q2, ?_⟩
  show _ ≤ _
  unfold median
  simp only
  omega

theorem so_medianAdj {a s q : Nat} (h : S.Row m d) (hc : so_Cnt m q s) (hq : S.b ≠ q) (h0 : S.m0.next ≤ q) (ha : 0 < a) (hb : a + 1 < S.n) (hs : s < 100) : WC R F.slices_medianAdjacentCmpFunc_local_entry [S.sv, .int .i64 a, .pointer (some ⟨q, 0, none⟩), S.cv] m fun r m' =>
    r = .int .i64 (medianAdjacent S.lt d a s).1 ∧ S.Row m' d ∧ so_Cnt m' q (medianAdjacent S.lt d a s).2 ∧ (medianAdjacent S.lt d a s).1 < S.n ∧ (medianAdjacent S.lt d a s).2 ≤ s + 3 := by
  refine WC.of R.slices_medianAdjacentCmpFunc_local_entry rfl ?_
  have hn := S.small
  simp only [RC.slices_medianAdjacentCmpFunc_local_entry, go_sem, Int.reduceBEq, Int.reduceBNe, Int.reduceNeg, reduceCtorEq, Nat.reduceEqDiff, Nat.reduceAdd, Nat.reduceLeDiff, Nat.reduceMul, Nat.reduceSub, Int.reduceToNat, Int.reduceLT, Int.reduceLE, nadd1 (show a < 4000000 by omega), nsub1 (show 0 < a by omega) (show a < 4000000 by omega)]
  refine gC.of (so_median h hc hq h0 (show a - 1 < S.n by omega) (show a < S.n by omega) hb hs) ?_
  rintro _ m1 ⟨rfl, h1, hc1, h2, h3⟩
  simp only [go_sem, Int.reduceBEq, Int.reduceBNe, Int.reduceNeg, reduceCtorEq, Nat.reduceEqDiff, Nat.reduceAdd, Nat.reduceLeDiff, Nat.reduceMul, Nat.reduceSub, Int.reduceToNat, Int.reduceLT, Int.reduceLE]
  exact ⟨rfl, h1, hc1, h2, h3⟩
end Go.Am


/- Numbers of a sort. -/
set_option linter.unusedVariables false
namespace Go.Am
open Go.Sort

def hintN : Hint → Int
  | .unknown => 0
  | .increasing => 1
  | .decreasing => 2

theorem nq (k : Nat) (hk : 0 < k) {l : Nat} (h : l < 4000000) : IntKind.wrap .i64 ((l : Int).tdiv (k : Nat)) = ((l / k : Nat) : Int) := by
  have e : (l : Int).tdiv (k : Nat) = ((l / k : Nat) : Int) := by
    rw [Int.tdiv_eq_ediv_of_nonneg (by omega)]; simp
  have : l / k ≤ l := Nat.div_le_self _ _
  rw [e]
  generalize l / k = q at this ⊢
  rw [wrap_i64 (by omega) (by omega)]
theorem nq2 {l : Nat} (h : l < 4000000) : IntKind.wrap .i64 ((l : Int).tdiv 2) = ((l / 2 : Nat) : Int) := nq 2 (by omega) h
theorem nq4 {l : Nat} (h : l < 4000000) : IntKind.wrap .i64 ((l : Int).tdiv 4) = ((l / 4 : Nat) : Int) := nq 4 (by omega) h
theorem nq8 {l : Nat} (h : l < 4000000) : IntKind.wrap .i64 ((l : Int).tdiv 8) = ((l / 8 : Nat) : Int) := nq 8 (by omega) h
theorem nm (k : Nat) {l : Nat} (h : l * k < 4000000) : IntKind.wrap .i64 ((l : Int) * (k : Nat)) = ((l * k : Nat) : Int) := by
  have e : (l : Int) * (k : Nat) = ((l * k : Nat) : Int) := by simp
  rw [e]
  generalize l * k = q at h ⊢
  rw [wrap_i64 (by omega) (by omega)]
theorem nm1 {l : Nat} (h : l < 1000000) : IntKind.wrap .i64 ((l : Int) * 1) = ((l * 1 : Nat) : Int) := nm 1 (by omega)
theorem nm2 {l : Nat} (h : l < 1000000) : IntKind.wrap .i64 ((l : Int) * 2) = ((l * 2 : Nat) : Int) := nm 2 (by omega)
theorem nm3 {l : Nat} (h : l < 1000000) : IntKind.wrap .i64 ((l : Int) * 3) = ((l * 3 : Nat) : Int) := nm 3 (by omega)
theorem nmm2 {l : Nat} (h : l < 1000000) : IntKind.wrap .i64 (2 * (l : Int)) = ((2 * l : Nat) : Int) := by
  have e : 2 * (l : Int) = ((2 * l : Nat) : Int) := by simp
  rw [e, wrap_i64 (by omega) (by omega)]

theorem aStore_next {sz : Nat} {m m' : Mem} {p v : Value} (h : aStore sz m p v = some m') : m'.next = m.next := by
  unfold aStore at h
  split at h
  · split at h
    · exact (aWrite_upd h).2
    · cases h
  · cases h
theorem aStore_keep {sz b o : Nat} {m m' : Mem} {v : Value} (h : aStore sz m (.pointer (some ⟨b, o, none⟩)) v = some m') : ∀ k, k ≠ b → m'.blk k = m.blk k := by
  intro k hk
  simp only [aStore] at h
  split at h
  · unfold aWrite at h
    split at h
    · split at h
      · cases h; simp [Mem.set, hk]
      · cases h
    · cases h
  · cases h
theorem Upd.st' {a b : Mem} {fp : List Nat} {q : Nat} {o : Option AObj} (h : Upd a b fp) (hq : q ∈ fp ∨ a.next ≤ q) : Upd a (b.set q o) fp := h.trans (Upd.set (fp := [q]) (by simp)) (fun _ h => h) (fun x h => by simp at h; subst h; exact hq)

theorem partLoop_le {R : Nat → Option FEnt} {α : Type} [Inhabited α] {u : Nat} {S : SortC R α u} {a : Nat} : ∀ (n i j : Nat) (d : Array α), j + 1 - i ≤ n → (partLoop S.lt a i j d).1 ≤ j := by
  intro n
  induction n with
  | zero =>
    intro i j d hn
    rw [partLoop_eq]
    have w1 := scanDown_le (fun x => !S.lt x d[a]!) d (scanUp (fun x => S.lt x d[a]!) d j i) j
    have u1 := scanUp_ge (fun x => S.lt x d[a]!) d j i
    split
    · exact w1
    · omega
  | succ n ih =>
    intro i j d hn
    rw [partLoop_eq]
    have w1 := scanDown_le (fun x => !S.lt x d[a]!) d (scanUp (fun x => S.lt x d[a]!) d j i) j
    have u1 := scanUp_ge (fun x => S.lt x d[a]!) d j i
    split
    · exact w1
    · refine Nat.le_trans (ih _ _ _ (by omega)) (by omega)
theorem ne_of_scans {R : Nat → Option FEnt} {α : Type} [Inhabited α] {p q : α → Bool} {d : Array α} {i j : Nat} (hpq : ∀ x, q x = !p x) (h1 : 1 ≤ i) (hij : i ≤ j + 1) : scanUp p d j i ≠ scanDown q d (scanUp p d j i) j := by
  intro e
  have u1 := scanUp_spec p d j _ i rfl
  have w1 := scanDown_spec q d (scanUp p d j i) j
  rw [← e] at w1
  have a1 := u1.2.2.2 w1.1
  have a2 := w1.2.2.2 (Nat.le_refl _) (by omega)
  rw [hpq, a1] at a2
  simp at a2

section
variable {α : Type} [Inhabited α] {lt : α → α → Bool} {a : Nat}
theorem partLoop_rng : ∀ (n i j : Nat) (d : Array α), j + 1 - i ≤ n → 1 ≤ i → i ≤ j + 1 → i - 1 ≤ (partLoop lt a i j d).1 ∧ (partLoop lt a i j d).1 ≤ j := by
  intro n
  induction n with
  | zero =>
    intro i j d hn h1 h2
    rw [partLoop_eq]
    have w1 := scanDown_le (fun x => !lt x d[a]!) d (scanUp (fun x => lt x d[a]!) d j i) j
    have u1 := scanUp_ge (fun x => lt x d[a]!) d j i
    have u2 := (scanUp_spec (fun x => lt x d[a]!) d j _ i rfl).2.1 h2
    have w2 := (scanDown_spec (fun x => !lt x d[a]!) d (scanUp (fun x => lt x d[a]!) d j i) j).2.1 u2
    split
    · simp only; omega
    · omega
  | succ n ih =>
    intro i j d hn h1 h2
    rw [partLoop_eq]
    have w1 := scanDown_le (fun x => !lt x d[a]!) d (scanUp (fun x => lt x d[a]!) d j i) j
    have u1 := scanUp_ge (fun x => lt x d[a]!) d j i
    have u2 := (scanUp_spec (fun x => lt x d[a]!) d j _ i rfl).2.1 h2
    have w2 := (scanDown_spec (fun x => !lt x d[a]!) d (scanUp (fun x => lt x d[a]!) d j i) j).2.1 u2
    have hne := ne_of_scans (R := fun _ => none) (d := d) (p := fun x => lt x d[a]!) (q := fun x => !lt x d[a]!) (fun x => rfl) h1 h2
    split
    · simp only; omega
    · have := ih (scanUp (fun x => lt x d[a]!) d j i + 1) (scanDown (fun x => !lt x d[a]!) d (scanUp (fun x => lt x d[a]!) d j i) j - 1) (swp d (scanUp (fun x => lt x d[a]!) d j i) (scanDown (fun x => !lt x d[a]!) d (scanUp (fun x => lt x d[a]!) d j i) j)) (by omega) (by omega) (by omega)
      omega
theorem partEqLoop_rng : ∀ (n i j : Nat) (d : Array α), j + 1 - i ≤ n → 1 ≤ i → i ≤ j + 1 → i ≤ (partEqLoop lt a i j d).1 ∧ (partEqLoop lt a i j d).1 ≤ j + 1 := by
  intro n
  induction n with
  | zero =>
    intro i j d hn h1 h2
    rw [partEqLoop_eq]
    have w1 := scanDown_le (fun x => lt d[a]! x) d (scanUp (fun x => !lt d[a]! x) d j i) j
    have u1 := scanUp_ge (fun x => !lt d[a]! x) d j i
    have u2 := (scanUp_spec (fun x => !lt d[a]! x) d j _ i rfl).2.1 h2
    split
    · simp only; omega
    · omega
  | succ n ih =>
    intro i j d hn h1 h2
    rw [partEqLoop_eq]
    have w1 := scanDown_le (fun x => lt d[a]! x) d (scanUp (fun x => !lt d[a]! x) d j i) j
    have u1 := scanUp_ge (fun x => !lt d[a]! x) d j i
    have u2 := (scanUp_spec (fun x => !lt d[a]! x) d j _ i rfl).2.1 h2
    have hne := ne_of_scans (R := fun _ => none) (d := d) (p := fun x => !lt d[a]! x) (q := fun x => lt d[a]! x) (fun x => by simp) h1 h2
    split
    · simp only; omega
    · have := ih (scanUp (fun x => !lt d[a]! x) d j i + 1) (scanDown (fun x => lt d[a]! x) d (scanUp (fun x => !lt d[a]! x) d j i) j - 1) (swp d (scanUp (fun x => !lt d[a]! x) d j i) (scanDown (fun x => lt d[a]! x) d (scanUp (fun x => !lt d[a]! x) d j i) j)) (by omega) (by omega) (by omega)
      omega
theorem part_rng {d : Array α} {b p : Nat} (h : a < b) : a ≤ (partition lt d a b p).1 ∧ (partition lt d a b p).1 < b := by
  rw [partition_fst]
  have := partLoop_rng (lt := lt) (a := a) _ (a + 1) (b - 1) (swp d a p) (Nat.le_refl _) (by omega) (by omega)
  omega
theorem parte_rng {d : Array α} {b p : Nat} (h : a < b) : a < (partitionEqual lt d a b p).1 ∧ (partitionEqual lt d a b p).1 ≤ b := by
  unfold partitionEqual
  have := partEqLoop_rng (lt := lt) (a := a) _ (a + 1) (b - 1) (swp d a p) (Nat.le_refl _) (by omega) (by omega)
  omega
end

/-! ### bits.Len -/
theorem bitsLen_shr {n k : Nat} (h : 2 ^ k ≤ n) : bitsLen n = bitsLen (n / 2 ^ k) + k := by
  have hq : 0 < n / 2 ^ k := Nat.div_pos h (Nat.two_pow_pos k)
  have h1 := lt_two_pow_bitsLen (n / 2 ^ k)
  have h2 : bitsLen n ≤ bitsLen (n / 2 ^ k) + k := by
    rw [bitsLen_le_iff, Nat.pow_add]
    exact (Nat.div_lt_iff_lt_mul (Nat.two_pow_pos k)).1 h1
  have h3 : bitsLen (n / 2 ^ k) + k ≤ bitsLen n := by
    have a1 := lt_two_pow_bitsLen n
    have hk : k ≤ bitsLen n := by
      apply Classical.byContradiction
      intro hc
      have : n < 2 ^ k := Nat.lt_of_lt_of_le a1 (Nat.pow_le_pow_right (by omega) (by omega))
      omega
    have : bitsLen (n / 2 ^ k) ≤ bitsLen n - k := by
      rw [bitsLen_le_iff, Nat.div_lt_iff_lt_mul (Nat.two_pow_pos k), ← Nat.pow_add, Nat.sub_add_cancel hk]
      exact a1
    omega
  omega

theorem lenTab_size : lenTab.size = 256 := by decide +kernel
set_option maxRecDepth 20000 in
theorem lenTab_get : ∀ i : _root_.Fin 256, (lenTab.data[i.val]?.map (·.toNat)) = some (bitsLen i.val) := by decide +kernel
theorem len8 {i : Nat} (h : i < 256) : aIdxStr (.string lenTab) (.int .u8 (i : Nat)) = some (.int .u8 (bitsLen i : Nat)) := by
  simp only [aIdxStr]
  have hs := lenTab_size
  rw [dif_pos ⟨by omega, by rw [Int.toNat_natCast]; omega⟩]
  have g := lenTab_get ⟨i, h⟩
  simp only at g
  rw [Array.getElem?_eq_getElem (by show i < lenTab.size; omega)] at g
  simp only [Option.map_some, Option.some.injEq] at g
  rw [← g]
  rfl
theorem bitsLen8 {i : Nat} (h : i < 256) : bitsLen i ≤ 8 := (bitsLen_le_iff i 8).2 (by omega)
theorem conv_u8 {x : BitVec 64} : aConv .u8 (u64 x) = some (.int .u8 (IntKind.wrap .u8 x.toNat)) := (rfl)
theorem wrap_u8 {n : Nat} (h : n < 256) : IntKind.wrap .u8 (n : Int) = n := by
  simp only [IntKind.wrap, IntKind.bits, IntKind.signed, Bool.false_and, Bool.false_eq_true, if_false]; omega
theorem conv_i64_u8 {a : Int} : aConv .i64 (.int .u8 a) = some (.int .i64 (IntKind.wrap .i64 a)) := (rfl)

/-! ### the generator -/
theorem xor_bv (r : UInt64) : (xorNext r).toBitVec = (r.toBitVec ^^^ r.toBitVec <<< 13) ^^^ (r.toBitVec ^^^ r.toBitVec <<< 13) >>> 7 ^^^ ((r.toBitVec ^^^ r.toBitVec <<< 13) ^^^ (r.toBitVec ^^^ r.toBitVec <<< 13) >>> 7) <<< 17 := by
  unfold xorNext
  simp only [UInt64.toBitVec_xor, UInt64.toBitVec_shiftLeft, UInt64.toBitVec_shiftRight]
  rfl

/-- So many rounds are left. -/
def bpN {α : Type} [Inhabited α] (a length modulus : Nat) : Nat → UInt64 → Array α → Nat → Array α
  | 0, _, d, _ => d
  | k + 1, r, d, idx => bpN a length modulus k (breakStep a length modulus (r, d) idx).1 (breakStep a length modulus (r, d) idx).2 (idx + 1)
theorem bpN_eq {α : Type} [Inhabited α] {d : Array α} {a b : Nat} (h : b - a ≥ 8) : breakPatterns d a b = bpN a (b - a) (1 <<< bitsLen (b - a)) 3 (UInt64.ofNat (b - a)) d (a + (b - a) / 4 * 2 - 1) := by
  unfold breakPatterns
  simp only
  rw [if_pos h]
  rfl

/-- Two ways that come together again. -/
theorem gT_mid {R : Nat → Option FEnt} {b : Bool} {A B : RCode} {e : Env} {m : Mem} {Q : Ex → Env → Mem → Prop} {K : Env → Mem → Prop} (P : Env → Mem → Prop)
    (h1 : b = true → gp R A e m (gN Q P ph ph)) (h2 : b = false → gp R B e m (gN Q P ph ph)) (h3 : ∀ e' m', P e' m' → K e' m') : gT b (gp R A e m (gN Q K ph ph)) (gp R B e m (gN Q K ph ph)) :=
  ⟨fun h => wp.mono (fun x e' m' hx => onNormal.mono (fun _ _ _ h => h) h3 hx) (h1 h), fun h => wp.mono (fun x e' m' hx => onNormal.mono (fun _ _ _ h => h) h3 hx) (h2 h)⟩
theorem gp_seq_mid {R : Nat → Option FEnt} {A B : RCode} {e : Env} {m : Mem} {Q : Ex → Env → Mem → Prop} (P : Env → Mem → Prop)
    (h1 : gp R A e m (gN Q P ph ph)) (h3 : ∀ e' m', P e' m' → gp R B e' m' Q) : gp R (.seq A B) e m Q := by
  show wp R A e m (onNormal Q fun e' m' => wp R B e' m' Q)
  exact wp.mono (fun x e' m' hx => onNormal.mono (fun _ _ _ h => h) h3 hx) h1
end Go.Am


/- Sorting a row at local_entry (Local): the pivot is chosen; by a heap. Printed out of SortT2.tmpl by sortgen.py. -/
set_option linter.unusedVariables false
set_option linter.unusedSimpArgs false
namespace Go.Am
open Go.Sort
variable {α : Type} [Inhabited α] {S : SortC R α 3} {m : Mem} {d : Array α}

theorem so_choose {a b : Nat} (h : S.Row m d) (hb : b ≤ S.n) (ha : a < b) (hm : S.m0.next ≤ m.next) : WC R F.slices_choosePivotCmpFunc_local_entry [S.sv, .int .i64 a, .int .i64 b, S.cv] m fun r m' =>
    r = .tuple #[.int .i64 (choosePivot S.lt d a b).1, .int .i64 (hintN (choosePivot S.lt d a b).2)] ∧ S.Row m' d := by
  refine WC.of R.slices_choosePivotCmpFunc_local_entry rfl ?_
  have hn := S.small
  have i1 : (b - a) / 4 ≤ b - a := Nat.div_le_self _ _
  simp only [RC.slices_choosePivotCmpFunc_local_entry, go_sem, Int.reduceBEq, Int.reduceBNe, Int.reduceNeg, reduceCtorEq, Nat.reduceEqDiff, Nat.reduceAdd, Nat.reduceLeDiff, Nat.reduceMul, Nat.reduceSub, Int.reduceToNat, Int.reduceLT, Int.reduceLE, nsub (show a ≤ b by omega) (show b < 4000000 by omega), nq4 (show b - a < 4000000 by omega), nm1 (show (b - a) / 4 < 1000000 by omega), nm2 (show (b - a) / 4 < 1000000 by omega), nm3 (show (b - a) / 4 < 1000000 by omega),
    nadd (show a + (b - a) / 4 < 4000000 by omega), nadd (show a + (b - a) / 4 * 2 < 4000000 by omega), nadd (show a + (b - a) / 4 * 3 < 4000000 by omega)]
  have hx1 : Ext m (m.new (.cells [.int .i64 0] (some 1))) := Ext.new
  have hc : so_Cnt (m.new (.cells [.int .i64 0] (some 1))) m.next 0 := ⟨by simp [Mem.new], by simp [Mem.new]⟩
  have hq : S.b ≠ m.next := by have := h.lt; omega
  generalize m.new (.cells [.int .i64 0] (some 1)) = m1 at hx1 hc ⊢
  have h1 := h.keep hx1
  have fin : ∀ (m2 : Mem) (j s : Nat), S.Row m2 d → so_Cnt m2 m.next s → s ≤ 12 → choosePivot S.lt d a b = (j, if s = 0 then .increasing else if s = 12 then .decreasing else .unknown) →
      ∀ (K : Value → Mem → Prop), (∀ r m', r = .tuple #[.int .i64 (choosePivot S.lt d a b).1, .int .i64 (hintN (choosePivot S.lt d a b).2)] ∧ S.Row m' d → K r m') →
      (s = 0 → K (.tuple #[.int .i64 j, .int .i64 1]) m2) ∧ (s = 12 → K (.tuple #[.int .i64 j, .int .i64 2]) m2) ∧ (s ≠ 0 → s ≠ 12 → K (.tuple #[.int .i64 j, .int .i64 0]) m2) := by
    intro m2 j s hr hcn hs he K hK
    refine ⟨fun e => hK _ _ ⟨?_, hr⟩, fun e => hK _ _ ⟨?_, hr⟩, fun e e2 => hK _ _ ⟨?_, hr⟩⟩
    · rw [he, if_pos e]; rfl
    · rw [he, if_neg (by omega), if_pos e]; rfl
    · rw [he, if_neg e, if_neg e2]; rfl
  refine ⟨by omega, by omega, by omega, ?_⟩
  refine gT.of (fun g1' => ?_) (fun g1' => ?_) <;> (have g1 := g1'; try simp only [decide_eq_true_eq, decide_eq_false_iff_not, beq_iff_eq, bne_iff_ne, beq_eq_false_iff_ne, ne_eq, Bool.not_eq_true', Bool.not_eq_false', bne_eq_false_iff_eq, Int.not_lt, Int.not_le] at g1)
  · simp only [go_sem, Int.reduceBEq, Int.reduceBNe, Int.reduceNeg, reduceCtorEq, Nat.reduceEqDiff, Nat.reduceAdd, Nat.reduceLeDiff, Nat.reduceMul, Nat.reduceSub, Int.reduceToNat, Int.reduceLT, Int.reduceLE, g1']
    refine gT.of (fun g2' => ?_) (fun g2' => ?_) <;> (have g2 := g2'; try simp only [decide_eq_true_eq, decide_eq_false_iff_not, beq_iff_eq, bne_iff_ne, beq_eq_false_iff_ne, ne_eq, Bool.not_eq_true', Bool.not_eq_false', bne_eq_false_iff_eq, Int.not_lt, Int.not_le] at g2)
    · simp only [go_sem, Int.reduceBEq, Int.reduceBNe, Int.reduceNeg, reduceCtorEq, Nat.reduceEqDiff, Nat.reduceAdd, Nat.reduceLeDiff, Nat.reduceMul, Nat.reduceSub, Int.reduceToNat, Int.reduceLT, Int.reduceLE, g2']
      refine gC.of (so_medianAdj h1 hc hq hm (show 0 < a + (b - a) / 4 by omega) (show a + (b - a) / 4 + 1 < S.n by omega) (by omega)) ?_
      rintro _ m2 ⟨rfl, h2, hc2, p1, p2⟩
      generalize hA : medianAdjacent S.lt d (a + (b - a) / 4) 0 = A at hc2 p1 p2 ⊢
      simp only [go_sem, Int.reduceBEq, Int.reduceBNe, Int.reduceNeg, reduceCtorEq, Nat.reduceEqDiff, Nat.reduceAdd, Nat.reduceLeDiff, Nat.reduceMul, Nat.reduceSub, Int.reduceToNat, Int.reduceLT, Int.reduceLE]
      refine gC.of (so_medianAdj h2 hc2 hq hm (show 0 < a + (b - a) / 4 * 2 by omega) (show a + (b - a) / 4 * 2 + 1 < S.n by omega) (by omega)) ?_
      rintro _ m3 ⟨rfl, h3, hc3, p3, p4⟩
      generalize hB : medianAdjacent S.lt d (a + (b - a) / 4 * 2) A.2 = B at hc3 p3 p4 ⊢
      simp only [go_sem, Int.reduceBEq, Int.reduceBNe, Int.reduceNeg, reduceCtorEq, Nat.reduceEqDiff, Nat.reduceAdd, Nat.reduceLeDiff, Nat.reduceMul, Nat.reduceSub, Int.reduceToNat, Int.reduceLT, Int.reduceLE]
      refine gC.of (so_medianAdj h3 hc3 hq hm (show 0 < a + (b - a) / 4 * 3 by omega) (show a + (b - a) / 4 * 3 + 1 < S.n by omega) (by omega)) ?_
      rintro _ m4 ⟨rfl, h4, hc4, p5, p6⟩
      generalize hC : medianAdjacent S.lt d (a + (b - a) / 4 * 3) B.2 = C at hc4 p5 p6 ⊢
      simp only [go_sem, Int.reduceBEq, Int.reduceBNe, Int.reduceNeg, reduceCtorEq, Nat.reduceEqDiff, Nat.reduceAdd, Nat.reduceLeDiff, Nat.reduceMul, Nat.reduceSub, Int.reduceToNat, Int.reduceLT, Int.reduceLE]
      refine gC.of (so_median h4 hc4 hq hm p1 p3 p5 (by omega)) ?_
      rintro _ m5 ⟨rfl, h5, hc5, p7, p8⟩
      generalize hM : median S.lt d A.1 B.1 C.1 C.2 = M at hc5 p7 p8 ⊢
      have he : choosePivot S.lt d a b = (M.1, if M.2 = 0 then .increasing else if M.2 = 12 then .decreasing else .unknown) := by
        unfold choosePivot
        simp only [Nat.mul_one, hA, hB, hC, hM]
        rw [if_pos (show b - a ≥ 8 by omega), if_pos (show b - a ≥ 50 by omega)]
      obtain ⟨k1, k2, k3⟩ := fin m5 _ _ h5 hc5 (by omega) he _ (fun r m' h => h)
      simp only [go_sem, Int.reduceBEq, Int.reduceBNe, Int.reduceNeg, reduceCtorEq, Nat.reduceEqDiff, Nat.reduceAdd, Nat.reduceLeDiff, Nat.reduceMul, Nat.reduceSub, Int.reduceToNat, Int.reduceLT, Int.reduceLE, load_w, load_a, store_b, idxS_b, set_blk, new_blk, set_next, new_next, len_s, ldW_c, ldA_c, stB_c, toArr_one, size_one, toList_toArr, size_toArr, List.length_cons, List.length_nil, List.getElem?_cons_zero, List.getElem?_cons_succ, Nat.zero_add, Nat.add_zero, hc5.at_]
      refine gT.of (fun g3' => ?_) (fun g3' => ?_) <;> (have g3 := g3'; try simp only [decide_eq_true_eq, decide_eq_false_iff_not, beq_iff_eq, bne_iff_ne, beq_eq_false_iff_ne, ne_eq, Bool.not_eq_true', Bool.not_eq_false', bne_eq_false_iff_eq, Int.not_lt, Int.not_le] at g3)
      · simp only [go_sem, Int.reduceBEq, Int.reduceBNe, Int.reduceNeg, reduceCtorEq, Nat.reduceEqDiff, Nat.reduceAdd, Nat.reduceLeDiff, Nat.reduceMul, Nat.reduceSub, Int.reduceToNat, Int.reduceLT, Int.reduceLE, g3']
        exact k1 (by omega)
      · simp only [go_sem, Int.reduceBEq, Int.reduceBNe, Int.reduceNeg, reduceCtorEq, Nat.reduceEqDiff, Nat.reduceAdd, Nat.reduceLeDiff, Nat.reduceMul, Nat.reduceSub, Int.reduceToNat, Int.reduceLT, Int.reduceLE, g3']
        refine gT.of (fun g4' => ?_) (fun g4' => ?_) <;> (have g4 := g4'; try simp only [decide_eq_true_eq, decide_eq_false_iff_not, beq_iff_eq, bne_iff_ne, beq_eq_false_iff_ne, ne_eq, Bool.not_eq_true', Bool.not_eq_false', bne_eq_false_iff_eq, Int.not_lt, Int.not_le] at g4)
        · simp only [go_sem, Int.reduceBEq, Int.reduceBNe, Int.reduceNeg, reduceCtorEq, Nat.reduceEqDiff, Nat.reduceAdd, Nat.reduceLeDiff, Nat.reduceMul, Nat.reduceSub, Int.reduceToNat, Int.reduceLT, Int.reduceLE, g4']
          exact k2 (by omega)
        · simp only [go_sem, Int.reduceBEq, Int.reduceBNe, Int.reduceNeg, reduceCtorEq, Nat.reduceEqDiff, Nat.reduceAdd, Nat.reduceLeDiff, Nat.reduceMul, Nat.reduceSub, Int.reduceToNat, Int.reduceLT, Int.reduceLE, g4']
          exact k3 (by omega) (by omega)
    · simp only [go_sem, Int.reduceBEq, Int.reduceBNe, Int.reduceNeg, reduceCtorEq, Nat.reduceEqDiff, Nat.reduceAdd, Nat.reduceLeDiff, Nat.reduceMul, Nat.reduceSub, Int.reduceToNat, Int.reduceLT, Int.reduceLE, g2']
      refine gC.of (so_median h1 hc hq hm (show a + (b - a) / 4 < S.n by omega) (show a + (b - a) / 4 * 2 < S.n by omega) (show a + (b - a) / 4 * 3 < S.n by omega) (by omega)) ?_
      rintro _ m5 ⟨rfl, h5, hc5, p7, p8⟩
      generalize hM : median S.lt d (a + (b - a) / 4) (a + (b - a) / 4 * 2) (a + (b - a) / 4 * 3) 0 = M at hc5 p7 p8 ⊢
      have he : choosePivot S.lt d a b = (M.1, if M.2 = 0 then .increasing else if M.2 = 12 then .decreasing else .unknown) := by
        unfold choosePivot
        simp only [Nat.mul_one, hM]
        rw [if_pos (show b - a ≥ 8 by omega), if_neg (show ¬ b - a ≥ 50 by omega)]
      obtain ⟨k1, k2, k3⟩ := fin m5 _ _ h5 hc5 (by omega) he _ (fun r m' h => h)
      simp only [go_sem, Int.reduceBEq, Int.reduceBNe, Int.reduceNeg, reduceCtorEq, Nat.reduceEqDiff, Nat.reduceAdd, Nat.reduceLeDiff, Nat.reduceMul, Nat.reduceSub, Int.reduceToNat, Int.reduceLT, Int.reduceLE, load_w, load_a, store_b, idxS_b, set_blk, new_blk, set_next, new_next, len_s, ldW_c, ldA_c, stB_c, toArr_one, size_one, toList_toArr, size_toArr, List.length_cons, List.length_nil, List.getElem?_cons_zero, List.getElem?_cons_succ, Nat.zero_add, Nat.add_zero, hc5.at_]
      refine gT.of (fun g3' => ?_) (fun g3' => ?_) <;> (have g3 := g3'; try simp only [decide_eq_true_eq, decide_eq_false_iff_not, beq_iff_eq, bne_iff_ne, beq_eq_false_iff_ne, ne_eq, Bool.not_eq_true', Bool.not_eq_false', bne_eq_false_iff_eq, Int.not_lt, Int.not_le] at g3)
      · simp only [go_sem, Int.reduceBEq, Int.reduceBNe, Int.reduceNeg, reduceCtorEq, Nat.reduceEqDiff, Nat.reduceAdd, Nat.reduceLeDiff, Nat.reduceMul, Nat.reduceSub, Int.reduceToNat, Int.reduceLT, Int.reduceLE, g3']
        exact k1 (by omega)
      · simp only [go_sem, Int.reduceBEq, Int.reduceBNe, Int.reduceNeg, reduceCtorEq, Nat.reduceEqDiff, Nat.reduceAdd, Nat.reduceLeDiff, Nat.reduceMul, Nat.reduceSub, Int.reduceToNat, Int.reduceLT, Int.reduceLE, g3']
        refine gT.of (fun g4' => ?_) (fun g4' => ?_) <;> (have g4 := g4'; try simp only [decide_eq_true_eq, decide_eq_false_iff_not, beq_iff_eq, bne_iff_ne, beq_eq_false_iff_ne, ne_eq, Bool.not_eq_true', Bool.not_eq_false', bne_eq_false_iff_eq, Int.not_lt, Int.not_le] at g4)
        · simp only [go_sem, Int.reduceBEq, Int.reduceBNe, Int.reduceNeg, reduceCtorEq, Nat.reduceEqDiff, Nat.reduceAdd, Nat.reduceLeDiff, Nat.reduceMul, Nat.reduceSub, Int.reduceToNat, Int.reduceLT, Int.reduceLE, g4']
          exact k2 (by omega)
        · simp only [go_sem, Int.reduceBEq, Int.reduceBNe, Int.reduceNeg, reduceCtorEq, Nat.reduceEqDiff, Nat.reduceAdd, Nat.reduceLeDiff, Nat.reduceMul, Nat.reduceSub, Int.reduceToNat, Int.reduceLT, Int.reduceLE, g4']
          exact k3 (by omega) (by omega)
  · have he : choosePivot S.lt d a b = (a + (b - a) / 4 * 2, .increasing) := by
      unfold choosePivot
      simp only
      rw [if_neg (show ¬ b - a ≥ 8 by omega)]
      rfl
    obtain ⟨k1, k2, k3⟩ := fin m1 _ 0 h1 hc (by omega) he _ (fun r m' h => h)
    simp only [go_sem, Int.reduceBEq, Int.reduceBNe, Int.reduceNeg, reduceCtorEq, Nat.reduceEqDiff, Nat.reduceAdd, Nat.reduceLeDiff, Nat.reduceMul, Nat.reduceSub, Int.reduceToNat, Int.reduceLT, Int.reduceLE, load_w, load_a, store_b, idxS_b, set_blk, new_blk, set_next, new_next, len_s, ldW_c, ldA_c, stB_c, toArr_one, size_one, toList_toArr, size_toArr, List.length_cons, List.length_nil, List.getElem?_cons_zero, List.getElem?_cons_succ, Nat.zero_add, Nat.add_zero, g1', hc.at_]
    exact k1 rfl

theorem so_sift {lo hi first : Nat} (h : S.Row m d) (hb : first + hi ≤ S.n) (hl : lo < 1000000) : WC R F.slices_siftDownCmpFunc_local_entry [S.sv, .int .i64 lo, .int .i64 hi, .int .i64 first, S.cv] m fun r m' => S.Row m' (siftDown S.lt hi first lo d) ∧ m.next ≤ m'.next := by
  refine WC.of R.slices_siftDownCmpFunc_local_entry rfl ?_
  have hn := S.small
  simp only [RC.slices_siftDownCmpFunc_local_entry, go_sem, Int.reduceBEq, Int.reduceBNe, Int.reduceNeg, reduceCtorEq, Nat.reduceEqDiff, Nat.reduceAdd, Nat.reduceLeDiff, Nat.reduceMul, Nat.reduceSub, Int.reduceToNat, Int.reduceLT, Int.reduceLE]
  refine WL.of (fun r e m' => ∃ (k : Nat) (d' : Array α), r = hi - k ∧ k < 1000000 ∧ e = [(0, S.sv), (2, .int .i64 hi), (3, .int .i64 first), (4, S.cv), (10, .int .i64 k)] ∧ S.Row m' d' ∧ m.next ≤ m'.next ∧ siftDown S.lt hi first k d' = siftDown S.lt hi first lo d) (hi - lo)
    ⟨lo, d, rfl, by omega, by simp only [go_sem, Int.reduceBEq, Int.reduceBNe, Int.reduceNeg, reduceCtorEq, Nat.reduceEqDiff, Nat.reduceAdd, Nat.reduceLeDiff, Nat.reduceMul, Nat.reduceSub, Int.reduceToNat, Int.reduceLT, Int.reduceLE] <;> rfl, h, Nat.le_refl _, rfl⟩ ?_
  rintro n0 _ m1 ⟨k, d', hr, hk, rfl, h1, hm1, he⟩
  simp only [RB.slices_siftDownCmpFunc_local_entry_1, go_sem, Int.reduceBEq, Int.reduceBNe, Int.reduceNeg, reduceCtorEq, Nat.reduceEqDiff, Nat.reduceAdd, Nat.reduceLeDiff, Nat.reduceMul, Nat.reduceSub, Int.reduceToNat, Int.reduceLT, Int.reduceLE, nmm2 (show k < 1000000 by omega), nadd1 (show 2 * k < 4000000 by omega)]
  refine gT.of (fun g1' => ?_) (fun g1' => ?_) <;> (have g1 := g1'; try simp only [decide_eq_true_eq, decide_eq_false_iff_not, beq_iff_eq, bne_iff_ne, beq_eq_false_iff_ne, ne_eq, Bool.not_eq_true', Bool.not_eq_false', bne_eq_false_iff_eq, Int.not_lt, Int.not_le] at g1)
  · simp only [go_sem, Int.reduceBEq, Int.reduceBNe, Int.reduceNeg, reduceCtorEq, Nat.reduceEqDiff, Nat.reduceAdd, Nat.reduceLeDiff, Nat.reduceMul, Nat.reduceSub, Int.reduceToNat, Int.reduceLT, Int.reduceLE, g1']
    rw [siftDown, dif_pos (by omega)] at he
    rw [← he]
    exact ⟨h1, hm1⟩
  · have c1 : first + (2 * k + 1) < S.n := by omega
    have c0 : first + k < S.n := by omega
    rw [siftDown, dif_neg (by omega)] at he
    simp only [go_sem, Int.reduceBEq, Int.reduceBNe, Int.reduceNeg, reduceCtorEq, Nat.reduceEqDiff, Nat.reduceAdd, Nat.reduceLeDiff, Nat.reduceMul, Nat.reduceSub, Int.reduceToNat, Int.reduceLT, Int.reduceLE, g1', nadd1 (show 2 * k + 1 < 4000000 by omega)]
    refine gT.of (fun g2' => ?_) (fun g2' => ?_) <;> (have g2 := g2'; try simp only [decide_eq_true_eq, decide_eq_false_iff_not, beq_iff_eq, bne_iff_ne, beq_eq_false_iff_ne, ne_eq, Bool.not_eq_true', Bool.not_eq_false', bne_eq_false_iff_eq, Int.not_lt, Int.not_le] at g2)
    · have c2 : first + (2 * k + 1 + 1) < S.n := by omega
      have hl1 := h1.ld c1
      have hl2 := h1.ld c2
      simp only [go_sem, Int.reduceBEq, Int.reduceBNe, Int.reduceNeg, reduceCtorEq, Nat.reduceEqDiff, Nat.reduceAdd, Nat.reduceLeDiff, Nat.reduceMul, Nat.reduceSub, Int.reduceToNat, Int.reduceLT, Int.reduceLE, g2', nadd (show first + (2 * k + 1) < 4000000 by omega), nadd1 (show first + (2 * k + 1) < 4000000 by omega), Nat.add_assoc first (2 * k + 1) 1, S.ix c1, S.ix c2, hl1, hl2]
      refine gC.of (S.cmp m1 d'[first + (2 * k + 1)]! d'[first + (2 * k + 1 + 1)]!) ?_
      rintro _ m2 ⟨rfl, hx2⟩
      simp only [go_sem, Int.reduceBEq, Int.reduceBNe, Int.reduceNeg, reduceCtorEq, Nat.reduceEqDiff, Nat.reduceAdd, Nat.reduceLeDiff, Nat.reduceMul, Nat.reduceSub, Int.reduceToNat, Int.reduceLT, Int.reduceLE]
      have h2 := h1.keep hx2
      have hm2 := Nat.le_trans hm1 hx2.next
      refine gT.of (fun g3' => ?_) (fun g3' => ?_) <;> (have g3 := g3'; try simp only [decide_eq_true_eq, decide_eq_false_iff_not, beq_iff_eq, bne_iff_ne, beq_eq_false_iff_ne, ne_eq, Bool.not_eq_true', Bool.not_eq_false', bne_eq_false_iff_eq, Int.not_lt, Int.not_le] at g3)
      · have hlt := S.lt_t g3
        rw [if_pos (show (decide (2 * k + 1 + 1 < hi) && S.lt d'[first + (2 * k + 1)]! d'[first + (2 * k + 1) + 1]!) = true by rw [Bool.and_eq_true, decide_eq_true_eq]; exact ⟨by omega, hlt⟩)] at he
        simp only [go_sem, Int.reduceBEq, Int.reduceBNe, Int.reduceNeg, reduceCtorEq, Nat.reduceEqDiff, Nat.reduceAdd, Nat.reduceLeDiff, Nat.reduceMul, Nat.reduceSub, Int.reduceToNat, Int.reduceLT, Int.reduceLE, g3', nadd1 (show 2 * k + 1 < 4000000 by omega), nadd (show first + k < 4000000 by omega), nadd (show first + (2 * k + 1 + 1) < 4000000 by omega), S.ix c0, S.ix c2, h2.ld c0, h2.ld c2]
        refine gC.of (S.cmp m2 d'[first + k]! d'[first + (2 * k + 1 + 1)]!) ?_
        rintro _ m3 ⟨rfl, hx3⟩
        simp only [go_sem, Int.reduceBEq, Int.reduceBNe, Int.reduceNeg, reduceCtorEq, Nat.reduceEqDiff, Nat.reduceAdd, Nat.reduceLeDiff, Nat.reduceMul, Nat.reduceSub, Int.reduceToNat, Int.reduceLT, Int.reduceLE]
        have h3 := h2.keep hx3
        have hm3 := Nat.le_trans hm2 hx3.next
        refine gT.of (fun g4' => ?_) (fun g4' => ?_) <;> (have g4 := g4'; try simp only [decide_eq_true_eq, decide_eq_false_iff_not, beq_iff_eq, bne_iff_ne, beq_eq_false_iff_ne, ne_eq, Bool.not_eq_true', Bool.not_eq_false', bne_eq_false_iff_eq, Int.not_lt, Int.not_le] at g4)
        · rw [show (2 * k + 2) = (2 * k + 1 + 1) from rfl, S.lt_f' (by simpa using g4)] at he
          simp only [go_sem, Int.reduceBEq, Int.reduceBNe, Int.reduceNeg, reduceCtorEq, Nat.reduceEqDiff, Nat.reduceAdd, Nat.reduceLeDiff, Nat.reduceMul, Nat.reduceSub, Int.reduceToNat, Int.reduceLT, Int.reduceLE, g4']
          rw [← he]
          exact ⟨h3, hm3⟩
        · have g4 : S.cf d'[first + k]! d'[first + (2 * k + 1 + 1)]! < 0 := by simpa using g4
          rw [show (2 * k + 2) = (2 * k + 1 + 1) from rfl, S.lt_t g4, if_neg (by simp), dif_pos (by omega)] at he
          obtain ⟨n1, n2, t1, t2, h5⟩ := h3.sw c0 c2
          simp only [go_sem, Int.reduceBEq, Int.reduceBNe, Int.reduceNeg, reduceCtorEq, Nat.reduceEqDiff, Nat.reduceAdd, Nat.reduceLeDiff, Nat.reduceMul, Nat.reduceSub, Int.reduceToNat, Int.reduceLT, Int.reduceLE, g4', nadd (show first + k < 4000000 by omega), nadd (show first + (2 * k + 1 + 1) < 4000000 by omega), S.ix c0, S.ix c2, h3.ld c0, h3.ld c2, t1, t2]
          exact ⟨hi - (2 * k + 1 + 1), by omega, 2 * k + 1 + 1, _, rfl, by omega, rfl, h5, by rw [aStore_next t2, aStore_next t1]; exact hm3, he⟩
      · have hlf := S.lt_f' (by simpa using g3)
        rw [if_neg (show ¬ (decide (2 * k + 1 + 1 < hi) && S.lt d'[first + (2 * k + 1)]! d'[first + (2 * k + 1) + 1]!) = true by rw [Bool.and_eq_true]; intro hh; exact absurd (hlf.symm.trans hh.2) (by simp))] at he
        simp only [go_sem, Int.reduceBEq, Int.reduceBNe, Int.reduceNeg, reduceCtorEq, Nat.reduceEqDiff, Nat.reduceAdd, Nat.reduceLeDiff, Nat.reduceMul, Nat.reduceSub, Int.reduceToNat, Int.reduceLT, Int.reduceLE, g3', nadd (show first + k < 4000000 by omega), nadd (show first + (2 * k + 1) < 4000000 by omega), S.ix c0, S.ix c1, h2.ld c0, h2.ld c1]
        refine gC.of (S.cmp m2 d'[first + k]! d'[first + (2 * k + 1)]!) ?_
        rintro _ m3 ⟨rfl, hx3⟩
        simp only [go_sem, Int.reduceBEq, Int.reduceBNe, Int.reduceNeg, reduceCtorEq, Nat.reduceEqDiff, Nat.reduceAdd, Nat.reduceLeDiff, Nat.reduceMul, Nat.reduceSub, Int.reduceToNat, Int.reduceLT, Int.reduceLE]
        have h3 := h2.keep hx3
        have hm3 := Nat.le_trans hm2 hx3.next
        refine gT.of (fun g4' => ?_) (fun g4' => ?_) <;> (have g4 := g4'; try simp only [decide_eq_true_eq, decide_eq_false_iff_not, beq_iff_eq, bne_iff_ne, beq_eq_false_iff_ne, ne_eq, Bool.not_eq_true', Bool.not_eq_false', bne_eq_false_iff_eq, Int.not_lt, Int.not_le] at g4)
        · rw [S.lt_f' (by simpa using g4)] at he
          simp only [go_sem, Int.reduceBEq, Int.reduceBNe, Int.reduceNeg, reduceCtorEq, Nat.reduceEqDiff, Nat.reduceAdd, Nat.reduceLeDiff, Nat.reduceMul, Nat.reduceSub, Int.reduceToNat, Int.reduceLT, Int.reduceLE, g4']
          rw [← he]
          exact ⟨h3, hm3⟩
        · have g4 : S.cf d'[first + k]! d'[first + (2 * k + 1)]! < 0 := by simpa using g4
          rw [S.lt_t g4, if_neg (by simp)] at he
          obtain ⟨n1, n2, t1, t2, h5⟩ := h3.sw c0 c1
          simp only [go_sem, Int.reduceBEq, Int.reduceBNe, Int.reduceNeg, reduceCtorEq, Nat.reduceEqDiff, Nat.reduceAdd, Nat.reduceLeDiff, Nat.reduceMul, Nat.reduceSub, Int.reduceToNat, Int.reduceLT, Int.reduceLE, g4', nadd (show first + k < 4000000 by omega), nadd (show first + (2 * k + 1) < 4000000 by omega), S.ix c0, S.ix c1, h3.ld c0, h3.ld c1, t1, t2]
          exact ⟨hi - (2 * k + 1), by omega, 2 * k + 1, _, rfl, by omega, rfl, h5, by rw [aStore_next t2, aStore_next t1]; exact hm3, he⟩
    · rw [if_neg (by simp; omega)] at he
      simp only [go_sem, Int.reduceBEq, Int.reduceBNe, Int.reduceNeg, reduceCtorEq, Nat.reduceEqDiff, Nat.reduceAdd, Nat.reduceLeDiff, Nat.reduceMul, Nat.reduceSub, Int.reduceToNat, Int.reduceLT, Int.reduceLE, g2', nadd (show first + k < 4000000 by omega), nadd (show first + (2 * k + 1) < 4000000 by omega), S.ix c0, S.ix c1, h1.ld c0, h1.ld c1]
      refine gC.of (S.cmp m1 d'[first + k]! d'[first + (2 * k + 1)]!) ?_
      rintro _ m3 ⟨rfl, hx3⟩
      simp only [go_sem, Int.reduceBEq, Int.reduceBNe, Int.reduceNeg, reduceCtorEq, Nat.reduceEqDiff, Nat.reduceAdd, Nat.reduceLeDiff, Nat.reduceMul, Nat.reduceSub, Int.reduceToNat, Int.reduceLT, Int.reduceLE]
      have h3 := h1.keep hx3
      have hm3 := Nat.le_trans hm1 hx3.next
      refine gT.of (fun g4' => ?_) (fun g4' => ?_) <;> (have g4 := g4'; try simp only [decide_eq_true_eq, decide_eq_false_iff_not, beq_iff_eq, bne_iff_ne, beq_eq_false_iff_ne, ne_eq, Bool.not_eq_true', Bool.not_eq_false', bne_eq_false_iff_eq, Int.not_lt, Int.not_le] at g4)
      · rw [S.lt_f' (by simpa using g4)] at he
        simp only [go_sem, Int.reduceBEq, Int.reduceBNe, Int.reduceNeg, reduceCtorEq, Nat.reduceEqDiff, Nat.reduceAdd, Nat.reduceLeDiff, Nat.reduceMul, Nat.reduceSub, Int.reduceToNat, Int.reduceLT, Int.reduceLE, g4']
        rw [← he]
        exact ⟨h3, hm3⟩
      · have g4 : S.cf d'[first + k]! d'[first + (2 * k + 1)]! < 0 := by simpa using g4
        rw [S.lt_t g4, if_neg (by simp)] at he
        obtain ⟨n1, n2, t1, t2, h5⟩ := h3.sw c0 c1
        simp only [go_sem, Int.reduceBEq, Int.reduceBNe, Int.reduceNeg, reduceCtorEq, Nat.reduceEqDiff, Nat.reduceAdd, Nat.reduceLeDiff, Nat.reduceMul, Nat.reduceSub, Int.reduceToNat, Int.reduceLT, Int.reduceLE, g4', nadd (show first + k < 4000000 by omega), nadd (show first + (2 * k + 1) < 4000000 by omega), S.ix c0, S.ix c1, h3.ld c0, h3.ld c1, t1, t2]
        exact ⟨hi - (2 * k + 1), by omega, 2 * k + 1, _, rfl, by omega, rfl, h5, by rw [aStore_next t2, aStore_next t1]; exact hm3, he⟩

theorem so_heap {a b : Nat} (h : S.Row m d) (hb : b ≤ S.n) (ha : a < b) : WC R F.slices_heapSortCmpFunc_local_entry [S.sv, .int .i64 a, .int .i64 b, S.cv] m fun r m' => S.Row m' (heapSort S.lt d a b) := by
  refine WC.of R.slices_heapSortCmpFunc_local_entry rfl ?_
  have hn := S.small
  simp only [RC.slices_heapSortCmpFunc_local_entry, go_sem, Int.reduceBEq, Int.reduceBNe, Int.reduceNeg, reduceCtorEq, Nat.reduceEqDiff, Nat.reduceAdd, Nat.reduceLeDiff, Nat.reduceMul, Nat.reduceSub, Int.reduceToNat, Int.reduceLT, Int.reduceLE, nsub (show a ≤ b by omega) (show b < 4000000 by omega), nsub1 (show 0 < b - a by omega) (show b - a < 4000000 by omega), nq2 (show b - a - 1 < 4000000 by omega)]
  refine ⟨by omega, ?_⟩
  have e0 : ((((b - a - 1) / 2 + 1 : Nat) : Int) - 1) = (((b - a - 1) / 2 : Nat) : Int) := by omega
  have e9 : ((((b - a) : Nat) : Int) - 1) = (((b - a - 1) : Nat) : Int) := by omega
  refine WL.of (fun r e m' => ∃ (k : Nat) (d' : Array α), r = k ∧ k ≤ (b - a - 1) / 2 + 1 ∧ e = [(0, S.sv), (3, S.cv), (8, .int .i64 a), (9, .int .i64 0), (10, .int .i64 (b - a : Nat)), (11, .int .i64 ((k : Int) - 1))] ∧ S.Row m' d' ∧ heapBuild S.lt (b - a) a k d' = heapBuild S.lt (b - a) a ((b - a - 1) / 2 + 1) d) ((b - a - 1) / 2 + 1)
    ⟨(b - a - 1) / 2 + 1, d, rfl, Nat.le_refl _, by rw [e0]; simp only [go_sem, Int.reduceBEq, Int.reduceBNe, Int.reduceNeg, reduceCtorEq, Nat.reduceEqDiff, Nat.reduceAdd, Nat.reduceLeDiff, Nat.reduceMul, Nat.reduceSub, Int.reduceToNat, Int.reduceLT, Int.reduceLE] <;> rfl, h, rfl⟩ ?_
  rintro n0 _ m1 ⟨k, d', hr, hk, rfl, h1, he⟩
  simp only [RB.slices_heapSortCmpFunc_local_entry_2, go_sem, Int.reduceBEq, Int.reduceBNe, Int.reduceNeg, reduceCtorEq, Nat.reduceEqDiff, Nat.reduceAdd, Nat.reduceLeDiff, Nat.reduceMul, Nat.reduceSub, Int.reduceToNat, Int.reduceLT, Int.reduceLE]
  refine gT.of (fun g1' => ?_) (fun g1' => ?_) <;> (have g1 := g1'; try simp only [decide_eq_true_eq, decide_eq_false_iff_not, beq_iff_eq, bne_iff_ne, beq_eq_false_iff_ne, ne_eq, Bool.not_eq_true', Bool.not_eq_false', bne_eq_false_iff_eq, Int.not_lt, Int.not_le] at g1)
  · obtain ⟨k, rfl⟩ : ∃ k', k = k' + 1 := ⟨k - 1, by omega⟩
    have e1 : (((k + 1 : Nat) : Int) - 1) = (k : Int) := by omega
    rw [e1] at g1'
    simp only [go_sem, Int.reduceBEq, Int.reduceBNe, Int.reduceNeg, reduceCtorEq, Nat.reduceEqDiff, Nat.reduceAdd, Nat.reduceLeDiff, Nat.reduceMul, Nat.reduceSub, Int.reduceToNat, Int.reduceLT, Int.reduceLE, e1, g1']
    refine gC.of (so_sift (lo := k) (hi := b - a) (first := a) h1 (by omega) (by omega)) ?_
    rintro _ m2 ⟨h2, hm2⟩
    have e2 : IntKind.wrap .i64 ((k : Int) - 1) = (k : Int) - 1 := wrap_i64 (by omega) (by omega)
    simp only [go_sem, Int.reduceBEq, Int.reduceBNe, Int.reduceNeg, reduceCtorEq, Nat.reduceEqDiff, Nat.reduceAdd, Nat.reduceLeDiff, Nat.reduceMul, Nat.reduceSub, Int.reduceToNat, Int.reduceLT, Int.reduceLE, e2]
    exact ⟨k, by omega, k, _, rfl, by omega, rfl, h2, he⟩
  · have : k = 0 := by omega
    subst this
    simp only [heapBuild] at he
    simp only [go_sem, Int.reduceBEq, Int.reduceBNe, Int.reduceNeg, reduceCtorEq, Nat.reduceEqDiff, Nat.reduceAdd, Nat.reduceLeDiff, Nat.reduceMul, Nat.reduceSub, Int.reduceToNat, Int.reduceLT, Int.reduceLE, g1', nsub1 (show 0 < b - a by omega) (show b - a < 4000000 by omega)]
    refine WL.of (fun r e m' => ∃ (k : Nat) (d'' : Array α), r = k ∧ k ≤ b - a ∧ e = [(0, S.sv), (3, S.cv), (8, .int .i64 a), (9, .int .i64 0), (12, .int .i64 ((k : Int) - 1))] ∧ S.Row m' d'' ∧ heapPop S.lt a k d'' = heapPop S.lt a (b - a) d') (b - a)
      ⟨b - a, d', rfl, Nat.le_refl _, by rw [e9]; simp only [go_sem, Int.reduceBEq, Int.reduceBNe, Int.reduceNeg, reduceCtorEq, Nat.reduceEqDiff, Nat.reduceAdd, Nat.reduceLeDiff, Nat.reduceMul, Nat.reduceSub, Int.reduceToNat, Int.reduceLT, Int.reduceLE] <;> rfl, h1, rfl⟩ ?_
    rintro n1 _ m2 ⟨k, d'', hr2, hk2, rfl, h2, he2⟩
    simp only [RB.slices_heapSortCmpFunc_local_entry_1, go_sem, Int.reduceBEq, Int.reduceBNe, Int.reduceNeg, reduceCtorEq, Nat.reduceEqDiff, Nat.reduceAdd, Nat.reduceLeDiff, Nat.reduceMul, Nat.reduceSub, Int.reduceToNat, Int.reduceLT, Int.reduceLE]
    refine gT.of (fun g2' => ?_) (fun g2' => ?_) <;> (have g2 := g2'; try simp only [decide_eq_true_eq, decide_eq_false_iff_not, beq_iff_eq, bne_iff_ne, beq_eq_false_iff_ne, ne_eq, Bool.not_eq_true', Bool.not_eq_false', bne_eq_false_iff_eq, Int.not_lt, Int.not_le] at g2)
    · obtain ⟨k, rfl⟩ : ∃ k', k = k' + 1 := ⟨k - 1, by omega⟩
      have e1 : (((k + 1 : Nat) : Int) - 1) = (k : Int) := by omega
      rw [e1] at g2'
      have c0 : a < S.n := by omega
      have c1 : a + k < S.n := by omega
      obtain ⟨n1, n2, t1, t2, h5⟩ := h2.sw c0 c1
      have e2 : IntKind.wrap .i64 ((k : Int) - 1) = (k : Int) - 1 := wrap_i64 (by omega) (by omega)
      simp only [go_sem, Int.reduceBEq, Int.reduceBNe, Int.reduceNeg, reduceCtorEq, Nat.reduceEqDiff, Nat.reduceAdd, Nat.reduceLeDiff, Nat.reduceMul, Nat.reduceSub, Int.reduceToNat, Int.reduceLT, Int.reduceLE, e1, g2', nadd (show a + k < 4000000 by omega), S.ix c0, S.ix c1, h2.ld c0, h2.ld c1, t1, t2]
      refine gC.of (so_sift (lo := 0) (hi := k) (first := a) h5 (by omega) (by omega)) ?_
      rintro _ m3 ⟨h3, hm3⟩
      simp only [go_sem, Int.reduceBEq, Int.reduceBNe, Int.reduceNeg, reduceCtorEq, Nat.reduceEqDiff, Nat.reduceAdd, Nat.reduceLeDiff, Nat.reduceMul, Nat.reduceSub, Int.reduceToNat, Int.reduceLT, Int.reduceLE, e2]
      exact ⟨k, by omega, k, _, rfl, by omega, rfl, h3, he2⟩
    · have : k = 0 := by omega
      subst this
      simp only [heapPop] at he2
      simp only [go_sem, Int.reduceBEq, Int.reduceBNe, Int.reduceNeg, reduceCtorEq, Nat.reduceEqDiff, Nat.reduceAdd, Nat.reduceLeDiff, Nat.reduceMul, Nat.reduceSub, Int.reduceToNat, Int.reduceLT, Int.reduceLE, g2']
      rw [show heapSort S.lt d a b = d'' by rw [he2, he]; rfl]
      exact h2
end Go.Am


/- Sorting a row at local_entry (Local): partitions. Printed out of SortT3.tmpl by sortgen.py. -/
set_option linter.unusedVariables false
set_option linter.unusedSimpArgs false
namespace Go.Am
open Go.Sort
variable {α : Type} [Inhabited α] {S : SortC R α 3} {m : Mem} {d : Array α}

theorem so_pa2 {a i j : Nat} (h : S.Row m d) (ha : a < S.n) (hj : j < S.n) (hi : i ≤ S.n) :
    WL R [0, 1, 4, 12, 13] RB.slices_partitionCmpFunc_local_entry_2 [(0, S.sv), (1, .int .i64 a), (4, S.cv), (12, .int .i64 i), (13, .int .i64 j)] m fun x e m' =>
      x = .exit 6 ∧ e = [(0, S.sv), (1, .int .i64 a), (4, S.cv), (12, .int .i64 (scanUp (fun x => S.lt x d[a]!) d j i)), (13, .int .i64 j), (120, .bool false)] ∧ S.Row m' d := by
  have hn := S.small
  refine WL.of (fun r e m' => ∃ (k : Nat), r = S.n + 1 - k ∧ k ≤ S.n ∧ e = [(0, S.sv), (1, .int .i64 a), (4, S.cv), (12, .int .i64 k), (13, .int .i64 j)] ∧ S.Row m' d ∧ scanUp (fun x => S.lt x d[a]!) d j k = scanUp (fun x => S.lt x d[a]!) d j i) (S.n + 1 - i)
    ⟨i, rfl, hi, by simp only [go_sem, Int.reduceBEq, Int.reduceBNe, Int.reduceNeg, reduceCtorEq, Nat.reduceEqDiff, Nat.reduceAdd, Nat.reduceLeDiff, Nat.reduceMul, Nat.reduceSub, Int.reduceToNat, Int.reduceLT, Int.reduceLE] <;> rfl, h, rfl⟩ ?_
  rintro n0 _ m1 ⟨k, hr, hk, rfl, h1, he⟩
  rw [scanUp] at he
  simp only [RB.slices_partitionCmpFunc_local_entry_2, go_sem, Int.reduceBEq, Int.reduceBNe, Int.reduceNeg, reduceCtorEq, Nat.reduceEqDiff, Nat.reduceAdd, Nat.reduceLeDiff, Nat.reduceMul, Nat.reduceSub, Int.reduceToNat, Int.reduceLT, Int.reduceLE]
  refine gT.of (fun g1' => ?_) (fun g1' => ?_) <;> (have g1 := g1'; try simp only [decide_eq_true_eq, decide_eq_false_iff_not, beq_iff_eq, bne_iff_ne, beq_eq_false_iff_ne, ne_eq, Bool.not_eq_true', Bool.not_eq_false', bne_eq_false_iff_eq, Int.not_lt, Int.not_le] at g1)
  · have hk2 : k < S.n := by omega
    simp only [go_sem, Int.reduceBEq, Int.reduceBNe, Int.reduceNeg, reduceCtorEq, Nat.reduceEqDiff, Nat.reduceAdd, Nat.reduceLeDiff, Nat.reduceMul, Nat.reduceSub, Int.reduceToNat, Int.reduceLT, Int.reduceLE, g1', S.ix hk2, S.ix ha, h1.ld hk2, h1.ld ha]
    refine gC.of (S.cmp m1 d[k]! d[a]!) ?_
    rintro _ m2 ⟨rfl, hx2⟩
    simp only [go_sem, Int.reduceBEq, Int.reduceBNe, Int.reduceNeg, reduceCtorEq, Nat.reduceEqDiff, Nat.reduceAdd, Nat.reduceLeDiff, Nat.reduceMul, Nat.reduceSub, Int.reduceToNat, Int.reduceLT, Int.reduceLE]
    have h2 := h1.keep hx2
    refine gT.of (fun g2' => ?_) (fun g2' => ?_) <;> (have g2 := g2'; try simp only [decide_eq_true_eq, decide_eq_false_iff_not, beq_iff_eq, bne_iff_ne, beq_eq_false_iff_ne, ne_eq, Bool.not_eq_true', Bool.not_eq_false', bne_eq_false_iff_eq, Int.not_lt, Int.not_le] at g2)
    · rw [if_pos (by rw [S.lt_t g2]; simp; omega)] at he
      simp only [go_sem, Int.reduceBEq, Int.reduceBNe, Int.reduceNeg, reduceCtorEq, Nat.reduceEqDiff, Nat.reduceAdd, Nat.reduceLeDiff, Nat.reduceMul, Nat.reduceSub, Int.reduceToNat, Int.reduceLT, Int.reduceLE, g2', nadd1 (show k < 4000000 by omega)]
      exact ⟨S.n + 1 - (k + 1), by omega, k + 1, rfl, by omega, rfl, h2, he⟩
    · rw [if_neg (by rw [S.lt_f' g2]; simp)] at he
      rw [← he]
      simp only [go_sem, Int.reduceBEq, Int.reduceBNe, Int.reduceNeg, reduceCtorEq, Nat.reduceEqDiff, Nat.reduceAdd, Nat.reduceLeDiff, Nat.reduceMul, Nat.reduceSub, Int.reduceToNat, Int.reduceLT, Int.reduceLE, g2']
      exact h2
  · rw [if_neg (by simp; omega)] at he
    rw [← he]
    simp only [go_sem, Int.reduceBEq, Int.reduceBNe, Int.reduceNeg, reduceCtorEq, Nat.reduceEqDiff, Nat.reduceAdd, Nat.reduceLeDiff, Nat.reduceMul, Nat.reduceSub, Int.reduceToNat, Int.reduceLT, Int.reduceLE, g1']
    exact h1

theorem so_pa5 {a i j : Nat} (h : S.Row m d) (ha : a < S.n) (hj : j < S.n) (hi : i ≤ S.n) :
    WL R [0, 1, 4, 12, 13] RB.slices_partitionCmpFunc_local_entry_5 [(0, S.sv), (1, .int .i64 a), (4, S.cv), (12, .int .i64 i), (13, .int .i64 j)] m fun x e m' =>
      x = .exit 0 ∧ e = [(0, S.sv), (1, .int .i64 a), (4, S.cv), (12, .int .i64 (scanUp (fun x => S.lt x d[a]!) d j i)), (13, .int .i64 j), (47, .bool false)] ∧ S.Row m' d := by
  have hn := S.small
  refine WL.of (fun r e m' => ∃ (k : Nat), r = S.n + 1 - k ∧ k ≤ S.n ∧ e = [(0, S.sv), (1, .int .i64 a), (4, S.cv), (12, .int .i64 k), (13, .int .i64 j)] ∧ S.Row m' d ∧ scanUp (fun x => S.lt x d[a]!) d j k = scanUp (fun x => S.lt x d[a]!) d j i) (S.n + 1 - i)
    ⟨i, rfl, hi, by simp only [go_sem, Int.reduceBEq, Int.reduceBNe, Int.reduceNeg, reduceCtorEq, Nat.reduceEqDiff, Nat.reduceAdd, Nat.reduceLeDiff, Nat.reduceMul, Nat.reduceSub, Int.reduceToNat, Int.reduceLT, Int.reduceLE] <;> rfl, h, rfl⟩ ?_
  rintro n0 _ m1 ⟨k, hr, hk, rfl, h1, he⟩
  rw [scanUp] at he
  simp only [RB.slices_partitionCmpFunc_local_entry_5, go_sem, Int.reduceBEq, Int.reduceBNe, Int.reduceNeg, reduceCtorEq, Nat.reduceEqDiff, Nat.reduceAdd, Nat.reduceLeDiff, Nat.reduceMul, Nat.reduceSub, Int.reduceToNat, Int.reduceLT, Int.reduceLE]
  refine gT.of (fun g1' => ?_) (fun g1' => ?_) <;> (have g1 := g1'; try simp only [decide_eq_true_eq, decide_eq_false_iff_not, beq_iff_eq, bne_iff_ne, beq_eq_false_iff_ne, ne_eq, Bool.not_eq_true', Bool.not_eq_false', bne_eq_false_iff_eq, Int.not_lt, Int.not_le] at g1)
  · have hk2 : k < S.n := by omega
    simp only [go_sem, Int.reduceBEq, Int.reduceBNe, Int.reduceNeg, reduceCtorEq, Nat.reduceEqDiff, Nat.reduceAdd, Nat.reduceLeDiff, Nat.reduceMul, Nat.reduceSub, Int.reduceToNat, Int.reduceLT, Int.reduceLE, g1', S.ix hk2, S.ix ha, h1.ld hk2, h1.ld ha]
    refine gC.of (S.cmp m1 d[k]! d[a]!) ?_
    rintro _ m2 ⟨rfl, hx2⟩
    simp only [go_sem, Int.reduceBEq, Int.reduceBNe, Int.reduceNeg, reduceCtorEq, Nat.reduceEqDiff, Nat.reduceAdd, Nat.reduceLeDiff, Nat.reduceMul, Nat.reduceSub, Int.reduceToNat, Int.reduceLT, Int.reduceLE]
    have h2 := h1.keep hx2
    refine gT.of (fun g2' => ?_) (fun g2' => ?_) <;> (have g2 := g2'; try simp only [decide_eq_true_eq, decide_eq_false_iff_not, beq_iff_eq, bne_iff_ne, beq_eq_false_iff_ne, ne_eq, Bool.not_eq_true', Bool.not_eq_false', bne_eq_false_iff_eq, Int.not_lt, Int.not_le] at g2)
    · rw [if_pos (by rw [S.lt_t g2]; simp; omega)] at he
      simp only [go_sem, Int.reduceBEq, Int.reduceBNe, Int.reduceNeg, reduceCtorEq, Nat.reduceEqDiff, Nat.reduceAdd, Nat.reduceLeDiff, Nat.reduceMul, Nat.reduceSub, Int.reduceToNat, Int.reduceLT, Int.reduceLE, g2', nadd1 (show k < 4000000 by omega)]
      exact ⟨S.n + 1 - (k + 1), by omega, k + 1, rfl, by omega, rfl, h2, he⟩
    · rw [if_neg (by rw [S.lt_f' g2]; simp)] at he
      rw [← he]
      simp only [go_sem, Int.reduceBEq, Int.reduceBNe, Int.reduceNeg, reduceCtorEq, Nat.reduceEqDiff, Nat.reduceAdd, Nat.reduceLeDiff, Nat.reduceMul, Nat.reduceSub, Int.reduceToNat, Int.reduceLT, Int.reduceLE, g2']
      exact h2
  · rw [if_neg (by simp; omega)] at he
    rw [← he]
    simp only [go_sem, Int.reduceBEq, Int.reduceBNe, Int.reduceNeg, reduceCtorEq, Nat.reduceEqDiff, Nat.reduceAdd, Nat.reduceLeDiff, Nat.reduceMul, Nat.reduceSub, Int.reduceToNat, Int.reduceLT, Int.reduceLE, g1']
    exact h1

theorem so_pa1 {a i j : Nat} (h : S.Row m d) (ha : a < S.n) (hj : j < S.n) (hi : 1 ≤ i) :
    WL R [0, 1, 4, 12, 13] RB.slices_partitionCmpFunc_local_entry_1 [(0, S.sv), (1, .int .i64 a), (4, S.cv), (12, .int .i64 i), (13, .int .i64 j)] m fun x e m' =>
      x = .exit 8 ∧ e = [(0, S.sv), (1, .int .i64 a), (4, S.cv), (12, .int .i64 i), (13, .int .i64 (scanDown (fun x => !S.lt x d[a]!) d i j)), (139, .bool false)] ∧ S.Row m' d := by
  have hn := S.small
  refine WL.of (fun r e m' => ∃ (k : Nat), r = k ∧ k < S.n ∧ e = [(0, S.sv), (1, .int .i64 a), (4, S.cv), (12, .int .i64 i), (13, .int .i64 k)] ∧ S.Row m' d ∧ scanDown (fun x => !S.lt x d[a]!) d i k = scanDown (fun x => !S.lt x d[a]!) d i j) j
    ⟨j, rfl, hj, by simp only [go_sem, Int.reduceBEq, Int.reduceBNe, Int.reduceNeg, reduceCtorEq, Nat.reduceEqDiff, Nat.reduceAdd, Nat.reduceLeDiff, Nat.reduceMul, Nat.reduceSub, Int.reduceToNat, Int.reduceLT, Int.reduceLE] <;> rfl, h, rfl⟩ ?_
  rintro n0 _ m1 ⟨k, hr, hk, rfl, h1, he⟩
  simp only [RB.slices_partitionCmpFunc_local_entry_1, go_sem, Int.reduceBEq, Int.reduceBNe, Int.reduceNeg, reduceCtorEq, Nat.reduceEqDiff, Nat.reduceAdd, Nat.reduceLeDiff, Nat.reduceMul, Nat.reduceSub, Int.reduceToNat, Int.reduceLT, Int.reduceLE]
  refine gT.of (fun g1' => ?_) (fun g1' => ?_) <;> (have g1 := g1'; try simp only [decide_eq_true_eq, decide_eq_false_iff_not, beq_iff_eq, bne_iff_ne, beq_eq_false_iff_ne, ne_eq, Bool.not_eq_true', Bool.not_eq_false', bne_eq_false_iff_eq, Int.not_lt, Int.not_le] at g1)
  · obtain ⟨k, rfl⟩ : ∃ k', k = k' + 1 := ⟨k - 1, by omega⟩
    simp only [scanDown] at he
    have e1 := nsub1 (i := k + 1) (by omega) (by omega)
    simp only [Nat.add_sub_cancel] at e1
    simp only [go_sem, Int.reduceBEq, Int.reduceBNe, Int.reduceNeg, reduceCtorEq, Nat.reduceEqDiff, Nat.reduceAdd, Nat.reduceLeDiff, Nat.reduceMul, Nat.reduceSub, Int.reduceToNat, Int.reduceLT, Int.reduceLE, g1', S.ix hk, S.ix ha, h1.ld hk, h1.ld ha]
    refine gC.of (S.cmp m1 d[k + 1]! d[a]!) ?_
    rintro _ m2 ⟨rfl, hx2⟩
    simp only [go_sem, Int.reduceBEq, Int.reduceBNe, Int.reduceNeg, reduceCtorEq, Nat.reduceEqDiff, Nat.reduceAdd, Nat.reduceLeDiff, Nat.reduceMul, Nat.reduceSub, Int.reduceToNat, Int.reduceLT, Int.reduceLE]
    have h2 := h1.keep hx2
    refine gT.of (fun g2' => ?_) (fun g2' => ?_) <;> (have g2 := g2'; try simp only [decide_eq_true_eq, decide_eq_false_iff_not, beq_iff_eq, bne_iff_ne, beq_eq_false_iff_ne, ne_eq, Bool.not_eq_true', Bool.not_eq_false', bne_eq_false_iff_eq, Int.not_lt, Int.not_le] at g2)
    · rw [if_pos (by rw [S.lt_f' (by simpa using g2)]; simp; omega)] at he
      simp only [go_sem, Int.reduceBEq, Int.reduceBNe, Int.reduceNeg, reduceCtorEq, Nat.reduceEqDiff, Nat.reduceAdd, Nat.reduceLeDiff, Nat.reduceMul, Nat.reduceSub, Int.reduceToNat, Int.reduceLT, Int.reduceLE, g2', e1]
      exact ⟨k, by omega, k, rfl, by omega, rfl, h2, he⟩
    · rw [if_neg (by rw [S.lt_t (by simpa using g2)]; simp)] at he
      rw [← he]
      simp only [go_sem, Int.reduceBEq, Int.reduceBNe, Int.reduceNeg, reduceCtorEq, Nat.reduceEqDiff, Nat.reduceAdd, Nat.reduceLeDiff, Nat.reduceMul, Nat.reduceSub, Int.reduceToNat, Int.reduceLT, Int.reduceLE, g2']
      exact h2
  · have he2 : scanDown (fun x => !S.lt x d[a]!) d i k = k := by
      cases k with
      | zero => rfl
      | succ k => simp only [scanDown]; rw [if_neg (by simp; omega)]
    rw [← he, he2]
    simp only [go_sem, Int.reduceBEq, Int.reduceBNe, Int.reduceNeg, reduceCtorEq, Nat.reduceEqDiff, Nat.reduceAdd, Nat.reduceLeDiff, Nat.reduceMul, Nat.reduceSub, Int.reduceToNat, Int.reduceLT, Int.reduceLE, g1']
    exact h1

theorem so_pa4 {a i j : Nat} (h : S.Row m d) (ha : a < S.n) (hj : j < S.n) (hi : 1 ≤ i) :
    WL R [0, 1, 4, 12, 13] RB.slices_partitionCmpFunc_local_entry_4 [(0, S.sv), (1, .int .i64 a), (4, S.cv), (12, .int .i64 i), (13, .int .i64 j)] m fun x e m' =>
      x = .exit 2 ∧ e = [(0, S.sv), (1, .int .i64 a), (4, S.cv), (12, .int .i64 i), (13, .int .i64 (scanDown (fun x => !S.lt x d[a]!) d i j)), (66, .bool false)] ∧ S.Row m' d := by
  have hn := S.small
  refine WL.of (fun r e m' => ∃ (k : Nat), r = k ∧ k < S.n ∧ e = [(0, S.sv), (1, .int .i64 a), (4, S.cv), (12, .int .i64 i), (13, .int .i64 k)] ∧ S.Row m' d ∧ scanDown (fun x => !S.lt x d[a]!) d i k = scanDown (fun x => !S.lt x d[a]!) d i j) j
    ⟨j, rfl, hj, by simp only [go_sem, Int.reduceBEq, Int.reduceBNe, Int.reduceNeg, reduceCtorEq, Nat.reduceEqDiff, Nat.reduceAdd, Nat.reduceLeDiff, Nat.reduceMul, Nat.reduceSub, Int.reduceToNat, Int.reduceLT, Int.reduceLE] <;> rfl, h, rfl⟩ ?_
  rintro n0 _ m1 ⟨k, hr, hk, rfl, h1, he⟩
  simp only [RB.slices_partitionCmpFunc_local_entry_4, go_sem, Int.reduceBEq, Int.reduceBNe, Int.reduceNeg, reduceCtorEq, Nat.reduceEqDiff, Nat.reduceAdd, Nat.reduceLeDiff, Nat.reduceMul, Nat.reduceSub, Int.reduceToNat, Int.reduceLT, Int.reduceLE]
  refine gT.of (fun g1' => ?_) (fun g1' => ?_) <;> (have g1 := g1'; try simp only [decide_eq_true_eq, decide_eq_false_iff_not, beq_iff_eq, bne_iff_ne, beq_eq_false_iff_ne, ne_eq, Bool.not_eq_true', Bool.not_eq_false', bne_eq_false_iff_eq, Int.not_lt, Int.not_le] at g1)
  · obtain ⟨k, rfl⟩ : ∃ k', k = k' + 1 := ⟨k - 1, by omega⟩
    simp only [scanDown] at he
    have e1 := nsub1 (i := k + 1) (by omega) (by omega)
    simp only [Nat.add_sub_cancel] at e1
    simp only [go_sem, Int.reduceBEq, Int.reduceBNe, Int.reduceNeg, reduceCtorEq, Nat.reduceEqDiff, Nat.reduceAdd, Nat.reduceLeDiff, Nat.reduceMul, Nat.reduceSub, Int.reduceToNat, Int.reduceLT, Int.reduceLE, g1', S.ix hk, S.ix ha, h1.ld hk, h1.ld ha]
    refine gC.of (S.cmp m1 d[k + 1]! d[a]!) ?_
    rintro _ m2 ⟨rfl, hx2⟩
    simp only [go_sem, Int.reduceBEq, Int.reduceBNe, Int.reduceNeg, reduceCtorEq, Nat.reduceEqDiff, Nat.reduceAdd, Nat.reduceLeDiff, Nat.reduceMul, Nat.reduceSub, Int.reduceToNat, Int.reduceLT, Int.reduceLE]
    have h2 := h1.keep hx2
    refine gT.of (fun g2' => ?_) (fun g2' => ?_) <;> (have g2 := g2'; try simp only [decide_eq_true_eq, decide_eq_false_iff_not, beq_iff_eq, bne_iff_ne, beq_eq_false_iff_ne, ne_eq, Bool.not_eq_true', Bool.not_eq_false', bne_eq_false_iff_eq, Int.not_lt, Int.not_le] at g2)
    · rw [if_pos (by rw [S.lt_f' (by simpa using g2)]; simp; omega)] at he
      simp only [go_sem, Int.reduceBEq, Int.reduceBNe, Int.reduceNeg, reduceCtorEq, Nat.reduceEqDiff, Nat.reduceAdd, Nat.reduceLeDiff, Nat.reduceMul, Nat.reduceSub, Int.reduceToNat, Int.reduceLT, Int.reduceLE, g2', e1]
      exact ⟨k, by omega, k, rfl, by omega, rfl, h2, he⟩
    · rw [if_neg (by rw [S.lt_t (by simpa using g2)]; simp)] at he
      rw [← he]
      simp only [go_sem, Int.reduceBEq, Int.reduceBNe, Int.reduceNeg, reduceCtorEq, Nat.reduceEqDiff, Nat.reduceAdd, Nat.reduceLeDiff, Nat.reduceMul, Nat.reduceSub, Int.reduceToNat, Int.reduceLT, Int.reduceLE, g2']
      exact h2
  · have he2 : scanDown (fun x => !S.lt x d[a]!) d i k = k := by
      cases k with
      | zero => rfl
      | succ k => simp only [scanDown]; rw [if_neg (by simp; omega)]
    rw [← he, he2]
    simp only [go_sem, Int.reduceBEq, Int.reduceBNe, Int.reduceNeg, reduceCtorEq, Nat.reduceEqDiff, Nat.reduceAdd, Nat.reduceLeDiff, Nat.reduceMul, Nat.reduceSub, Int.reduceToNat, Int.reduceLT, Int.reduceLE, g1']
    exact h1

theorem so_pa3 {a i j : Nat} (h : S.Row m d) (ha : a < S.n) (hj : j < S.n) (hi : 1 ≤ i) (hij : i ≤ j + 1) :
    WL R [0, 1, 4, 12, 13] RB.slices_partitionCmpFunc_local_entry_3 [(0, S.sv), (1, .int .i64 a), (4, S.cv), (12, .int .i64 i), (13, .int .i64 j)] m fun x e m' =>
      x = .exit 4 ∧ (∃ q b, e = [(0, S.sv), (1, .int .i64 a), (4, S.cv), (12, q), (13, .int .i64 (partLoop S.lt a i j d).1), (144, b)]) ∧ S.Row m' (partLoop S.lt a i j d).2 := by
  have hn := S.small
  refine WL.of (fun r e m' => ∃ (i' j' : Nat) (d' : Array α), r = j' + 1 - i' ∧ 1 ≤ i' ∧ i' ≤ j' + 1 ∧ j' < S.n ∧ e = [(0, S.sv), (1, .int .i64 a), (4, S.cv), (12, .int .i64 i'), (13, .int .i64 j')] ∧ S.Row m' d' ∧ partLoop S.lt a i' j' d' = partLoop S.lt a i j d) (j + 1 - i)
    ⟨i, j, d, rfl, hi, hij, hj, by simp only [go_sem, Int.reduceBEq, Int.reduceBNe, Int.reduceNeg, reduceCtorEq, Nat.reduceEqDiff, Nat.reduceAdd, Nat.reduceLeDiff, Nat.reduceMul, Nat.reduceSub, Int.reduceToNat, Int.reduceLT, Int.reduceLE] <;> rfl, h, rfl⟩ ?_
  rintro n0 _ m1 ⟨i', j', d', hr, hi', hij', hj', rfl, h1, he⟩
  simp only [RB.slices_partitionCmpFunc_local_entry_3, go_sem, Int.reduceBEq, Int.reduceBNe, Int.reduceNeg, reduceCtorEq, Nat.reduceEqDiff, Nat.reduceAdd, Nat.reduceLeDiff, Nat.reduceMul, Nat.reduceSub, Int.reduceToNat, Int.reduceLT, Int.reduceLE]
  rw [partLoop_eq] at he
  have u1 := scanUp_ge (fun x => S.lt x d'[a]!) d' j' i'
  have u2 := (scanUp_spec (fun x => S.lt x d'[a]!) d' j' _ i' rfl).2.1 hij'
  have u3 := (scanUp_spec (fun x => S.lt x d'[a]!) d' j' _ i' rfl).2.2.2
  refine WL.mono (so_pa2 h1 ha hj' (by omega)) ?_
  rintro _ _ m2 ⟨rfl, rfl, h2⟩
  generalize scanUp (fun x => S.lt x d'[a]!) d' j' i' = i2 at u1 u2 u3 he ⊢
  simp only [go_sem, Int.reduceBEq, Int.reduceBNe, Int.reduceNeg, reduceCtorEq, Nat.reduceEqDiff, Nat.reduceAdd, Nat.reduceLeDiff, Nat.reduceMul, Nat.reduceSub, Int.reduceToNat, Int.reduceLT, Int.reduceLE]
  have w1 := scanDown_le (fun x => !S.lt x d'[a]!) d' i2 j'
  have w2 := (scanDown_spec (fun x => !S.lt x d'[a]!) d' i2 j').2.1 (by omega)
  have w3 := (scanDown_spec (fun x => !S.lt x d'[a]!) d' i2 j').2.2.2
  refine WL.mono (so_pa1 h2 ha hj' (by omega)) ?_
  rintro _ _ m3 ⟨rfl, rfl, h3⟩
  generalize scanDown (fun x => !S.lt x d'[a]!) d' i2 j' = j2 at w1 w2 w3 he ⊢
  have hne : i2 ≠ j2 := by
    intro e
    subst e
    have q1 := u3 (by omega)
    have q2 := w3 (by omega) (by omega)
    first | (simp [q1] at q2; done) | (cases hh : S.lt d'[a]! d'[i2]! <;> simp [hh] at q1 q2)
  simp only [go_sem, Int.reduceBEq, Int.reduceBNe, Int.reduceNeg, reduceCtorEq, Nat.reduceEqDiff, Nat.reduceAdd, Nat.reduceLeDiff, Nat.reduceMul, Nat.reduceSub, Int.reduceToNat, Int.reduceLT, Int.reduceLE]
  refine gT.of (fun g1' => ?_) (fun g1' => ?_) <;> (have g1 := g1'; try simp only [decide_eq_true_eq, decide_eq_false_iff_not, beq_iff_eq, bne_iff_ne, beq_eq_false_iff_ne, ne_eq, Bool.not_eq_true', Bool.not_eq_false', bne_eq_false_iff_eq, Int.not_lt, Int.not_le] at g1)
  · rw [if_pos (by omega)] at he
    simp only [go_sem, Int.reduceBEq, Int.reduceBNe, Int.reduceNeg, reduceCtorEq, Nat.reduceEqDiff, Nat.reduceAdd, Nat.reduceLeDiff, Nat.reduceMul, Nat.reduceSub, Int.reduceToNat, Int.reduceLT, Int.reduceLE, g1']
    rw [← he]
    exact ⟨⟨_, _, rfl⟩, h3⟩
  · rw [if_neg (by omega)] at he
    have c1 : i2 < S.n := by omega
    have c2 : j2 < S.n := by omega
    obtain ⟨n1, n2, t1, t2, h5⟩ := h3.sw c1 c2
    simp only [go_sem, Int.reduceBEq, Int.reduceBNe, Int.reduceNeg, reduceCtorEq, Nat.reduceEqDiff, Nat.reduceAdd, Nat.reduceLeDiff, Nat.reduceMul, Nat.reduceSub, Int.reduceToNat, Int.reduceLT, Int.reduceLE, g1', S.ix c1, S.ix c2, h3.ld c1, h3.ld c2, t1, t2, nadd1 (show i2 < 4000000 by omega), nsub1 (show 0 < j2 by omega) (show j2 < 4000000 by omega)]
    exact ⟨j2 - 1 + 1 - (i2 + 1), by omega, i2 + 1, j2 - 1, _, rfl, by omega, by omega, by omega, rfl, h5, he⟩

theorem so_part {a b p : Nat} (h : S.Row m d) (hb : b ≤ S.n) (hp : a ≤ p) (hp2 : p < b) : WC R F.slices_partitionCmpFunc_local_entry [S.sv, .int .i64 a, .int .i64 b, .int .i64 p, S.cv] m fun r m' =>
    r = .tuple #[.int .i64 (partition S.lt d a b p).1, .bool (partition S.lt d a b p).2.1] ∧ S.Row m' (partition S.lt d a b p).2.2 := by
  refine WC.of R.slices_partitionCmpFunc_local_entry rfl ?_
  have hn := S.small
  have ca : a < S.n := by omega
  have cp : p < S.n := by omega
  obtain ⟨n1, n2, t1, t2, h1⟩ := h.sw ca cp
  simp only [RC.slices_partitionCmpFunc_local_entry, go_sem, Int.reduceBEq, Int.reduceBNe, Int.reduceNeg, reduceCtorEq, Nat.reduceEqDiff, Nat.reduceAdd, Nat.reduceLeDiff, Nat.reduceMul, Nat.reduceSub, Int.reduceToNat, Int.reduceLT, Int.reduceLE, S.ix ca, S.ix cp, h.ld ca, h.ld cp, t1, t2, nadd1 (show a < 4000000 by omega), nsub1 (show 0 < b by omega) (show b < 4000000 by omega)]
  have u1 := scanUp_ge (fun x => S.lt x (swp d a p)[a]!) (swp d a p) (b - 1) (a + 1)
  have u2 := (scanUp_spec (fun x => S.lt x (swp d a p)[a]!) (swp d a p) (b - 1) _ (a + 1) rfl).2.1 (by omega)
  have w1 := scanDown_le (fun x => !S.lt x (swp d a p)[a]!) (swp d a p) (scanUp (fun x => S.lt x (swp d a p)[a]!) (swp d a p) (b - 1) (a + 1)) (b - 1)
  have w2 := (scanDown_spec (fun x => !S.lt x (swp d a p)[a]!) (swp d a p) (scanUp (fun x => S.lt x (swp d a p)[a]!) (swp d a p) (b - 1) (a + 1)) (b - 1)).2.1 (by omega)
  have u3 := (scanUp_spec (fun x => S.lt x (swp d a p)[a]!) (swp d a p) (b - 1) _ (a + 1) rfl).2.2.2
  have w3 := (scanDown_spec (fun x => !S.lt x (swp d a p)[a]!) (swp d a p) (scanUp (fun x => S.lt x (swp d a p)[a]!) (swp d a p) (b - 1) (a + 1)) (b - 1)).2.2.2
  have hpe : partition S.lt d a b p = (if scanUp (fun x => S.lt x (swp d a p)[a]!) (swp d a p) (b - 1) (a + 1) > scanDown (fun x => !S.lt x (swp d a p)[a]!) (swp d a p) (scanUp (fun x => S.lt x (swp d a p)[a]!) (swp d a p) (b - 1) (a + 1)) (b - 1) then
      (scanDown (fun x => !S.lt x (swp d a p)[a]!) (swp d a p) (scanUp (fun x => S.lt x (swp d a p)[a]!) (swp d a p) (b - 1) (a + 1)) (b - 1), true, swp (swp d a p) (scanDown (fun x => !S.lt x (swp d a p)[a]!) (swp d a p) (scanUp (fun x => S.lt x (swp d a p)[a]!) (swp d a p) (b - 1) (a + 1)) (b - 1)) a)
      else ((partLoop S.lt a (scanUp (fun x => S.lt x (swp d a p)[a]!) (swp d a p) (b - 1) (a + 1) + 1) (scanDown (fun x => !S.lt x (swp d a p)[a]!) (swp d a p) (scanUp (fun x => S.lt x (swp d a p)[a]!) (swp d a p) (b - 1) (a + 1)) (b - 1) - 1) (swp (swp d a p) (scanUp (fun x => S.lt x (swp d a p)[a]!) (swp d a p) (b - 1) (a + 1)) (scanDown (fun x => !S.lt x (swp d a p)[a]!) (swp d a p) (scanUp (fun x => S.lt x (swp d a p)[a]!) (swp d a p) (b - 1) (a + 1)) (b - 1)))).1, false,
        swp (partLoop S.lt a (scanUp (fun x => S.lt x (swp d a p)[a]!) (swp d a p) (b - 1) (a + 1) + 1) (scanDown (fun x => !S.lt x (swp d a p)[a]!) (swp d a p) (scanUp (fun x => S.lt x (swp d a p)[a]!) (swp d a p) (b - 1) (a + 1)) (b - 1) - 1) (swp (swp d a p) (scanUp (fun x => S.lt x (swp d a p)[a]!) (swp d a p) (b - 1) (a + 1)) (scanDown (fun x => !S.lt x (swp d a p)[a]!) (swp d a p) (scanUp (fun x => S.lt x (swp d a p)[a]!) (swp d a p) (b - 1) (a + 1)) (b - 1)))).2
          (partLoop S.lt a (scanUp (fun x => S.lt x (swp d a p)[a]!) (swp d a p) (b - 1) (a + 1) + 1) (scanDown (fun x => !S.lt x (swp d a p)[a]!) (swp d a p) (scanUp (fun x => S.lt x (swp d a p)[a]!) (swp d a p) (b - 1) (a + 1)) (b - 1) - 1) (swp (swp d a p) (scanUp (fun x => S.lt x (swp d a p)[a]!) (swp d a p) (b - 1) (a + 1)) (scanDown (fun x => !S.lt x (swp d a p)[a]!) (swp d a p) (scanUp (fun x => S.lt x (swp d a p)[a]!) (swp d a p) (b - 1) (a + 1)) (b - 1)))).1 a)) := rfl
  rw [hpe]
  refine WL.mono (so_pa5 h1 ca (show b - 1 < S.n by omega) (by omega)) ?_
  rintro _ _ m2 ⟨rfl, rfl, h2⟩
  generalize scanUp (fun x => S.lt x (swp d a p)[a]!) (swp d a p) (b - 1) (a + 1) = i2 at u1 u2 u3 w1 w2 w3 ⊢
  simp only [go_sem, Int.reduceBEq, Int.reduceBNe, Int.reduceNeg, reduceCtorEq, Nat.reduceEqDiff, Nat.reduceAdd, Nat.reduceLeDiff, Nat.reduceMul, Nat.reduceSub, Int.reduceToNat, Int.reduceLT, Int.reduceLE]
  refine WL.mono (so_pa4 h2 ca (show b - 1 < S.n by omega) (by omega)) ?_
  rintro _ _ m3 ⟨rfl, rfl, h3⟩
  generalize scanDown (fun x => !S.lt x (swp d a p)[a]!) (swp d a p) i2 (b - 1) = j2 at w1 w2 w3 ⊢
  have hne : i2 ≠ j2 := by
    intro e
    subst e
    have q1 := u3 (by omega)
    have q2 := w3 (by omega) (by omega)
    first | (simp [q1] at q2; done) | (cases hh : S.lt d'[a]! d'[i2]! <;> simp [hh] at q1 q2)
  clear u3 w3
  generalize swp d a p = d1 at *
  simp only [go_sem, Int.reduceBEq, Int.reduceBNe, Int.reduceNeg, reduceCtorEq, Nat.reduceEqDiff, Nat.reduceAdd, Nat.reduceLeDiff, Nat.reduceMul, Nat.reduceSub, Int.reduceToNat, Int.reduceLT, Int.reduceLE]
  have c2 : j2 < S.n := by omega
  refine gT.of (fun g1' => ?_) (fun g1' => ?_) <;> (have g1 := g1'; try simp only [decide_eq_true_eq, decide_eq_false_iff_not, beq_iff_eq, bne_iff_ne, beq_eq_false_iff_ne, ne_eq, Bool.not_eq_true', Bool.not_eq_false', bne_eq_false_iff_eq, Int.not_lt, Int.not_le] at g1)
  · rw [if_pos (by omega)]
    obtain ⟨k1, k2, r1, r2, h5⟩ := h3.sw c2 ca
    simp only [go_sem, Int.reduceBEq, Int.reduceBNe, Int.reduceNeg, reduceCtorEq, Nat.reduceEqDiff, Nat.reduceAdd, Nat.reduceLeDiff, Nat.reduceMul, Nat.reduceSub, Int.reduceToNat, Int.reduceLT, Int.reduceLE, g1', S.ix c2, S.ix ca, h3.ld c2, h3.ld ca, r1, r2]
    exact h5
  · rw [if_neg (by omega)]
    have c1 : i2 < S.n := by omega
    obtain ⟨k1, k2, r1, r2, h5⟩ := h3.sw c1 c2
    simp only [go_sem, Int.reduceBEq, Int.reduceBNe, Int.reduceNeg, reduceCtorEq, Nat.reduceEqDiff, Nat.reduceAdd, Nat.reduceLeDiff, Nat.reduceMul, Nat.reduceSub, Int.reduceToNat, Int.reduceLT, Int.reduceLE, g1', S.ix c1, S.ix c2, h3.ld c1, h3.ld c2, r1, r2, nadd1 (show i2 < 4000000 by omega), nsub1 (show 0 < j2 by omega) (show j2 < 4000000 by omega)]
    refine WL.mono (so_pa3 h5 ca (show j2 - 1 < S.n by omega) (by omega) (by omega)) ?_
    rintro _ _ m4 ⟨rfl, ⟨q, bb, rfl⟩, h6⟩
    have hle := partLoop_le (S := S) (a := a) (j2 - 1 + 1 - (i2 + 1)) (i2 + 1) (j2 - 1) (swp d1 i2 j2) (Nat.le_refl _)
    generalize partLoop S.lt a (i2 + 1) (j2 - 1) (swp d1 i2 j2) = P at *
    have c3 : P.1 < S.n := by omega
    obtain ⟨k3, k4, r3, r4, h7⟩ := h6.sw c3 ca
    simp only [go_sem, Int.reduceBEq, Int.reduceBNe, Int.reduceNeg, reduceCtorEq, Nat.reduceEqDiff, Nat.reduceAdd, Nat.reduceLeDiff, Nat.reduceMul, Nat.reduceSub, Int.reduceToNat, Int.reduceLT, Int.reduceLE, S.ix c3, S.ix ca, h6.ld c3, h6.ld ca, r3, r4]
    exact h7

theorem so_pe2 {a i j : Nat} (h : S.Row m d) (ha : a < S.n) (hj : j < S.n) (hi : i ≤ S.n) :
    WL R [0, 1, 4, 11, 12] RB.slices_partitionEqualCmpFunc_local_entry_2 [(0, S.sv), (1, .int .i64 a), (4, S.cv), (11, .int .i64 i), (12, .int .i64 j)] m fun x e m' =>
      x = .exit 2 ∧ e = [(0, S.sv), (1, .int .i64 a), (4, S.cv), (11, .int .i64 (scanUp (fun x => !S.lt d[a]! x) d j i)), (12, .int .i64 j), (47, .bool false)] ∧ S.Row m' d := by
  have hn := S.small
  refine WL.of (fun r e m' => ∃ (k : Nat), r = S.n + 1 - k ∧ k ≤ S.n ∧ e = [(0, S.sv), (1, .int .i64 a), (4, S.cv), (11, .int .i64 k), (12, .int .i64 j)] ∧ S.Row m' d ∧ scanUp (fun x => !S.lt d[a]! x) d j k = scanUp (fun x => !S.lt d[a]! x) d j i) (S.n + 1 - i)
    ⟨i, rfl, hi, by simp only [go_sem, Int.reduceBEq, Int.reduceBNe, Int.reduceNeg, reduceCtorEq, Nat.reduceEqDiff, Nat.reduceAdd, Nat.reduceLeDiff, Nat.reduceMul, Nat.reduceSub, Int.reduceToNat, Int.reduceLT, Int.reduceLE] <;> rfl, h, rfl⟩ ?_
  rintro n0 _ m1 ⟨k, hr, hk, rfl, h1, he⟩
  rw [scanUp] at he
  simp only [RB.slices_partitionEqualCmpFunc_local_entry_2, go_sem, Int.reduceBEq, Int.reduceBNe, Int.reduceNeg, reduceCtorEq, Nat.reduceEqDiff, Nat.reduceAdd, Nat.reduceLeDiff, Nat.reduceMul, Nat.reduceSub, Int.reduceToNat, Int.reduceLT, Int.reduceLE]
  refine gT.of (fun g1' => ?_) (fun g1' => ?_) <;> (have g1 := g1'; try simp only [decide_eq_true_eq, decide_eq_false_iff_not, beq_iff_eq, bne_iff_ne, beq_eq_false_iff_ne, ne_eq, Bool.not_eq_true', Bool.not_eq_false', bne_eq_false_iff_eq, Int.not_lt, Int.not_le] at g1)
  · have hk2 : k < S.n := by omega
    simp only [go_sem, Int.reduceBEq, Int.reduceBNe, Int.reduceNeg, reduceCtorEq, Nat.reduceEqDiff, Nat.reduceAdd, Nat.reduceLeDiff, Nat.reduceMul, Nat.reduceSub, Int.reduceToNat, Int.reduceLT, Int.reduceLE, g1', S.ix hk2, S.ix ha, h1.ld hk2, h1.ld ha]
    refine gC.of (S.cmp m1 d[a]! d[k]!) ?_
    rintro _ m2 ⟨rfl, hx2⟩
    simp only [go_sem, Int.reduceBEq, Int.reduceBNe, Int.reduceNeg, reduceCtorEq, Nat.reduceEqDiff, Nat.reduceAdd, Nat.reduceLeDiff, Nat.reduceMul, Nat.reduceSub, Int.reduceToNat, Int.reduceLT, Int.reduceLE]
    have h2 := h1.keep hx2
    refine gT.of (fun g2' => ?_) (fun g2' => ?_) <;> (have g2 := g2'; try simp only [decide_eq_true_eq, decide_eq_false_iff_not, beq_iff_eq, bne_iff_ne, beq_eq_false_iff_ne, ne_eq, Bool.not_eq_true', Bool.not_eq_false', bne_eq_false_iff_eq, Int.not_lt, Int.not_le] at g2)
    · rw [if_pos (by rw [S.lt_f' (by simpa using g2)]; simp; omega)] at he
      simp only [go_sem, Int.reduceBEq, Int.reduceBNe, Int.reduceNeg, reduceCtorEq, Nat.reduceEqDiff, Nat.reduceAdd, Nat.reduceLeDiff, Nat.reduceMul, Nat.reduceSub, Int.reduceToNat, Int.reduceLT, Int.reduceLE, g2', nadd1 (show k < 4000000 by omega)]
      exact ⟨S.n + 1 - (k + 1), by omega, k + 1, rfl, by omega, rfl, h2, he⟩
    · rw [if_neg (by rw [S.lt_t (by simpa using g2)]; simp)] at he
      rw [← he]
      simp only [go_sem, Int.reduceBEq, Int.reduceBNe, Int.reduceNeg, reduceCtorEq, Nat.reduceEqDiff, Nat.reduceAdd, Nat.reduceLeDiff, Nat.reduceMul, Nat.reduceSub, Int.reduceToNat, Int.reduceLT, Int.reduceLE, g2']
      exact h2
  · rw [if_neg (by simp; omega)] at he
    rw [← he]
    simp only [go_sem, Int.reduceBEq, Int.reduceBNe, Int.reduceNeg, reduceCtorEq, Nat.reduceEqDiff, Nat.reduceAdd, Nat.reduceLeDiff, Nat.reduceMul, Nat.reduceSub, Int.reduceToNat, Int.reduceLT, Int.reduceLE, g1']
    exact h1

theorem so_pe1 {a i j : Nat} (h : S.Row m d) (ha : a < S.n) (hj : j < S.n) (hi : 1 ≤ i) :
    WL R [0, 1, 4, 11, 12] RB.slices_partitionEqualCmpFunc_local_entry_1 [(0, S.sv), (1, .int .i64 a), (4, S.cv), (11, .int .i64 i), (12, .int .i64 j)] m fun x e m' =>
      x = .exit 4 ∧ e = [(0, S.sv), (1, .int .i64 a), (4, S.cv), (11, .int .i64 i), (12, .int .i64 (scanDown (fun x => S.lt d[a]! x) d i j)), (65, .bool false)] ∧ S.Row m' d := by
  have hn := S.small
  refine WL.of (fun r e m' => ∃ (k : Nat), r = k ∧ k < S.n ∧ e = [(0, S.sv), (1, .int .i64 a), (4, S.cv), (11, .int .i64 i), (12, .int .i64 k)] ∧ S.Row m' d ∧ scanDown (fun x => S.lt d[a]! x) d i k = scanDown (fun x => S.lt d[a]! x) d i j) j
    ⟨j, rfl, hj, by simp only [go_sem, Int.reduceBEq, Int.reduceBNe, Int.reduceNeg, reduceCtorEq, Nat.reduceEqDiff, Nat.reduceAdd, Nat.reduceLeDiff, Nat.reduceMul, Nat.reduceSub, Int.reduceToNat, Int.reduceLT, Int.reduceLE] <;> rfl, h, rfl⟩ ?_
  rintro n0 _ m1 ⟨k, hr, hk, rfl, h1, he⟩
  simp only [RB.slices_partitionEqualCmpFunc_local_entry_1, go_sem, Int.reduceBEq, Int.reduceBNe, Int.reduceNeg, reduceCtorEq, Nat.reduceEqDiff, Nat.reduceAdd, Nat.reduceLeDiff, Nat.reduceMul, Nat.reduceSub, Int.reduceToNat, Int.reduceLT, Int.reduceLE]
  refine gT.of (fun g1' => ?_) (fun g1' => ?_) <;> (have g1 := g1'; try simp only [decide_eq_true_eq, decide_eq_false_iff_not, beq_iff_eq, bne_iff_ne, beq_eq_false_iff_ne, ne_eq, Bool.not_eq_true', Bool.not_eq_false', bne_eq_false_iff_eq, Int.not_lt, Int.not_le] at g1)
  · obtain ⟨k, rfl⟩ : ∃ k', k = k' + 1 := ⟨k - 1, by omega⟩
    simp only [scanDown] at he
    have e1 := nsub1 (i := k + 1) (by omega) (by omega)
    simp only [Nat.add_sub_cancel] at e1
    simp only [go_sem, Int.reduceBEq, Int.reduceBNe, Int.reduceNeg, reduceCtorEq, Nat.reduceEqDiff, Nat.reduceAdd, Nat.reduceLeDiff, Nat.reduceMul, Nat.reduceSub, Int.reduceToNat, Int.reduceLT, Int.reduceLE, g1', S.ix hk, S.ix ha, h1.ld hk, h1.ld ha]
    refine gC.of (S.cmp m1 d[a]! d[k + 1]!) ?_
    rintro _ m2 ⟨rfl, hx2⟩
    simp only [go_sem, Int.reduceBEq, Int.reduceBNe, Int.reduceNeg, reduceCtorEq, Nat.reduceEqDiff, Nat.reduceAdd, Nat.reduceLeDiff, Nat.reduceMul, Nat.reduceSub, Int.reduceToNat, Int.reduceLT, Int.reduceLE]
    have h2 := h1.keep hx2
    refine gT.of (fun g2' => ?_) (fun g2' => ?_) <;> (have g2 := g2'; try simp only [decide_eq_true_eq, decide_eq_false_iff_not, beq_iff_eq, bne_iff_ne, beq_eq_false_iff_ne, ne_eq, Bool.not_eq_true', Bool.not_eq_false', bne_eq_false_iff_eq, Int.not_lt, Int.not_le] at g2)
    · rw [if_pos (by rw [S.lt_t g2]; simp; omega)] at he
      simp only [go_sem, Int.reduceBEq, Int.reduceBNe, Int.reduceNeg, reduceCtorEq, Nat.reduceEqDiff, Nat.reduceAdd, Nat.reduceLeDiff, Nat.reduceMul, Nat.reduceSub, Int.reduceToNat, Int.reduceLT, Int.reduceLE, g2', e1]
      exact ⟨k, by omega, k, rfl, by omega, rfl, h2, he⟩
    · rw [if_neg (by rw [S.lt_f' g2]; simp)] at he
      rw [← he]
      simp only [go_sem, Int.reduceBEq, Int.reduceBNe, Int.reduceNeg, reduceCtorEq, Nat.reduceEqDiff, Nat.reduceAdd, Nat.reduceLeDiff, Nat.reduceMul, Nat.reduceSub, Int.reduceToNat, Int.reduceLT, Int.reduceLE, g2']
      exact h2
  · have he2 : scanDown (fun x => S.lt d[a]! x) d i k = k := by
      cases k with
      | zero => rfl
      | succ k => simp only [scanDown]; rw [if_neg (by simp; omega)]
    rw [← he, he2]
    simp only [go_sem, Int.reduceBEq, Int.reduceBNe, Int.reduceNeg, reduceCtorEq, Nat.reduceEqDiff, Nat.reduceAdd, Nat.reduceLeDiff, Nat.reduceMul, Nat.reduceSub, Int.reduceToNat, Int.reduceLT, Int.reduceLE, g1']
    exact h1

theorem so_pe3 {a i j : Nat} (h : S.Row m d) (ha : a < S.n) (hj : j < S.n) (hi : 1 ≤ i) (hij : i ≤ j + 1) :
    WL R [0, 1, 4, 11, 12] RB.slices_partitionEqualCmpFunc_local_entry_3 [(0, S.sv), (1, .int .i64 a), (4, S.cv), (11, .int .i64 i), (12, .int .i64 j)] m fun x e m' =>
      x = .exit 0 ∧ (∃ q b, e = [(0, S.sv), (1, .int .i64 a), (4, S.cv), (11, .int .i64 (partEqLoop S.lt a i j d).1), (12, q), (70, b)]) ∧ S.Row m' (partEqLoop S.lt a i j d).2 := by
  have hn := S.small
  refine WL.of (fun r e m' => ∃ (i' j' : Nat) (d' : Array α), r = j' + 1 - i' ∧ 1 ≤ i' ∧ i' ≤ j' + 1 ∧ j' < S.n ∧ e = [(0, S.sv), (1, .int .i64 a), (4, S.cv), (11, .int .i64 i'), (12, .int .i64 j')] ∧ S.Row m' d' ∧ partEqLoop S.lt a i' j' d' = partEqLoop S.lt a i j d) (j + 1 - i)
    ⟨i, j, d, rfl, hi, hij, hj, by simp only [go_sem, Int.reduceBEq, Int.reduceBNe, Int.reduceNeg, reduceCtorEq, Nat.reduceEqDiff, Nat.reduceAdd, Nat.reduceLeDiff, Nat.reduceMul, Nat.reduceSub, Int.reduceToNat, Int.reduceLT, Int.reduceLE] <;> rfl, h, rfl⟩ ?_
  rintro n0 _ m1 ⟨i', j', d', hr, hi', hij', hj', rfl, h1, he⟩
  simp only [RB.slices_partitionEqualCmpFunc_local_entry_3, go_sem, Int.reduceBEq, Int.reduceBNe, Int.reduceNeg, reduceCtorEq, Nat.reduceEqDiff, Nat.reduceAdd, Nat.reduceLeDiff, Nat.reduceMul, Nat.reduceSub, Int.reduceToNat, Int.reduceLT, Int.reduceLE]
  rw [partEqLoop_eq] at he
  have u1 := scanUp_ge (fun x => !S.lt d'[a]! x) d' j' i'
  have u2 := (scanUp_spec (fun x => !S.lt d'[a]! x) d' j' _ i' rfl).2.1 hij'
  have u3 := (scanUp_spec (fun x => !S.lt d'[a]! x) d' j' _ i' rfl).2.2.2
  refine WL.mono (so_pe2 h1 ha hj' (by omega)) ?_
  rintro _ _ m2 ⟨rfl, rfl, h2⟩
  generalize scanUp (fun x => !S.lt d'[a]! x) d' j' i' = i2 at u1 u2 u3 he ⊢
  simp only [go_sem, Int.reduceBEq, Int.reduceBNe, Int.reduceNeg, reduceCtorEq, Nat.reduceEqDiff, Nat.reduceAdd, Nat.reduceLeDiff, Nat.reduceMul, Nat.reduceSub, Int.reduceToNat, Int.reduceLT, Int.reduceLE]
  have w1 := scanDown_le (fun x => S.lt d'[a]! x) d' i2 j'
  have w2 := (scanDown_spec (fun x => S.lt d'[a]! x) d' i2 j').2.1 (by omega)
  have w3 := (scanDown_spec (fun x => S.lt d'[a]! x) d' i2 j').2.2.2
  refine WL.mono (so_pe1 h2 ha hj' (by omega)) ?_
  rintro _ _ m3 ⟨rfl, rfl, h3⟩
  generalize scanDown (fun x => S.lt d'[a]! x) d' i2 j' = j2 at w1 w2 w3 he ⊢
  have hne : i2 ≠ j2 := by
    intro e
    subst e
    have q1 := u3 (by omega)
    have q2 := w3 (by omega) (by omega)
    first | (simp [q1] at q2; done) | (cases hh : S.lt d'[a]! d'[i2]! <;> simp [hh] at q1 q2)
  simp only [go_sem, Int.reduceBEq, Int.reduceBNe, Int.reduceNeg, reduceCtorEq, Nat.reduceEqDiff, Nat.reduceAdd, Nat.reduceLeDiff, Nat.reduceMul, Nat.reduceSub, Int.reduceToNat, Int.reduceLT, Int.reduceLE]
  refine gT.of (fun g1' => ?_) (fun g1' => ?_) <;> (have g1 := g1'; try simp only [decide_eq_true_eq, decide_eq_false_iff_not, beq_iff_eq, bne_iff_ne, beq_eq_false_iff_ne, ne_eq, Bool.not_eq_true', Bool.not_eq_false', bne_eq_false_iff_eq, Int.not_lt, Int.not_le] at g1)
  · rw [if_pos (by omega)] at he
    simp only [go_sem, Int.reduceBEq, Int.reduceBNe, Int.reduceNeg, reduceCtorEq, Nat.reduceEqDiff, Nat.reduceAdd, Nat.reduceLeDiff, Nat.reduceMul, Nat.reduceSub, Int.reduceToNat, Int.reduceLT, Int.reduceLE, g1']
    rw [← he]
    exact ⟨⟨_, _, rfl⟩, h3⟩
  · rw [if_neg (by omega)] at he
    have c1 : i2 < S.n := by omega
    have c2 : j2 < S.n := by omega
    obtain ⟨n1, n2, t1, t2, h5⟩ := h3.sw c1 c2
    simp only [go_sem, Int.reduceBEq, Int.reduceBNe, Int.reduceNeg, reduceCtorEq, Nat.reduceEqDiff, Nat.reduceAdd, Nat.reduceLeDiff, Nat.reduceMul, Nat.reduceSub, Int.reduceToNat, Int.reduceLT, Int.reduceLE, g1', S.ix c1, S.ix c2, h3.ld c1, h3.ld c2, t1, t2, nadd1 (show i2 < 4000000 by omega), nsub1 (show 0 < j2 by omega) (show j2 < 4000000 by omega)]
    exact ⟨j2 - 1 + 1 - (i2 + 1), by omega, i2 + 1, j2 - 1, _, rfl, by omega, by omega, by omega, rfl, h5, he⟩

theorem so_parte {a b p : Nat} (h : S.Row m d) (hb : b ≤ S.n) (hp : a ≤ p) (hp2 : p < b) : WC R F.slices_partitionEqualCmpFunc_local_entry [S.sv, .int .i64 a, .int .i64 b, .int .i64 p, S.cv] m fun r m' =>
    r = .int .i64 (partitionEqual S.lt d a b p).1 ∧ S.Row m' (partitionEqual S.lt d a b p).2 := by
  refine WC.of R.slices_partitionEqualCmpFunc_local_entry rfl ?_
  have hn := S.small
  have ca : a < S.n := by omega
  have cp : p < S.n := by omega
  obtain ⟨n1, n2, t1, t2, h1⟩ := h.sw ca cp
  simp only [RC.slices_partitionEqualCmpFunc_local_entry, go_sem, Int.reduceBEq, Int.reduceBNe, Int.reduceNeg, reduceCtorEq, Nat.reduceEqDiff, Nat.reduceAdd, Nat.reduceLeDiff, Nat.reduceMul, Nat.reduceSub, Int.reduceToNat, Int.reduceLT, Int.reduceLE, S.ix ca, S.ix cp, h.ld ca, h.ld cp, t1, t2, nadd1 (show a < 4000000 by omega), nsub1 (show 0 < b by omega) (show b < 4000000 by omega)]
  refine WL.mono (so_pe3 h1 ca (show b - 1 < S.n by omega) (by omega) (by omega)) ?_
  rintro _ _ m2 ⟨rfl, ⟨q, bb, rfl⟩, h2⟩
  simp only [go_sem, Int.reduceBEq, Int.reduceBNe, Int.reduceNeg, reduceCtorEq, Nat.reduceEqDiff, Nat.reduceAdd, Nat.reduceLeDiff, Nat.reduceMul, Nat.reduceSub, Int.reduceToNat, Int.reduceLT, Int.reduceLE]
  exact ⟨rfl, h2⟩
end Go.Am
