/- Parts of the proofs of the statements of this seat: AmTieShed, AmBlk, AmSl2, AmSl3, SpansD, ShedP, ShedP2, ShedP3, ShedOrderUnits, ShedOrderD, AmCut, AmOwnQ, ShedOrderW, AmMap, ShedOrderW2, MaskPop, MaskBit, ShedW1, ShedW2, SortA, Sort1Shed, SortB. No conditions. -/
import Derived.Test.YthhadbmbpefagaaRows
import Derived.Test.YthhadbmbpefagaaShedChoosesPart3
import Derived.Test.YthhadbmbpefagaaShedChoosesPart4
import Derived.Sort.AssemblyPlain
import Derived.Sort.Walk13a
set_option linter.unusedVariables false
set_option linter.unusedSimpArgs false

/- The table of the layer shed is as the program has it. Printed by lawgen.py. -/
namespace Go.Am
open Go.Proofs
set_option maxRecDepth 100000

/-- Nothing is asked of the world. -/
def G : Nat → World → Prop := fun _ _ => True
instance : Keeps G := ⟨fun _ _ _ _ h => h⟩
instance : Rises G := ⟨fun _ _ _ _ h => h⟩
theorem hmix : Try.prog.follows .mixedOrders = true := by kernel_rfl
theorem E.law41_ShedChooses : EntOk Try.prog G F.law41_ShedChooses (.rc RC.law41_ShedChooses) := ⟨Try.f3, by unfold F.law41_ShedChooses; exact Try.func3, by kernel_rfl, by kernel_rfl⟩
theorem E.law41_ShedLeast : EntOk Try.prog G F.law41_ShedLeast (.rc RC.law41_ShedLeast) := ⟨Try.f4, by unfold F.law41_ShedLeast; exact Try.func4, by kernel_rfl, by kernel_rfl⟩
theorem E.law41_ShedCores : EntOk Try.prog G F.law41_ShedCores (.rc RC.law41_ShedCores) := ⟨Try.f5, by unfold F.law41_ShedCores; exact Try.func5, by kernel_rfl, by kernel_rfl⟩
theorem E.law41_awake : EntOk Try.prog G F.law41_awake (.rc RC.law41_awake) := ⟨Try.f6, by unfold F.law41_awake; exact Try.func6, by kernel_rfl, by kernel_rfl⟩
theorem E.shed_Choose : EntOk Try.prog G F.shed_Choose (.rc RC.shed_Choose) := ⟨Try.f7, by unfold F.shed_Choose; exact Try.func7, by kernel_rfl, by kernel_rfl⟩
theorem E.shed_Cost : EntOk Try.prog G F.shed_Cost (.rc RC.shed_Cost) := ⟨Try.f8, by unfold F.shed_Cost; exact Try.func8, by kernel_rfl, by kernel_rfl⟩
theorem E.ref41_Why : EntOk Try.prog G F.ref41_Why (.rc RC.ref41_Why) := ⟨Try.f9, by unfold F.ref41_Why; exact Try.func9, by kernel_rfl, by kernel_rfl⟩
theorem E.shed_Check : EntOk Try.prog G F.shed_Check (.rc RC.shed_Check) := ⟨Try.f10, by unfold F.shed_Check; exact Try.func10, by kernel_rfl, by kernel_rfl⟩
theorem E.ref41_Sum : EntOk Try.prog G F.ref41_Sum (.rc RC.ref41_Sum) := ⟨Try.f11, by unfold F.ref41_Sum; exact Try.func11, by kernel_rfl, by kernel_rfl⟩
theorem E.ref41_Choose : EntOk Try.prog G F.ref41_Choose (.rc RC.ref41_Choose) := ⟨Try.f12, by unfold F.ref41_Choose; exact Try.func12, by kernel_rfl, by kernel_rfl⟩
theorem E.ref03_Same : EntOk Try.prog G F.ref03_Same (.rc RC.ref03_Same) := ⟨Try.f13, by unfold F.ref03_Same; exact Try.func13, by kernel_rfl, by kernel_rfl⟩
theorem E.ref41_Units : EntOk Try.prog G F.ref41_Units (.rc RC.ref41_Units) := ⟨Try.f14, by unfold F.ref41_Units; exact Try.func14, by kernel_rfl, by kernel_rfl⟩
theorem E.law41_chosen : EntOk Try.prog G F.law41_chosen (.rc RC.law41_chosen) := ⟨Try.f15, by unfold F.law41_chosen; exact Try.func15, by kernel_rfl, by kernel_rfl⟩
theorem E.shed_Core : EntOk Try.prog G F.shed_Core (.rc RC.shed_Core) := ⟨Try.f16, by unfold F.shed_Core; exact Try.func16, by kernel_rfl, by kernel_rfl⟩
theorem E.shed_choose : EntOk Try.prog G F.shed_choose (.rc RC.shed_choose) := ⟨Try.f17, by unfold F.shed_choose; exact Try.func17, by kernel_rfl, by kernel_rfl⟩
theorem E.ref08_Check : EntOk Try.prog G F.ref08_Check (.rc RC.ref08_Check) := ⟨Try.f18, by unfold F.ref08_Check; exact Try.func18, by kernel_rfl, by kernel_rfl⟩
theorem E.order_Check : EntOk Try.prog G F.order_Check (.rc RC.order_Check) := ⟨Try.f19, by unfold F.order_Check; exact Try.func19, by kernel_rfl, by kernel_rfl⟩
theorem E.ref41_best : EntOk Try.prog G F.ref41_best (.rc RC.ref41_best) := ⟨Try.f20, by unfold F.ref41_best; exact Try.func20, by kernel_rfl, by kernel_rfl⟩
theorem E.ref41_has : EntOk Try.prog G F.ref41_has (.rc RC.ref41_has) := ⟨Try.f21, by unfold F.ref41_has; exact Try.func21, by kernel_rfl, by kernel_rfl⟩
theorem E.order_Total : EntOk Try.prog G F.order_Total (.rc RC.order_Total) := ⟨Try.f22, by unfold F.order_Total; exact Try.func22, by kernel_rfl, by kernel_rfl⟩
theorem E.slices_Clone_api_Want_api_Want : EntOk Try.prog G F.slices_Clone_api_Want_api_Want (.rc RC.slices_Clone_api_Want_api_Want) := ⟨Try.f23, by unfold F.slices_Clone_api_Want_api_Want; exact Try.func23, by kernel_rfl, by kernel_rfl⟩
theorem E.slices_SortFunc_api_Want_api_Want : EntOk Try.prog G F.slices_SortFunc_api_Want_api_Want (.rc RC.slices_SortFunc_api_Want_api_Want) := ⟨Try.f24, by unfold F.slices_SortFunc_api_Want_api_Want; exact Try.func24, by kernel_rfl, by kernel_rfl⟩
theorem E.shed_choose_1 : EntOk Try.prog G F.shed_choose_1 (.rc RC.shed_choose_1) := ⟨Try.f25, by unfold F.shed_choose_1; exact Try.func25, by kernel_rfl, by kernel_rfl⟩
theorem E.cmp_Compare_int : EntOk Try.prog G F.cmp_Compare_int (.rc RC.cmp_Compare_int) := ⟨Try.f26, by unfold F.cmp_Compare_int; exact Try.func26, by kernel_rfl, by kernel_rfl⟩
theorem E.shed_sums : EntOk Try.prog G F.shed_sums (.rc RC.shed_sums) := ⟨Try.f27, by unfold F.shed_sums; exact Try.func27, by kernel_rfl, by kernel_rfl⟩
theorem E.ref08_Is : EntOk Try.prog G F.ref08_Is (.rc RC.ref08_Is) := ⟨Try.f28, by unfold F.ref08_Is; exact Try.func28, by kernel_rfl, by kernel_rfl⟩
theorem E.order_Kind : EntOk Try.prog G F.order_Kind (.rc RC.order_Kind) := ⟨Try.f29, by unfold F.order_Kind; exact Try.func29, by kernel_rfl, by kernel_rfl⟩
theorem E.ref41_Better : EntOk Try.prog G F.ref41_Better (.rc RC.ref41_Better) := ⟨Try.f30, by unfold F.ref41_Better; exact Try.func30, by kernel_rfl, by kernel_rfl⟩
theorem E.fixq_Add : EntOk Try.prog G F.fixq_Add (.rc RC.fixq_Add) := ⟨Try.f31, by unfold F.fixq_Add; exact Try.func31, by kernel_rfl, by kernel_rfl⟩
theorem E.slices_pdqsortCmpFunc_api_Want : EntOk Try.prog G F.slices_pdqsortCmpFunc_api_Want (.rc RC.slices_pdqsortCmpFunc_api_Want) := ⟨Try.f32, by unfold F.slices_pdqsortCmpFunc_api_Want; exact Try.func32, by kernel_rfl, by kernel_rfl⟩
theorem E.math_bits_Len : EntOk Try.prog G F.math_bits_Len (.rc RC.math_bits_Len) := ⟨Try.f33, by unfold F.math_bits_Len; exact Try.func33, by kernel_rfl, by kernel_rfl⟩
theorem E.cmp_isNaN_int : EntOk Try.prog G F.cmp_isNaN_int (.rc RC.cmp_isNaN_int) := ⟨Try.f34, by unfold F.cmp_isNaN_int; exact Try.func34, by kernel_rfl, by kernel_rfl⟩
theorem E.shed_choice_better : EntOk Try.prog G F.shed_choice_better (.rc RC.shed_choice_better) := ⟨Try.f35, by unfold F.shed_choice_better; exact Try.func35, by kernel_rfl, by kernel_rfl⟩
theorem E.slices_insertionSortCmpFunc_api_Want : EntOk Try.prog G F.slices_insertionSortCmpFunc_api_Want (.rc RC.slices_insertionSortCmpFunc_api_Want) := ⟨Try.f36, by unfold F.slices_insertionSortCmpFunc_api_Want; exact Try.func36, by kernel_rfl, by kernel_rfl⟩
theorem E.slices_heapSortCmpFunc_api_Want : EntOk Try.prog G F.slices_heapSortCmpFunc_api_Want (.rc RC.slices_heapSortCmpFunc_api_Want) := ⟨Try.f37, by unfold F.slices_heapSortCmpFunc_api_Want; exact Try.func37, by kernel_rfl, by kernel_rfl⟩
theorem E.slices_breakPatternsCmpFunc_api_Want : EntOk Try.prog G F.slices_breakPatternsCmpFunc_api_Want (.rc RC.slices_breakPatternsCmpFunc_api_Want) := ⟨Try.f38, by unfold F.slices_breakPatternsCmpFunc_api_Want; exact Try.func38, by kernel_rfl, by kernel_rfl⟩
theorem E.slices_choosePivotCmpFunc_api_Want : EntOk Try.prog G F.slices_choosePivotCmpFunc_api_Want (.rc RC.slices_choosePivotCmpFunc_api_Want) := ⟨Try.f39, by unfold F.slices_choosePivotCmpFunc_api_Want; exact Try.func39, by kernel_rfl, by kernel_rfl⟩
theorem E.slices_reverseRangeCmpFunc_api_Want : EntOk Try.prog G F.slices_reverseRangeCmpFunc_api_Want (.rc RC.slices_reverseRangeCmpFunc_api_Want) := ⟨Try.f40, by unfold F.slices_reverseRangeCmpFunc_api_Want; exact Try.func40, by kernel_rfl, by kernel_rfl⟩
theorem E.slices_partialInsertionSortCmpFunc_api_Want : EntOk Try.prog G F.slices_partialInsertionSortCmpFunc_api_Want (.rc RC.slices_partialInsertionSortCmpFunc_api_Want) := ⟨Try.f41, by unfold F.slices_partialInsertionSortCmpFunc_api_Want; exact Try.func41, by kernel_rfl, by kernel_rfl⟩
theorem E.slices_partitionEqualCmpFunc_api_Want : EntOk Try.prog G F.slices_partitionEqualCmpFunc_api_Want (.rc RC.slices_partitionEqualCmpFunc_api_Want) := ⟨Try.f42, by unfold F.slices_partitionEqualCmpFunc_api_Want; exact Try.func42, by kernel_rfl, by kernel_rfl⟩
theorem E.slices_partitionCmpFunc_api_Want : EntOk Try.prog G F.slices_partitionCmpFunc_api_Want (.rc RC.slices_partitionCmpFunc_api_Want) := ⟨Try.f43, by unfold F.slices_partitionCmpFunc_api_Want; exact Try.func43, by kernel_rfl, by kernel_rfl⟩
theorem E.math_bits_Len32 : EntOk Try.prog G F.math_bits_Len32 (.rc RC.math_bits_Len32) := ⟨Try.f44, by unfold F.math_bits_Len32; exact Try.func44, by kernel_rfl, by kernel_rfl⟩
theorem E.math_bits_Len64 : EntOk Try.prog G F.math_bits_Len64 (.rc RC.math_bits_Len64) := ⟨Try.f45, by unfold F.math_bits_Len64; exact Try.func45, by kernel_rfl, by kernel_rfl⟩
theorem E.cmp_Or_int : EntOk Try.prog G F.cmp_Or_int (.rc RC.cmp_Or_int) := ⟨Try.f46, by unfold F.cmp_Or_int; exact Try.func46, by kernel_rfl, by kernel_rfl⟩
theorem E.cmp_Compare_uint64 : EntOk Try.prog G F.cmp_Compare_uint64 (.rc RC.cmp_Compare_uint64) := ⟨Try.f47, by unfold F.cmp_Compare_uint64; exact Try.func47, by kernel_rfl, by kernel_rfl⟩
theorem E.slices_siftDownCmpFunc_api_Want : EntOk Try.prog G F.slices_siftDownCmpFunc_api_Want (.rc RC.slices_siftDownCmpFunc_api_Want) := ⟨Try.f48, by unfold F.slices_siftDownCmpFunc_api_Want; exact Try.func48, by kernel_rfl, by kernel_rfl⟩
theorem E.slices_nextPowerOfTwo : EntOk Try.prog G F.slices_nextPowerOfTwo (.rc RC.slices_nextPowerOfTwo) := ⟨Try.f49, by unfold F.slices_nextPowerOfTwo; exact Try.func49, by kernel_rfl, by kernel_rfl⟩
theorem E.slices_xorshift_Next : EntOk Try.prog G F.slices_xorshift_Next (.rc RC.slices_xorshift_Next) := ⟨Try.f50, by unfold F.slices_xorshift_Next; exact Try.func50, by kernel_rfl, by kernel_rfl⟩
theorem E.slices_medianAdjacentCmpFunc_api_Want : EntOk Try.prog G F.slices_medianAdjacentCmpFunc_api_Want (.rc RC.slices_medianAdjacentCmpFunc_api_Want) := ⟨Try.f51, by unfold F.slices_medianAdjacentCmpFunc_api_Want; exact Try.func51, by kernel_rfl, by kernel_rfl⟩
theorem E.slices_medianCmpFunc_api_Want : EntOk Try.prog G F.slices_medianCmpFunc_api_Want (.rc RC.slices_medianCmpFunc_api_Want) := ⟨Try.f52, by unfold F.slices_medianCmpFunc_api_Want; exact Try.func52, by kernel_rfl, by kernel_rfl⟩
theorem E.cmp_isNaN_uint64 : EntOk Try.prog G F.cmp_isNaN_uint64 (.rc RC.cmp_isNaN_uint64) := ⟨Try.f53, by unfold F.cmp_isNaN_uint64; exact Try.func53, by kernel_rfl, by kernel_rfl⟩
theorem E.slices_order2CmpFunc_api_Want : EntOk Try.prog G F.slices_order2CmpFunc_api_Want (.rc RC.slices_order2CmpFunc_api_Want) := ⟨Try.f54, by unfold F.slices_order2CmpFunc_api_Want; exact Try.func54, by kernel_rfl, by kernel_rfl⟩
theorem ents : EntsOk Try.prog G tab0 := ⟨E.law41_ShedChooses, E.law41_ShedLeast, E.law41_ShedCores, E.law41_awake, E.shed_Choose, E.shed_Cost, E.ref41_Why, E.shed_Check, E.ref41_Sum, E.ref41_Choose, E.ref03_Same, E.ref41_Units, E.law41_chosen, E.shed_Core, E.shed_choose, E.ref08_Check, E.order_Check, E.ref41_best, E.ref41_has, E.order_Total, E.slices_Clone_api_Want_api_Want, E.slices_SortFunc_api_Want_api_Want, E.shed_choose_1, E.cmp_Compare_int, E.shed_sums, E.ref08_Is, E.order_Kind, E.ref41_Better, E.fixq_Add, E.slices_pdqsortCmpFunc_api_Want, E.math_bits_Len, E.cmp_isNaN_int, E.shed_choice_better, E.slices_insertionSortCmpFunc_api_Want, E.slices_heapSortCmpFunc_api_Want, E.slices_breakPatternsCmpFunc_api_Want, E.slices_choosePivotCmpFunc_api_Want, E.slices_reverseRangeCmpFunc_api_Want, E.slices_partialInsertionSortCmpFunc_api_Want, E.slices_partitionEqualCmpFunc_api_Want, E.slices_partitionCmpFunc_api_Want, E.math_bits_Len32, E.math_bits_Len64, E.cmp_Or_int, E.cmp_Compare_uint64, E.slices_siftDownCmpFunc_api_Want, E.slices_nextPowerOfTwo, E.slices_xorshift_Next, E.slices_medianAdjacentCmpFunc_api_Want, E.slices_medianCmpFunc_api_Want, E.cmp_isNaN_uint64, E.slices_order2CmpFunc_api_Want, trivial⟩
theorem tabOk0 : TabOk Try.prog G R0 := TabOk.of ents
theorem C.law41_awake : EntOk Try.prog G F.law41_awake (.ext X.ok) := X.ok_sim (const_sim hmix tabOk0 (n := 1000) (by kernel_rfl))
theorem tabOk : TabOk Try.prog G R := TabOk.of (l := tab) (⟨C.law41_awake, ents⟩)
end Go.Am


/- Blocks, by their numbers: loads and stores as what they do to a block's cells. -/
set_option linter.unusedVariables false
namespace Go.Am

def ldW : Option AObj → Nat → Option Value
  | some (.cells c _), o => c[o]?
  | _, _ => none
def ldA : Option AObj → Nat → Nat → Option Value
  | some (.cells c _), o, sz => if o + sz ≤ c.length then some (.agg ((c.drop o).take sz).toArray) else none
  | _, _, _ => none
def stB (m : Mem) (b : Nat) : Option AObj → Nat → List Value → Option Mem
  | some (.cells c (some u)), o, vs => if o + vs.length ≤ c.length ∧ oneCells vs = true then some (m.set b (some (.cells (writeL c o vs) (some u)))) else none
  | _, _, _ => none

theorem ldW_c {c : List Value} {own : Option Nat} {o : Nat} : ldW (some (.cells c own)) o = c[o]? := rfl
theorem ldA_c {c : List Value} {own : Option Nat} {o sz : Nat} : ldA (some (.cells c own)) o sz = if o + sz ≤ c.length then some (.agg ((c.drop o).take sz).toArray) else none := rfl
theorem stB_c {m : Mem} {b u o : Nat} {c vs : List Value} : stB m b (some (.cells c (some u))) o vs = if o + vs.length ≤ c.length ∧ oneCells vs = true then some (m.set b (some (.cells (writeL c o vs) (some u)))) else none := rfl

theorem load_w {m : Mem} {sz b o : Nat} : aLoad false sz m (.pointer (some ⟨b, o, none⟩)) = ldW (m.blk b) o := by
  simp only [aLoad, Bool.false_eq_true, if_false]
  unfold ldW
  split <;> simp_all
theorem load_a {m : Mem} {sz b o : Nat} : aLoad true sz m (.pointer (some ⟨b, o, none⟩)) = ldA (m.blk b) o sz := by
  simp only [aLoad, if_true]
  unfold ldA
  split <;> simp_all
theorem store_b {m : Mem} {sz b o : Nat} {v : Value} : aStore sz m (.pointer (some ⟨b, o, none⟩)) v = if v.cells.size = sz then stB m b (m.blk b) o v.cells.toList else none := by
  simp only [aStore]
  split
  · unfold aWrite stB
    split <;> simp_all
  · rfl
theorem idxS_b {u b o n c : Nat} {k : IntKind} {i : Int} : aIdxS u (.slice (some ⟨b, o, none⟩) n c) (.int k i) = if 0 ≤ i ∧ i < n then some (.pointer (some ⟨b, o + i.toNat * u, none⟩)) else none := rfl
theorem set_blk {m : Mem} {b k : Nat} {o : Option AObj} : (m.set b o).blk k = if k = b then o else m.blk k := rfl
theorem new_blk {m : Mem} {k : Nat} {o : AObj} : (m.new o).blk k = if k = m.next then some o else m.blk k := rfl
theorem set_next {m : Mem} {b : Nat} {o : Option AObj} : (m.set b o).next = m.next := rfl
theorem new_next {m : Mem} {o : AObj} : (m.new o).next = m.next + 1 := rfl
theorem len_s {a : Option Addr} {n c : Nat} : aLen (.slice a n c) = some (.int .i64 n) := rfl
theorem toArr_one {v : Value} : (#[v] : Array Value).toList = [v] := rfl
theorem size_one {v : Value} : (#[v] : Array Value).size = 1 := rfl
theorem toList_toArr {l : List Value} : l.toArray.toList = l := rfl
theorem size_toArr {l : List Value} : l.toArray.size = l.length := by simp

/-- What is at these blocks may have changed; all else is as it was. -/
structure Upd (m m' : Mem) (fp : List Nat) : Prop where
  next : m.next ≤ m'.next
  same : ∀ b, b < m.next → b ∉ fp → m'.blk b = m.blk b

theorem Upd.refl (m : Mem) (fp : List Nat) : Upd m m fp := ⟨Nat.le_refl _, fun _ _ _ => rfl⟩
theorem Upd.trans {a b c : Mem} {fp fq fr : List Nat} (h : Upd a b fp) (k : Upd b c fq) (h1 : ∀ x ∈ fp, x ∈ fr) (h2 : ∀ x ∈ fq, x ∈ fr ∨ a.next ≤ x) : Upd a c fr :=
  ⟨Nat.le_trans h.next k.next, fun x hx hn => by
    rw [k.same x (Nat.lt_of_lt_of_le hx h.next) (fun hm => by rcases h2 x hm with h3 | h3; exact hn h3; omega), h.same x hx (fun hm => hn (h1 x hm))]⟩
theorem Ext.upd {m m' : Mem} (h : Ext m m') {fp : List Nat} : Upd m m' fp := ⟨h.next, fun b hb _ => h.same b hb⟩
theorem Upd.ext {m m' : Mem} (h : Upd m m' []) : Ext m m' := ⟨h.next, fun b hb => h.same b hb (by simp)⟩
theorem Upd.set {m : Mem} {b : Nat} {o : Option AObj} {fp : List Nat} (h : b ∈ fp) : Upd m (m.set b o) fp :=
  ⟨Nat.le_refl _, fun x hx hn => by rw [set_blk, if_neg (fun e => hn (by rw [e]; exact h))]⟩
/-- Only blocks from some number on have changed. -/
theorem Upd.ext_of {m0 m m' : Mem} {fp : List Nat} (h0 : Ext m0 m) (h : Upd m m' fp) (hf : ∀ x ∈ fp, m0.next ≤ x) : Ext m0 m' :=
  ⟨Nat.le_trans h0.next h.next, fun b hb => by
    rw [h.same b (Nat.lt_of_lt_of_le hb h0.next) (fun hm => by have := hf b hm; omega), h0.same b hb]⟩
set_option linter.defProp false in
/-- All rules for blocks. -/
def ruB := And.intro @load_w (And.intro @load_a (And.intro @store_b (And.intro @idxS_b (And.intro @set_blk (And.intro @new_blk (And.intro @set_next (And.intro @new_next (And.intro @len_s (And.intro @ldW_c (And.intro @ldA_c (And.intro @stB_c (And.intro @toArr_one (And.intro @size_one (And.intro @toList_toArr (And.intro @size_toArr (And.intro @List.length_cons.{0} (And.intro @List.length_nil.{0} (And.intro @List.getElem?_cons_zero.{0} (And.intro @List.getElem?_cons_succ.{0} (And.intro @Nat.zero_add (@Nat.add_zero)))))))))))))))))))))
end Go.Am


/- More of slices that grow: whole slices put behind. -/
set_option linter.unusedVariables false
namespace Go.Am

theorem Sl.src {m : Mem} {u k : Nat} {xs : List Value} {x : Value} (h : Sl m u k xs x) : aSrc u k m x = some xs ∧ sliceLen x = some k := by
  cases h with
  | nil h hc => subst h; subst hc; exact ⟨rfl, rfl⟩
  | «at» hc h =>
    refine ⟨?_, rfl⟩
    simp only [aSrc]
    split
    · rename_i e; subst e
      have := aCells_len h
      rw [Nat.zero_mul] at this
      rw [List.eq_nil_of_length_eq_zero this]
    · rw [if_pos (Nat.le_refl _)]; exact h

/-- All of a slice behind one's own. -/
theorem Own.appAll {m0 m : Mem} {u n k by_ : Nat} {cs xs : List Value} {v x : Value} (h : Own m0 m u n cs v) (hx : Ext m0 m) (hs : Sl m u k xs x) (h1 : oneCells xs = true) (hby : (n + k) * by_ ≤ 2 ^ 47) (hn : n + k < 2 ^ 62) (hfull : ∀ a p q, v = .slice a p q → p = q) :
    ∃ v' m', aApp none u by_ m v x = some (v', m') ∧ Own m0 m' u (n + k) (cs ++ xs) v' ∧ Ext m0 m' := by
  obtain ⟨hsrc, hlen⟩ := hs.src
  have hxl := hs.length
  cases h with
  | nil h hc =>
    subst h; subst hc
    by_cases hk : k = 0
    · subst hk
      refine ⟨.slice none 0 0, m, by simp [aApp, hlen, hsrc], .nil rfl ?_, hx⟩
      rw [Nat.zero_mul] at hxl
      rw [List.eq_nil_of_length_eq_zero hxl]; rfl
    · refine ⟨.slice (some ⟨m.next, 0, none⟩) k k, m.new (.cells xs (some u)), ?_, ?_, hx.trans Ext.new⟩
      · simp only [aApp, hlen, Option.bind_some, hsrc, hk, if_false]
        rw [if_pos ⟨by simpa using hby, by simpa using hn, h1⟩]
        rfl
      · rw [Nat.zero_add, List.nil_append]
        exact .at (all := xs) hx.next (by simp [Mem.new]) (Nat.le_refl _) (by simp [Mem.new]) hxl (by rw [← hxl, List.take_length]) h1
  | @«at» b c all hb hb2 hnc hm hl hcs hone =>
    by_cases hk : k = 0
    · subst hk
      rw [Nat.zero_mul] at hxl
      have hxs := List.eq_nil_of_length_eq_zero hxl
      subst hxs
      refine ⟨.slice (some ⟨b, 0, none⟩) n c, m, ?_, by rw [List.append_nil]; exact .at hb hb2 hnc hm hl hcs hone, hx⟩
      simp only [aApp, hlen, Option.bind_some, hsrc, if_true]
      rw [if_pos ⟨hnc, by rw [hm]; rfl⟩]
    · by_cases hroom : n + k ≤ c
      · have hle : n * u + k * u ≤ c * u := by rw [← Nat.add_mul]; exact Nat.mul_le_mul_right _ hroom
        refine ⟨.slice (some ⟨b, 0, none⟩) (n + k) c, m.set b (some (.cells (writeL all (n * u) xs) (some u))), ?_, ?_, hx.set hb⟩
        · simp only [aApp, hlen, Option.bind_some, hsrc, hk, if_false, Nat.zero_add]
          rw [if_pos hroom]
          unfold aWrite
          rw [hm]
          simp only
          rw [if_pos ⟨by omega, h1⟩]; rfl
        · refine .at (all := writeL all (n * u) xs) hb (by simpa [Mem.set] using hb2) hroom (by simp [Mem.set]) ?_ ?_ (oneCells_append hone h1)
          · unfold writeL; simp; omega
          · unfold writeL
            rw [Nat.add_mul, List.append_assoc, List.take_append]
            have e : (all.take (n * u)).length = n * u := by simp; omega
            rw [e, List.take_of_length_le (by omega), show n * u + k * u - n * u = xs.length by omega, List.take_left, hcs]
      · have hcn : n = c := hfull _ _ _ rfl
        subst hcn
        have hall : all.take (n * u) = all := by rw [← hl, List.take_length]
        rw [hall] at hcs
        subst hcs
        refine ⟨.slice (some ⟨m.next, 0, none⟩) (n + k) (n + k), (m.set b none).new (.cells (all ++ xs) (some u)), ?_, ?_, (hx.set hb).trans Ext.new⟩
        · simp only [aApp, hlen, Option.bind_some, hsrc, hk, if_false, Nat.zero_add]
          rw [if_neg hroom, hm]
          simp only [List.drop_zero, hall]
          rw [if_pos ⟨hby, hn, h1, hone, Nat.le_refl _, by omega, .inr ⟨by first | rfl | trivial, .inr (by first | rfl | trivial)⟩⟩]
          simp only [Option.isSome_some, true_and, hl, if_true, place]
          rfl
        · refine .at (all := all ++ xs) (by have := hx.next; omega) (by simp [Mem.new, Mem.set]) (Nat.le_refl _) (by simp [Mem.new, Mem.set]) (by simp [hl, hxl, Nat.add_mul]) ?_ (oneCells_append hone h1)
          rw [Nat.add_mul, List.take_of_length_le (by simp; omega)]

/-- A slice, copied: what stands behind an empty one. -/
theorem app_copy {m : Mem} {u k by_ : Nat} {xs : List Value} {x : Value} (hs : Sl (m.new (.cells [] (some u))) u k xs x) (h1 : oneCells xs = true) (hby : k * by_ ≤ 2 ^ 47) (hn : k < 2 ^ 62) :
    ∃ v' m', aApp none u by_ (m.new (.cells [] (some u))) (.slice (some ⟨m.next, 0, none⟩) 0 0) x = some (v', m') ∧ Own m m' u k xs v' ∧ Ext m m' := by
  have ho : Own m (m.new (.cells [] (some u))) u 0 [] (.slice (some ⟨m.next, 0, none⟩) 0 0) :=
    .at (all := []) (Nat.le_refl _) (by simp [Mem.new]) (Nat.le_refl _) (by simp [Mem.new]) (by simp) (by simp) rfl
  have := ho.appAll (by_ := by_) Ext.new hs h1 (by simpa using hby) (by simpa using hn) (by intro a p q h; cases h; rfl)
  simpa using this

/-- The same, with where it stands. -/
theorem app_copy_at {m : Mem} {u k by_ : Nat} {xs : List Value} {x : Value} (hs : Sl (m.new (.cells [] (some u))) u k xs x) (h1 : oneCells xs = true) (hby : k * by_ ≤ 2 ^ 47) (hn : k < 2 ^ 62) (hk : k ≠ 0) :
    ∃ m', aApp none u by_ (m.new (.cells [] (some u))) (.slice (some ⟨m.next, 0, none⟩) 0 0) x = some (.slice (some ⟨m.next + 1, 0, none⟩) k k, m') ∧ m'.blk (m.next + 1) = some (.cells xs (some u)) ∧ m'.next = m.next + 2 ∧ Ext m m' := by
  obtain ⟨hsrc, hlen⟩ := hs.src
  refine ⟨((m.new (.cells [] (some u))).set m.next none).new (.cells xs (some u)), ?_, by simp [Mem.new, Mem.set], by simp [Mem.new, Mem.set], (Ext.new.set (Nat.le_refl _)).trans Ext.new⟩
  have hb : (m.new (.cells [] (some u))).blk m.next = some (.cells [] (some u)) := by simp [Mem.new]
  simp only [aApp, hlen, Option.bind_some, hsrc, hk, if_false, Nat.zero_add]
  rw [if_neg (by omega), hb]
  simp only [List.drop_nil, List.take_nil, Nat.zero_mul, List.length_nil, List.nil_append]
  rw [if_pos ⟨by simpa using hby, by simpa using hn, h1, by first | rfl | trivial, Nat.le_refl _, Nat.le_refl _, .inr ⟨by first | rfl | trivial, .inr (by first | rfl | trivial)⟩⟩]
  simp [place, Mem.new, Mem.set]
  rfl

/-- A slice whose block is none of some. -/
def SlOff (fp : List Nat) : Value → Prop
  | .slice (some a) _ _ => a.block ∉ fp
  | _ => True

theorem Sl.upd {m m' : Mem} {u n : Nat} {cs : List Value} {v : Value} {fp : List Nat} (h : Sl m u n cs v) (hb : SlLt m v) (ho : SlOff fp v) (hx : Upd m m' fp) : Sl m' u n cs v := by
  cases h with
  | nil h hc => exact .nil h hc
  | «at» hc h =>
    refine .at hc ?_
    unfold aCells at h ⊢
    rw [hx.same _ hb ho]; exact h

theorem SlLt.upd {m m' : Mem} {v : Value} {fp : List Nat} (h : SlLt m v) (hx : Upd m m' fp) : SlLt m' v := by
  unfold SlLt at *
  split <;> simp_all
  exact Nat.lt_of_lt_of_le h hx.next

theorem Own.lt {m0 m : Mem} {u n : Nat} {cs : List Value} {v : Value} (h : Own m0 m u n cs v) : SlLt m v := by
  cases h with
  | nil h hc => trivial
  | «at» hb hb2 hn hm hl hcs h1 => exact hb2
theorem Own.off {m0 m : Mem} {u n : Nat} {cs : List Value} {v : Value} {fp : List Nat} (h : Own m0 m u n cs v) (hf : ∀ x ∈ fp, x < m0.next) : SlOff fp v := by
  cases h with
  | nil h hc => trivial
  | «at» hb hb2 hn hm hl hcs h1 => intro hm; have := hf _ hm; simp only at this; omega

/-- One more behind one's own, where the new block's number is given. -/
theorem Own.appAt {m0 m : Mem} {u n by_ q : Nat} {cs xs : List Value} {v x : Value} (h : Own m0 m u n cs v) (hx : Ext m0 m) (hs : Sl m u 1 xs x) (h1 : oneCells xs = true) (hby : (n + 1) * by_ ≤ 2 ^ 47) (hn : n + 1 < 2 ^ 62) (hq : m0.next ≤ q) (hq2 : q < m.next) (ho : SlOff [q] v) :
    ∃ v' m', aApp (some q) u by_ m v x = some (v', m') ∧ Own m0 m' u (n + 1) (cs ++ xs) v' ∧ Ext m0 m' := by
  obtain ⟨hsrc, hlen⟩ := hs.src
  have hxl := hs.length
  cases h with
  | nil h hc =>
    subst h; subst hc
    refine ⟨.slice (some ⟨q, 0, none⟩) 1 1, m.set q (some (.cells xs (some u))), ?_, ?_, hx.set hq⟩
    · simp only [aApp, hlen, Option.bind_some, hsrc, Nat.one_ne_zero, if_false]
      rw [if_pos ⟨by simpa using hby, by simp, h1⟩]
      rfl
    · rw [Nat.zero_add, List.nil_append]
      exact .at (all := xs) hq (by simpa [Mem.set] using hq2) (Nat.le_refl _) (by simp [Mem.set]) hxl (by rw [← hxl, List.take_length]) h1
  | @«at» b c all hb hb2 hnc hm hl hcs hone =>
    have hbq : b ≠ q := by intro e; subst e; simp [SlOff] at ho
    by_cases hroom : n + 1 ≤ c
    · have hle : n * u + 1 * u ≤ c * u := by rw [← Nat.add_mul]; exact Nat.mul_le_mul_right _ hroom
      refine ⟨.slice (some ⟨b, 0, none⟩) (n + 1) c, m.set b (some (.cells (writeL all (n * u) xs) (some u))), ?_, ?_, hx.set hb⟩
      · simp only [aApp, hlen, Option.bind_some, hsrc, Nat.one_ne_zero, if_false, Nat.zero_add]
        rw [if_pos hroom]
        unfold aWrite
        rw [hm]
        simp only
        rw [if_pos ⟨by omega, h1⟩]; rfl
      · refine .at (all := writeL all (n * u) xs) hb (by simpa [Mem.set] using hb2) hroom (by simp [Mem.set]) ?_ ?_ (oneCells_append hone h1)
        · unfold writeL; simp; omega
        · unfold writeL
          rw [Nat.add_mul, List.append_assoc, List.take_append]
          have e : (all.take (n * u)).length = n * u := by simp; omega
          rw [e, List.take_of_length_le (by omega), show n * u + 1 * u - n * u = xs.length by omega, List.take_left, hcs]
    · have hcn : n = c := by omega
      subst hcn
      have hall : all.take (n * u) = all := by rw [← hl, List.take_length]
      rw [hall] at hcs
      subst hcs
      refine ⟨.slice (some ⟨q, 0, none⟩) (n + 1) (n + 1), (m.set b none).set q (some (.cells (all ++ xs) (some u))), ?_, ?_, (hx.set hb).set hq⟩
      · simp only [aApp, hlen, Option.bind_some, hsrc, Nat.one_ne_zero, if_false, Nat.zero_add]
        rw [if_neg hroom, hm]
        simp only [List.drop_zero, hall]
        rw [if_pos ⟨hby, hn, h1, hone, Nat.le_refl _, by omega, .inr ⟨by first | rfl | trivial, .inr (by first | rfl | trivial)⟩⟩]
        simp only [Option.isSome_some, true_and, hl, if_true, place]
      · refine .at (all := all ++ xs) hq (by simpa [Mem.set] using hq2) (Nat.le_refl _) (by simp [Mem.set]) (by simp [hl, hxl, Nat.add_mul]) ?_ (oneCells_append hone h1)
        rw [Nat.add_mul, List.take_of_length_le (by simp; omega)]

/-- What a loop leaves may be told ahead, and used later. -/
theorem WL.mono {R : Nat → Option FEnt} {ks : List Nat} {c : RCode} {e : Env} {m : Mem} {Q Q' : Ex → Env → Mem → Prop} (h : WL R ks c e m Q) (hq : ∀ x e m, Q x e m → Q' x e m) : WL R ks c e m Q' := by
  intro Z hZ
  refine h Z fun e m hz => hZ e m (wp.mono (fun x e' m' hx => ?_) hz)
  exact onNormal.mono (fun _ _ _ h => hq _ _ _ h) (fun e m h => h) hx

theorem watchOk_nil {e : Env} {m m' : Mem} : watchOk e m m' [] = True := (rfl)
theorem watchOk_cons {e : Env} {m m' : Mem} {x : Nat} {r : List Nat} : watchOk e m m' (x :: r) = ((match Env.get e x with | some v => (match blkOf v with | some b => m'.blk b = m.blk b | none => True) | none => False) ∧ watchOk e m m' r) := (rfl)
theorem blkOf_ptr {b o : Nat} : blkOf (.pointer (some ⟨b, o, none⟩)) = some b := (rfl)
theorem blkOf_undef : blkOf undef = none := (rfl)
theorem blkOf_int {k : IntKind} {a : Int} : blkOf (.int k a) = none := (rfl)
attribute [go_sem] watchOk_nil watchOk_cons blkOf_ptr blkOf_undef blkOf_int
theorem load_bump {w : Bool} {u n : Nat} {m : Mem} {p : Value} : aLoad w u (m.bump n) p = aLoad w u m p := (rfl)
theorem blk_bump {n : Nat} {m : Mem} : (m.bump n).blk = m.blk := (rfl)
attribute [go_sem] load_bump blk_bump
theorem Ext.bump {m : Mem} {n : Nat} : Ext m (m.bump n) := ⟨by simp, fun b hb => rfl⟩

/-! ### parts of slices, copies -/

theorem unitOk_own {m : Mem} {b u : Nat} {cs : List Value} (h : m.blk b = some (.cells cs (some u))) : unitOk u m b = true := by unfold unitOk; rw [h]; simp

theorem sub_from {m : Mem} {b o n c u : Nat} {k : IntKind} {i : Nat} (hu : unitOk u m b = true) (h : i ≤ n) (hc : n ≤ c) :
    aSub u m (.slice (some ⟨b, o, none⟩) n c) (some (.int k i)) none none = some (.slice (some ⟨b, o + i * u, none⟩) (n - i) (c - i)) := by
  simp only [aSub, hu, if_true, aBounds, aBound]
  simp [h, cutAt, hc, Int.toNat_natCast]

theorem sub_to {m : Mem} {b o n c u : Nat} {k : IntKind} {i : Nat} (hu : unitOk u m b = true) (h : i ≤ c) :
    aSub u m (.slice (some ⟨b, o, none⟩) n c) none (some (.int k i)) none = some (.slice (some ⟨b, o, none⟩) i c) := by
  simp only [aSub, hu, if_true, aBounds, aBound]
  simp [h, cutAt, Int.toNat_natCast]

theorem make_eq {m : Mem} {u by_ n : Nat} {z : List Value} {k k' : IntKind} (h1 : n < 2 ^ 62) (h2 : n * by_ ≤ 2 ^ 47) (h3 : z.length = u) (h4 : oneCells z = true) :
    aMake none u by_ z m (.int k n) (.int k' n) = some (.slice (some ⟨m.next, 0, none⟩) n n, m.new (.cells (zeros z n) (some u))) := by
  simp only [aMake, place]
  rw [if_pos ⟨by omega, by omega, by omega, by omega, h3, h4⟩, Int.toNat_natCast]

/-! ### elements of more than one cell -/

theorem flat_len {α : Type} {f : α → List Value} {u : Nat} (hf : ∀ a, (f a).length = u) : ∀ {l : List α}, (l.flatMap f).length = l.length * u
  | [] => by simp
  | a :: l => by rw [List.flatMap_cons, List.length_append, hf, flat_len hf, List.length_cons, Nat.succ_mul]; omega

theorem flat_drop {α : Type} {f : α → List Value} {u : Nat} (hf : ∀ a, (f a).length = u) : ∀ {l : List α} {i : Nat} (h : i < l.length), ((l.flatMap f).drop (i * u)).take u = f l[i]
  | a :: l, 0, _ => by rw [Nat.zero_mul, List.drop_zero, List.flatMap_cons, ← hf a, List.take_left]; rfl
  | a :: l, i + 1, h => by
    rw [List.flatMap_cons, show (i + 1) * u = (f a).length + i * u by rw [hf, Nat.succ_mul]; omega, ← List.drop_drop, List.drop_left, flat_drop hf (by simpa using h)]; rfl

/-- What is read of the i-th element. -/
theorem Sl.elem {α : Type} {f : α → List Value} {m : Mem} {u : Nat} {l : List α} {v : Value} (h : Sl m u l.length (l.flatMap f) v) (hf : ∀ a, (f a).length = u) {k : IntKind} {i : Nat} (hi : i < l.length) :
    ∃ b o, aIdxS u v (.int k i) = some (.pointer (some ⟨b, o, none⟩)) ∧ aLoad true u m (.pointer (some ⟨b, o, none⟩)) = some (.agg (f l[i]).toArray) ∧
      (∀ j, j < u → aLoad false 1 m (.pointer (some ⟨b, o + j, none⟩)) = (f l[i])[j]?) ∧ (SlLt m v → b < m.next) := by
  have hb : ∃ b o, aIdxS u v (.int k i) = some (.pointer (some ⟨b, o, none⟩)) ∧ (SlLt m v → b < m.next) := by
    cases h with
    | nil h hc => omega
    | @«at» b o c hc h =>
      refine ⟨b, o + i * u, ?_, fun h => h⟩
      simp only [aIdxS]; rw [if_pos (by omega), Int.toNat_natCast]
  obtain ⟨b, o, h1, h4⟩ := hb
  obtain ⟨b', o', h1', h2, h3⟩ := h.cell (k := k) hi
  rw [h1] at h1'
  cases h1'
  refine ⟨b, o, h1, by rw [h3, flat_drop hf hi], fun j hj => ?_, h4⟩
  rw [h2 j hj, ← flat_drop hf hi, List.getElem?_take, List.getElem?_drop, if_pos hj]

/-- A block that is there. -/
structure Bk (m : Mem) (b : Nat) (cs : List Value) (u : Nat) : Prop where
  at_ : m.blk b = some (.cells cs (some u))
  lt : b < m.next
theorem Bk.new {m : Mem} {cs : List Value} {u : Nat} : Bk (m.new (.cells cs (some u))) m.next cs u := ⟨by simp [Mem.new], by simp [Mem.new]⟩
theorem Bk.ne {m : Mem} {b u : Nat} {cs : List Value} (h : Bk m b cs u) : (b = m.next) = False := eq_false (Nat.ne_of_lt h.lt)
theorem Bk.keep {m m' : Mem} {b u : Nat} {cs : List Value} (h : Bk m b cs u) (hx : Ext m m') : Bk m' b cs u := ⟨by rw [hx.same _ h.lt]; exact h.at_, Nat.lt_of_lt_of_le h.lt hx.next⟩
theorem Bk.upd {m m' : Mem} {b u : Nat} {cs : List Value} {fp : List Nat} (h : Bk m b cs u) (hx : Upd m m' fp) (hn : b ∉ fp) : Bk m' b cs u := ⟨by rw [hx.same _ h.lt hn]; exact h.at_, Nat.lt_of_lt_of_le h.lt hx.next⟩
end Go.Am


/- What putting behind a slice touches: its own block alone. -/
set_option linter.unusedVariables false
namespace Go.Am

/-- The block of a slice. -/
def vb : Value → List Nat
  | .slice (some a) _ _ => [a.block]
  | _ => []

theorem SlOff.vb_iff {v : Value} {fp : List Nat} : SlOff fp v ↔ ∀ b ∈ vb v, b ∉ fp := by
  unfold SlOff vb
  split <;> simp
theorem SlLt.vb_iff {m : Mem} {v : Value} : SlLt m v ↔ ∀ b ∈ vb v, b < m.next := by
  unfold SlLt vb
  split <;> simp

theorem aWrite_upd {m m' : Mem} {b o : Nat} {xs : List Value} (h : aWrite m b o xs = some m') : Upd m m' [b] ∧ m'.next = m.next := by
  unfold aWrite at h
  split at h
  · split at h
    · cases h; exact ⟨Upd.set (by simp), rfl⟩
    · cases h
  · cases h

/-- A function value is called. -/
def gV (R : Nat → Option FEnt) (fv : Value) (vs : List Value) (m : Mem) (Q : Value → Mem → Prop) (_ : Ph Q := ph) : Prop := ∃ f a b, fv = .func (.func f) a b ∧ WC R f (a.toList ++ vs ++ b.toList) m Q
theorem a_callv {R : Nat → Option FEnt} {at_ : Option Nat} {e : Env} {m : Mem} {Q : Value → Mem → Prop} {x : X} {xs : List X} : gpA R at_ e m (.callv x xs) Q = Got (x.ev e) fun fv => Got (evs e xs) fun vs => gV R fv vs m Q := by
  refine propext ⟨?_, ?_⟩
  · rintro ⟨f, a, b, vs, h1, h2, h3⟩; exact ⟨_, h1, _, h2, f, a, b, rfl, h3⟩
  · rintro ⟨_, h1, vs, h2, f, a, b, rfl, h3⟩; exact ⟨f, a, b, vs, h1, h2, h3⟩
theorem gV_func {R : Nat → Option FEnt} {m : Mem} {Q : Value → Mem → Prop} {f : Nat} {vs : List Value} : gV R (.func (.func f) #[] #[]) vs m Q = gC R f vs m Q := by
  refine propext ⟨?_, fun h => ⟨f, #[], #[], rfl, by have h : WC R f vs m Q := h; simpa using h⟩⟩
  rintro ⟨_, _, _, h, k⟩
  cases h
  show WC R f vs m Q
  simpa using k
attribute [go_sem] a_callv gV_func

theorem gV.of {R : Nat → Option FEnt} {fv : Value} {vs : List Value} {m : Mem} {Q Q' : Value → Mem → Prop} (h : gV R fv vs m Q') (k : ∀ v m', Q' v m' → Q v m') : gV R fv vs m Q := by
  obtain ⟨f, a, b, rfl, h2⟩ := h
  exact ⟨f, a, b, rfl, h2.mono k⟩
theorem Own.updq {m0 m m' : Mem} {u n : Nat} {cs : List Value} {v : Value} {fp : List Nat} (h : Own m0 m u n cs v) (hx : Upd m m' fp) (ho : ∀ b ∈ vb v, b ∉ fp) : Own m0 m' u n cs v := by
  cases h with
  | nil h hc => exact .nil h hc
  | @«at» b c all hb hb2 hn hm hl hcs h1 => exact .at hb (Nat.lt_of_lt_of_le hb2 hx.next) hn (by rw [hx.same b hb2 (ho b (by simp [vb]))]; exact hm) hl hcs h1
end Go.Am


/- Rows of spans, with no program in sight: what is in one; that a right row is told by what is in it; how many numbers there are. -/
set_option linter.unusedVariables false
set_option linter.unusedSimpArgs false
namespace Go.Am

abbrev Sp := Int × Int
instance : Inhabited Sp := ⟨(0, 0)⟩
def spV (s : Sp) : List Value := [.int .i64 s.1, .int .i64 s.2]
theorem spV_len (s : Sp) : (spV s).length = 2 := rfl
theorem spV_one (s : Sp) : oneCells (spV s) = true := rfl
theorem spV_flat (l : List Sp) : oneCells (l.flatMap spV) = true := by
  unfold oneCells
  rw [List.all_eq_true]
  intro x hx
  obtain ⟨y, _, hy⟩ := List.mem_flatMap.1 hx
  have := spV_one y
  unfold oneCells at this
  exact List.all_eq_true.1 this x hy

def InS (l : List Sp) (x : Int) : Prop := ∃ s ∈ l, s.1 ≤ x ∧ x < s.2
def hasS (l : List Sp) (x : Int) : Bool := l.any fun s => decide (s.1 ≤ x) && decide (x < s.2)
theorem hasS_iff {l : List Sp} {x : Int} : hasS l x = true ↔ InS l x := by
  simp only [hasS, InS, List.any_eq_true, Bool.and_eq_true, decide_eq_true_eq]
theorem InS.nil {x : Int} : ¬ InS [] x := by rintro ⟨s, h, _⟩; simp at h
theorem InS.cons {s : Sp} {l : List Sp} {x : Int} : InS (s :: l) x ↔ (s.1 ≤ x ∧ x < s.2) ∨ InS l x := by
  unfold InS; simp
theorem InS.append {a b : List Sp} {x : Int} : InS (a ++ b) x ↔ InS a x ∨ InS b x := by
  unfold InS
  constructor
  · rintro ⟨s, h, h1⟩
    rcases List.mem_append.1 h with h | h
    · exact .inl ⟨s, h, h1⟩
    · exact .inr ⟨s, h, h1⟩
  · rintro (⟨s, h, h1⟩ | ⟨s, h, h1⟩)
    · exact ⟨s, List.mem_append.2 (.inl h), h1⟩
    · exact ⟨s, List.mem_append.2 (.inr h), h1⟩
theorem InS.single {s : Sp} {x : Int} : InS [s] x ↔ s.1 ≤ x ∧ x < s.2 := by
  unfold InS; simp
theorem InS.snoc {a : List Sp} {s : Sp} {x : Int} : InS (a ++ [s]) x ↔ InS a x ∨ (s.1 ≤ x ∧ x < s.2) := by
  rw [InS.append, InS.single]

/-- A row that is right: none is empty, and there is a number between any two. -/
def Rt (l : List Sp) : Prop := (∀ s ∈ l, s.1 < s.2) ∧ l.Pairwise fun s t => s.2 < t.1
theorem Rt.nil : Rt [] := ⟨by simp, .nil⟩
theorem Rt.cons {s : Sp} {l : List Sp} : Rt (s :: l) ↔ s.1 < s.2 ∧ (∀ t ∈ l, s.2 < t.1) ∧ Rt l := by
  unfold Rt
  rw [List.pairwise_cons]
  constructor
  · rintro ⟨h1, h2, h3⟩
    exact ⟨h1 s (by simp), h2, fun t ht => h1 t (by simp [ht]), h3⟩
  · rintro ⟨h1, h2, h3, h4⟩
    refine ⟨fun t ht => ?_, h2, h4⟩
    rcases List.mem_cons.1 ht with rfl | h
    · exact h1
    · exact h3 t h
theorem Rt.snoc {s : Sp} {l : List Sp} : Rt (l ++ [s]) ↔ Rt l ∧ s.1 < s.2 ∧ ∀ t ∈ l, t.2 < s.1 := by
  unfold Rt
  rw [List.pairwise_append]
  constructor
  · rintro ⟨h1, h2, -, h3⟩
    exact ⟨⟨fun t ht => h1 t (by simp [ht]), h2⟩, h1 s (by simp), fun t ht => h3 t ht s (by simp)⟩
  · rintro ⟨⟨h1, h2⟩, h3, h4⟩
    refine ⟨fun t ht => ?_, h2, List.pairwise_singleton _ _, fun t ht u hu => ?_⟩
    · rcases List.mem_append.1 ht with h | h
      · exact h1 t h
      · rw [List.mem_singleton.1 h]; exact h3
    · rw [List.mem_singleton.1 hu]; exact h4 t ht

/-- A right row is told by what is in it. -/
theorem Rt.eq : ∀ {a b : List Sp}, Rt a → Rt b → (∀ x, InS a x ↔ InS b x) → a = b
  | [], [], _, _, _ => rfl
  | [], t :: b, _, hb, h => by
    have := (h t.1).2 (InS.cons.2 (.inl ⟨Int.le_refl _, (Rt.cons.1 hb).1⟩))
    exact absurd this InS.nil
  | s :: a, [], ha, _, h => by
    have := (h s.1).1 (InS.cons.2 (.inl ⟨Int.le_refl _, (Rt.cons.1 ha).1⟩))
    exact absurd this InS.nil
  | s :: a, t :: b, ha, hb, h => by
    obtain ⟨a1, a2, a3⟩ := Rt.cons.1 ha
    obtain ⟨b1, b2, b3⟩ := Rt.cons.1 hb
    have ga : ∀ x, InS a x → s.2 < x := by rintro x ⟨u, hu, h1, _⟩; have := a2 u hu; omega
    have gb : ∀ x, InS b x → t.2 < x := by rintro x ⟨u, hu, h1, _⟩; have := b2 u hu; omega
    have k : ∀ x, ((s.1 ≤ x ∧ x < s.2) ∨ InS a x) ↔ ((t.1 ≤ x ∧ x < t.2) ∨ InS b x) := fun x => by rw [← InS.cons, ← InS.cons]; exact h x
    have e1 : s.1 = t.1 := by
      have h1 : t.1 ≤ s.1 := by
        rcases (k s.1).1 (.inl ⟨Int.le_refl _, a1⟩) with h | h
        · exact h.1
        · have := gb _ h; omega
      have h2 : s.1 ≤ t.1 := by
        rcases (k t.1).2 (.inl ⟨Int.le_refl _, b1⟩) with h | h
        · exact h.1
        · have := ga _ h; omega
      omega
    have e2 : s.2 = t.2 := by
      have h1 : ¬ s.2 < t.2 := fun hlt => by
        rcases (k s.2).2 (.inl ⟨by omega, hlt⟩) with h | h
        · omega
        · have := ga _ h; omega
      have h2 : ¬ t.2 < s.2 := fun hlt => by
        rcases (k t.2).1 (.inl ⟨by omega, hlt⟩) with h | h
        · omega
        · have := gb _ h; omega
      omega
    have e : s = t := Prod.ext e1 e2
    subst e
    congr 1
    refine Rt.eq a3 b3 fun x => ?_
    have kx := k x
    constructor
    · intro hx
      have := ga x hx
      rcases kx.1 (.inr hx) with h | h
      · omega
      · exact h
    · intro hx
      have := gb x hx
      rcases kx.2 (.inr hx) with h | h
      · omega
      · exact h

theorem Rt.none {a : List Sp} (h : Rt a) (hn : ∀ x, ¬ InS a x) : a = [] :=
  Rt.eq h Rt.nil fun x => ⟨fun hx => absurd hx (hn x), fun hx => absurd hx InS.nil⟩

/-! ### Steps -/
theorem Rt.put {r : List Sp} {s : Sp} (h : Rt r) (h1 : s.1 < s.2) (h2 : ∀ t ∈ r, t.2 < s.1) : Rt (r ++ [s]) := Rt.snoc.2 ⟨h, h1, h2⟩
/-- The last one goes on. -/
theorem Rt.more {r : List Sp} {t : Sp} {e : Int} (h : Rt (r ++ [t])) (h1 : t.2 ≤ e) : Rt (r ++ [(t.1, e)]) := by
  obtain ⟨h2, h3, h4⟩ := Rt.snoc.1 h
  exact Rt.snoc.2 ⟨h2, by show t.1 < e; omega, h4⟩
theorem Rt.last {r : List Sp} {t : Sp} (h : Rt (r ++ [t])) {u : Sp} (hu : u ∈ r ++ [t]) : u.2 ≤ t.2 := by
  obtain ⟨h2, h3, h4⟩ := Rt.snoc.1 h
  rcases List.mem_append.1 hu with h | h
  · have := h4 u h; omega
  · rw [List.mem_singleton.1 h]; omega

/-! ### How many -/
def sumS (l : List Sp) : Int := (l.map fun s => s.2 - s.1).foldr (· + ·) 0
theorem sumS_cons {s : Sp} {l : List Sp} : sumS (s :: l) = (s.2 - s.1) + sumS l := rfl

def cnt (p : Int → Bool) (lo : Int) (n : Nat) : Int := ((List.range n).countP fun (i : Nat) => p (lo + i))
theorem cnt_succ {p : Int → Bool} {lo : Int} {n : Nat} : cnt p lo (n + 1) = cnt p lo n + (if p (lo + n) then 1 else 0) := by
  unfold cnt
  rw [List.range_succ, List.countP_append]
  simp only [List.countP_cons, List.countP_nil]
  split <;> simp
theorem cnt_or {p q : Int → Bool} {lo : Int} (h : ∀ x, ¬ (p x = true ∧ q x = true)) : ∀ {n : Nat}, cnt (fun x => p x || q x) lo n = cnt p lo n + cnt q lo n
  | 0 => rfl
  | n + 1 => by
    rw [cnt_succ, cnt_succ, cnt_succ, cnt_or h]
    have := h (lo + n)
    cases hp : p (lo + n) <;> cases hq : q (lo + n) <;> simp [hp, hq] at this ⊢ <;> omega
theorem cnt_congr {p q : Int → Bool} {lo : Int} {n : Nat} (h : ∀ x, p x = q x) : cnt p lo n = cnt q lo n := by
  have : p = q := funext h
  rw [this]
theorem cnt_none {lo : Int} : ∀ {n : Nat}, cnt (fun _ => false) lo n = 0
  | 0 => rfl
  | n + 1 => by rw [cnt_succ, cnt_none]; rfl
theorem cnt_span {a b lo : Int} (h1 : lo ≤ a) (h2 : a ≤ b) : ∀ {n : Nat}, b ≤ lo + n → cnt (fun x => decide (a ≤ x) && decide (x < b)) lo n = b - a := by
  have key : ∀ n : Nat, cnt (fun x => decide (a ≤ x) && decide (x < b)) lo n = (if lo + n ≤ a then 0 else if lo + n ≤ b then lo + n - a else b - a) := by
    intro n
    induction n with
    | zero =>
      show (0 : Int) = _
      rw [if_pos (by omega)]
    | succ n ih =>
      rw [cnt_succ, ih]
      by_cases c1 : a ≤ lo + n
      · by_cases c2 : lo + n < b
        · simp only [c1, c2, decide_true, Bool.and_self, if_true]
          rw [if_neg (show ¬ lo + ((n + 1 : Nat) : Int) ≤ a by omega), if_pos (show lo + ((n + 1 : Nat) : Int) ≤ b by omega)]
          by_cases c3 : lo + (n : Int) ≤ a
          · rw [if_pos c3]; omega
          · rw [if_neg c3, if_pos (by omega)]; omega
        · simp only [c1, c2, decide_true, decide_false, Bool.and_false, Bool.false_eq_true, if_false]
          rw [if_neg (show ¬ lo + ((n + 1 : Nat) : Int) ≤ a by omega), if_neg (show ¬ lo + ((n + 1 : Nat) : Int) ≤ b by omega)]
          by_cases c3 : lo + (n : Int) ≤ a
          · rw [if_pos c3]; omega
          · rw [if_neg c3]
            by_cases c4 : lo + (n : Int) ≤ b
            · rw [if_pos c4]; omega
            · rw [if_neg c4]; omega
      · simp only [c1, decide_false, Bool.false_and, Bool.false_eq_true, if_false]
        rw [if_pos (show lo + (n : Int) ≤ a by omega), if_pos (show lo + ((n + 1 : Nat) : Int) ≤ a by omega)]
        omega
  intro n h
  rw [key]
  by_cases c : lo + (n : Int) ≤ a
  · rw [if_pos c]; omega
  · rw [if_neg c]
    by_cases c2 : lo + (n : Int) ≤ b
    · rw [if_pos c2]; omega
    · rw [if_neg c2]

theorem Rt.cnt {lo : Int} {n : Nat} : ∀ {l : List Sp}, Rt l → (∀ s ∈ l, lo ≤ s.1 ∧ s.2 ≤ lo + n) → cnt (hasS l) lo n = sumS l
  | [], _, _ => by
    rw [show sumS [] = 0 from rfl, ← cnt_none (lo := lo) (n := n)]
    exact cnt_congr fun x => rfl
  | s :: l, h, hb => by
    obtain ⟨h1, h2, h3⟩ := Rt.cons.1 h
    have hs := hb s (by simp)
    rw [sumS_cons, ← Rt.cnt h3 (fun t ht => hb t (by simp [ht])), ← cnt_span hs.1 (by omega) hs.2, ← cnt_or]
    · exact cnt_congr fun x => by unfold hasS; rw [List.any_cons]
    · rintro x ⟨h4, h5⟩
      simp only [Bool.and_eq_true, decide_eq_true_eq] at h4
      obtain ⟨t, ht, h6, h7⟩ := hasS_iff.1 h5
      have := h2 t ht
      omega

theorem bounds : ∀ (l : List Sp), ∃ lo : Int, ∃ n : Nat, ∀ s ∈ l, lo ≤ s.1 ∧ s.2 ≤ lo + n
  | [] => ⟨0, 0, by simp⟩
  | s :: l => by
    obtain ⟨lo, n, h⟩ := bounds l
    refine ⟨min lo s.1, (max (lo + n) s.2 - min lo s.1).toNat, fun t ht => ?_⟩
    rcases List.mem_cons.1 ht with rfl | ht
    · omega
    · have := h t ht; omega

/-- Two rows with nothing in common: as many as both. -/
theorem Rt.sum {a b c : List Sp} (ha : Rt a) (hb : Rt b) (hc : Rt c) (h : ∀ x, InS c x ↔ InS a x ∨ InS b x) (hd : ∀ x, ¬ (InS a x ∧ InS b x)) : sumS a + sumS b = sumS c := by
  obtain ⟨lo, n, hx⟩ := bounds (a ++ (b ++ c))
  rw [← ha.cnt (lo := lo) (n := n) (fun s hs => hx s (by simp [hs])), ← hb.cnt (lo := lo) (n := n) (fun s hs => hx s (by simp [hs])), ← hc.cnt (lo := lo) (n := n) (fun s hs => hx s (by simp [hs])), ← cnt_or]
  · refine (cnt_congr fun x => ?_).symm
    rw [Bool.eq_iff_iff, Bool.or_eq_true, hasS_iff, hasS_iff, hasS_iff]; exact h x
  · rintro x ⟨h1, h2⟩
    exact hd x ⟨hasS_iff.1 h1, hasS_iff.1 h2⟩

end Go.Am


/- Shed: the best choice, in plain Lean: sums, masks by place, and the first difference. -/
set_option linter.unusedVariables false
set_option linter.unusedSimpArgs false
namespace Go.Am

/-- The places from i on, k of them, as a number: the first one weighs most. -/
def Zb (p : Nat → Bool) : Nat → Nat → Nat
  | _, 0 => 0
  | i, k + 1 => (if p i then 2 ^ k else 0) + Zb p (i + 1) k
theorem Zb_lt {p : Nat → Bool} : ∀ {k i : Nat}, Zb p i k < 2 ^ k
  | 0, _ => by simp [Zb]
  | k + 1, i => by
    have := @Zb_lt p k (i + 1)
    unfold Zb
    rw [Nat.pow_succ]
    split <;> omega
theorem Zb_congr {p q : Nat → Bool} : ∀ {k i : Nat}, (∀ j, i ≤ j → j < i + k → p j = q j) → Zb p i k = Zb q i k
  | 0, _, _ => rfl
  | k + 1, i, h => by
    unfold Zb
    rw [h i (Nat.le_refl _) (by omega), @Zb_congr p q k (i + 1) fun j h1 h2 => h j (by omega) (by omega)]
theorem Zb_fd {p q : Nat → Bool} : ∀ {k i : Nat}, Zb p i k < Zb q i k ↔ ∃ j, i ≤ j ∧ j < i + k ∧ p j = false ∧ q j = true ∧ ∀ v, i ≤ v → v < j → p v = q v
  | 0, i => by
    constructor
    · intro h; simp [Zb] at h
    · rintro ⟨j, h1, h2, -⟩; omega
  | k + 1, i => by
    have ih := @Zb_fd p q k (i + 1)
    have l1 := @Zb_lt p k (i + 1)
    have l2 := @Zb_lt q k (i + 1)
    unfold Zb
    cases hp : p i <;> cases hq : q i
    · simp only [Bool.false_eq_true, if_false, Nat.zero_add]
      rw [ih]
      constructor
      · rintro ⟨j, h1, h2, h3, h4, h5⟩
        refine ⟨j, by omega, by omega, h3, h4, fun v hv hv2 => ?_⟩
        by_cases e : v = i
        · rw [e, hp, hq]
        · exact h5 v (by omega) hv2
      · rintro ⟨j, h1, h2, h3, h4, h5⟩
        have : j ≠ i := fun e => by rw [e, hq] at h4; cases h4
        exact ⟨j, by omega, by omega, h3, h4, fun v hv hv2 => h5 v (by omega) hv2⟩
    · simp only [Bool.false_eq_true, if_false, if_true, Nat.zero_add]
      constructor
      · intro _
        exact ⟨i, Nat.le_refl _, by omega, hp, hq, fun v h1 h2 => by omega⟩
      · intro _; omega
    · simp only [Bool.false_eq_true, if_false, if_true, Nat.zero_add]
      constructor
      · intro h; omega
      · rintro ⟨j, h1, h2, h3, h4, h5⟩
        exfalso
        by_cases e : j = i
        · rw [e, hp] at h3; cases h3
        · have := h5 i (Nat.le_refl _) (by omega)
          rw [hp, hq] at this; cases this
    · simp only [if_true, Nat.add_lt_add_iff_left]
      rw [ih]
      constructor
      · rintro ⟨j, h1, h2, h3, h4, h5⟩
        refine ⟨j, by omega, by omega, h3, h4, fun v hv hv2 => ?_⟩
        by_cases e : v = i
        · rw [e, hp, hq]
        · exact h5 v (by omega) hv2
      · rintro ⟨j, h1, h2, h3, h4, h5⟩
        have : j ≠ i := fun e => by rw [e, hp] at h3; cases h3
        exact ⟨j, by omega, by omega, h3, h4, fun v hv hv2 => h5 v (by omega) hv2⟩
theorem Zb_eq {p q : Nat → Bool} : ∀ {k i : Nat}, Zb p i k = Zb q i k → ∀ j, i ≤ j → j < i + k → p j = q j
  | 0, i, _, j, h1, h2 => by omega
  | k + 1, i, h, j, h1, h2 => by
    have l1 := @Zb_lt p k (i + 1)
    have l2 := @Zb_lt q k (i + 1)
    unfold Zb at h
    have hh : p i = q i ∧ Zb p (i + 1) k = Zb q (i + 1) k := by
      cases hp : p i <;> cases hq : q i <;> simp [hp, hq] at h ⊢ <;> omega
    by_cases e : j = i
    · rw [e]; exact hh.1
    · exact Zb_eq hh.2 j (by omega) (by omega)
theorem Zb_bit {p : Nat → Bool} : ∀ {k i b : Nat}, (Zb p i k).testBit b = (decide (b < k) && p (i + (k - 1 - b)))
  | 0, i, b => by simp [Zb]
  | k + 1, i, b => by
    have ih := @Zb_bit p k (i + 1) b
    have l := @Zb_lt p k (i + 1)
    unfold Zb
    by_cases hb : b = k
    · subst hb
      have h0 : (Zb p (i + 1) b).testBit b = false := by rw [ih]; simp
      cases hp : p i
      · simp [h0, hp]
      · simp only [if_true]
        rw [Nat.testBit_two_pow_add_eq, h0]; simp [hp]
    · cases hp : p i
      · simp only [Bool.false_eq_true, if_false, Nat.zero_add]
        rw [ih]
        by_cases h1 : b < k
        · have : i + 1 + (k - 1 - b) = i + (k + 1 - 1 - b) := by omega
          rw [this]; simp [h1, show b < k + 1 by omega]
        · simp [h1, show ¬ b < k + 1 by omega]
      · simp only [if_true]
        by_cases h1 : b < k
        · rw [Nat.testBit_two_pow_add_gt h1, ih]
          have : i + 1 + (k - 1 - b) = i + (k + 1 - 1 - b) := by omega
          rw [this]; simp [h1, show b < k + 1 by omega]
        · have h2 : ¬ b < k + 1 := by omega
          have : 2 ^ k + Zb p (i + 1) k < 2 ^ b := by
            have : 2 ^ (k + 1) ≤ 2 ^ b := Nat.pow_le_pow_right (by omega) (by omega)
            rw [Nat.pow_succ] at this; omega
          rw [Nat.testBit_lt_two_pow this]; simp [h2]

/-- Masks of the first i places. -/
def Sup (p : Nat → Bool) (i : Nat) : Prop := ∀ j, i ≤ j → p j = false
def addM (p : Nat → Bool) (i : Nat) : Nat → Bool := fun j => if j = i then true else p j
def cutM (p : Nat → Bool) (i : Nat) : Nat → Bool := fun j => if j = i then false else p j
def smM (a : Nat → Nat) (p : Nat → Bool) : Nat → Nat
  | 0 => 0
  | i + 1 => smM a p i + if p i then a i else 0
def cnM (p : Nat → Bool) : Nat → Nat
  | 0 => 0
  | i + 1 => cnM p i + if p i then 1 else 0
theorem smM_succ {a : Nat → Nat} {p : Nat → Bool} {i : Nat} : smM a p (i + 1) = smM a p i + if p i then a i else 0 := rfl
theorem cnM_succ {p : Nat → Bool} {i : Nat} : cnM p (i + 1) = cnM p i + if p i then 1 else 0 := rfl
theorem smM_congr {a : Nat → Nat} {p q : Nat → Bool} : ∀ {i : Nat}, (∀ j, j < i → p j = q j) → smM a p i = smM a q i
  | 0, _ => rfl
  | i + 1, h => by unfold smM; rw [smM_congr fun j hj => h j (by omega), h i (by omega)]
theorem cnM_congr {p q : Nat → Bool} : ∀ {i : Nat}, (∀ j, j < i → p j = q j) → cnM p i = cnM q i
  | 0, _ => rfl
  | i + 1, h => by unfold cnM; rw [cnM_congr fun j hj => h j (by omega), h i (by omega)]
theorem cnM_le {p : Nat → Bool} : ∀ {i : Nat}, cnM p i ≤ i
  | 0 => Nat.le_refl _
  | i + 1 => by have := @cnM_le p i; unfold cnM; split <;> omega
/-- The code of a mask of 64 places. -/
def cdM (p : Nat → Bool) : Nat := Zb p 0 64
theorem cd_add {p : Nat → Bool} {i : Nat} (hs : Sup p i) (hi : i < 64) : cdM (addM p i) = cdM p + 2 ^ (63 - i) := by
  have key : ∀ k s, s + k = 64 → s ≤ i → i < s + k → Zb (addM p i) s k = Zb p s k + 2 ^ (63 - i) := by
    intro k
    induction k with
    | zero => intro s h1 h2 h3; omega
    | succ k ih =>
      intro s h1 h2 h3
      unfold Zb
      by_cases e : s = i
      · subst e
        have e1 : addM p s s = true := by unfold addM; simp
        have e2 : p s = false := hs s (Nat.le_refl _)
        have e3 : Zb (addM p s) (s + 1) k = Zb p (s + 1) k := Zb_congr fun j h1 h2 => by unfold addM; rw [if_neg (by omega)]
        have e4 : 63 - s = k := by omega
        rw [e1, e2, e3, e4]
        simp; omega
      · have e1 : addM p i s = p s := by unfold addM; rw [if_neg e]
        rw [e1, ih (s + 1) (by omega) (by omega) (by omega)]
        omega
  exact key 64 0 rfl (Nat.zero_le _) (by omega)
/-- Is q better than p, both of one sum? -/
def btM (i : Nat) (q p : Nat → Bool) : Prop := cnM q i < cnM p i ∨ (cnM q i = cnM p i ∧ cdM p < cdM q)
instance {i : Nat} {q p : Nat → Bool} : Decidable (btM i q p) := by unfold btM; infer_instance
/-- The best of a sum. -/
def BstM (a : Nat → Nat) (i s : Nat) : Option (Nat → Bool) → Prop
  | none => ∀ p, Sup p i → smM a p i ≠ s
  | some p => Sup p i ∧ smM a p i = s ∧ ∀ q, Sup q i → smM a q i = s → ¬ btM i q p
def stM (a : Nat → Nat) (i s : Nat) (old here : Option (Nat → Bool)) : Option (Nat → Bool) :=
  match old with
  | none => here
  | some p => match here with
    | none => some (addM p i)
    | some h => if btM (i + 1) (addM p i) h then some (addM p i) else some h
theorem Sup.add {p : Nat → Bool} {i : Nat} (h : Sup p i) : Sup (addM p i) (i + 1) := fun j hj => by unfold addM; rw [if_neg (by omega)]; exact h j (by omega)
theorem Sup.up {p : Nat → Bool} {i : Nat} (h : Sup p i) : Sup p (i + 1) := fun j hj => h j (by omega)
theorem Sup.cut {p : Nat → Bool} {i : Nat} (h : Sup p (i + 1)) : Sup (cutM p i) i := fun j hj => by
  unfold cutM
  by_cases e : j = i
  · rw [if_pos e]
  · rw [if_neg e]; exact h j (by omega)
theorem add_cut {p : Nat → Bool} {i : Nat} (h : p i = true) : addM (cutM p i) i = p := by
  funext j
  unfold addM cutM
  by_cases e : j = i
  · rw [if_pos e, e, h]
  · rw [if_neg e, if_neg e]
theorem sm_add {a : Nat → Nat} {p : Nat → Bool} {i : Nat} : smM a (addM p i) (i + 1) = smM a p i + a i := by
  rw [smM_succ]
  rw [smM_congr (q := p) fun j hj => by unfold addM; rw [if_neg (by omega)]]
  unfold addM; simp
theorem cn_add {p : Nat → Bool} {i : Nat} : cnM (addM p i) (i + 1) = cnM p i + 1 := by
  rw [cnM_succ]
  rw [cnM_congr (q := p) fun j hj => by unfold addM; rw [if_neg (by omega)]]
  unfold addM; simp
theorem sm_up {a : Nat → Nat} {p : Nat → Bool} {i : Nat} (h : Sup p i) : smM a p (i + 1) = smM a p i := by
  rw [smM_succ, h i (Nat.le_refl _)]; simp
theorem cn_up {p : Nat → Bool} {i : Nat} (h : Sup p i) : cnM p (i + 1) = cnM p i := by
  rw [cnM_succ, h i (Nat.le_refl _)]; simp
theorem Sup.of {p : Nat → Bool} {i : Nat} (h : Sup p (i + 1)) (hi : p i = false) : Sup p i := fun j hj => by
  by_cases e : j = i
  · rw [e]; exact hi
  · exact h j (by omega)
theorem bt_trans {i : Nat} {a b c : Nat → Bool} (h : btM i a b) (k : btM i b c) : btM i a c := by unfold btM at *; omega
theorem bt_irr {i : Nat} {a : Nat → Bool} : ¬ btM i a a := by unfold btM; omega
theorem bt_add {i : Nat} {p q : Nat → Bool} (hp : Sup p i) (hq : Sup q i) (hi : i < 64) : btM (i + 1) (addM q i) (addM p i) ↔ btM i q p := by
  unfold btM
  rw [cn_add, cn_add, cd_add hp hi, cd_add hq hi]
  omega
theorem bt_up {i : Nat} {p q : Nat → Bool} (hp : Sup p i) (hq : Sup q i) : btM (i + 1) q p ↔ btM i q p := by
  unfold btM; rw [cn_up hp, cn_up hq]
/-- One more want: the best of each sum. -/
theorem Bst_step {a : Nat → Nat} {i s : Nat} {here : Option (Nat → Bool)} (hi : i < 64) (h : BstM a i s here) :
    (s < a i → BstM a (i + 1) s here) ∧ (∀ old, a i ≤ s → BstM a i (s - a i) old → BstM a (i + 1) s (stM a i s old here)) := by
  constructor
  · intro hs
    have no : ∀ p, Sup p (i + 1) → smM a p (i + 1) = s → Sup p i := fun p hp hm => hp.of (by
      cases e : p i
      · rfl
      · unfold smM at hm; rw [e] at hm; simp at hm; omega)
    cases here with
    | none => intro p hp hm; exact h p (no p hp hm) (by rw [← sm_up (no p hp hm)]; exact hm)
    | some b =>
      refine ⟨h.1.up, by rw [sm_up h.1]; exact h.2.1, fun q hq hm hb => ?_⟩
      have := no q hq hm
      exact h.2.2 q this (by rw [← sm_up this]; exact hm) ((bt_up h.1 this).1 hb)
  · intro old hs ho
    have spl : ∀ q, Sup q (i + 1) → smM a q (i + 1) = s → (Sup q i ∧ smM a q i = s) ∨ (∃ r, q = addM r i ∧ Sup r i ∧ smM a r i = s - a i) := fun q hq hm => by
      cases e : q i
      · have := hq.of e
        exact .inl ⟨this, by rw [← sm_up this]; exact hm⟩
      · refine .inr ⟨cutM q i, (add_cut e).symm, hq.cut, ?_⟩
        rw [← add_cut e, sm_add] at hm
        omega
    unfold stM
    cases old with
    | none =>
      simp only []
      cases here with
      | none =>
        intro q hq hm
        rcases spl q hq hm with ⟨h1, h2⟩ | ⟨r, -, h1, h2⟩
        · exact h q h1 h2
        · exact ho r h1 h2
      | some b =>
        refine ⟨h.1.up, by rw [sm_up h.1]; exact h.2.1, fun q hq hm hb => ?_⟩
        rcases spl q hq hm with ⟨h1, h2⟩ | ⟨r, -, h1, h2⟩
        · exact h.2.2 q h1 h2 ((bt_up h.1 h1).1 hb)
        · exact ho r h1 h2
    | some p =>
      obtain ⟨p1, p2, p3⟩ := ho
      have pa : smM a (addM p i) (i + 1) = s := by rw [sm_add]; omega
      simp only []
      cases here with
      | none =>
        simp only []
        refine ⟨p1.add, pa, fun q hq hm hb => ?_⟩
        rcases spl q hq hm with ⟨h1, h2⟩ | ⟨r, rfl, h1, h2⟩
        · exact h q h1 h2
        · exact p3 r h1 h2 ((bt_add p1 h1 hi).1 hb)
      | some b =>
        simp only []
        obtain ⟨b1, b2, b3⟩ := h
        by_cases g : btM (i + 1) (addM p i) b
        · rw [if_pos g]
          refine ⟨p1.add, pa, fun q hq hm hb => ?_⟩
          rcases spl q hq hm with ⟨h1, h2⟩ | ⟨r, rfl, h1, h2⟩
          · exact b3 q h1 h2 ((bt_up b1 h1).1 (bt_trans hb g))
          · exact p3 r h1 h2 ((bt_add p1 h1 hi).1 hb)
        · rw [if_neg g]
          refine ⟨b1.up, by rw [sm_up b1]; exact b2, fun q hq hm hb => ?_⟩
          rcases spl q hq hm with ⟨h1, h2⟩ | ⟨r, rfl, h1, h2⟩
          · exact b3 q h1 h2 ((bt_up b1 h1).1 hb)
          · -- r + i better than b, but no r is better than p: so p + i is better than b
            have k : ¬ btM (i + 1) (addM r i) (addM p i) := fun hb' => p3 r h1 h2 ((bt_add p1 h1 hi).1 hb')
            unfold btM at g hb k
            omega
theorem Bst_zero {a : Nat → Nat} {s : Nat} : BstM a 0 s (if s = 0 then some (fun _ => false) else none) := by
  by_cases e : s = 0
  · rw [if_pos e]
    refine ⟨fun _ _ => rfl, by rw [e]; rfl, fun q hq _ hb => ?_⟩
    have : q = fun _ => false := funext fun j => hq j (Nat.zero_le _)
    rw [this] at hb
    exact bt_irr hb
  · rw [if_neg e]
    intro p _ h; exact e h.symm
end Go.Am


/- Shed: choices as rows of wants, and as masks of the sorted row. -/
set_option linter.unusedVariables false
set_option linter.unusedSimpArgs false
namespace Go.Am

def hasU (a : List Sp) (u : Int) : Bool := a.any fun x => x.1 == u
def hN (a : List Sp) (u : Nat) : Bool := hasU a (u : Int)
def sumC (a : List Sp) : Int := (a.map Prod.snd).sum
/-- Is a better than b (document)? -/
def betR (a b : List Sp) : Prop := sumC a < sumC b ∨ (sumC a = sumC b ∧ (a.length < b.length ∨ (a.length = b.length ∧ Zb (hN b) 1 1040 < Zb (hN a) 1 1040)))
def srtU (L : List Sp) : Prop := L.Pairwise fun a b => a.1 < b.1
def unqU (L : List Sp) : Prop := L.Pairwise fun a b => a.1 ≠ b.1
theorem hasU_iff {a : List Sp} {u : Int} : hasU a u = true ↔ ∃ x ∈ a, x.1 = u := by unfold hasU; simp
theorem hasU_mem {a : List Sp} {x : Sp} (h : x ∈ a) : hasU a x.1 = true := hasU_iff.2 ⟨x, h, rfl⟩
theorem sub_filter {a l : List Sp} (h : a.Sublist l) (hn : unqU l) : a = l.filter fun x => hasU a x.1 := by
  induction h with
  | slnil => rfl
  | @cons a l x h ih =>
    unfold unqU at hn
    rw [List.pairwise_cons] at hn
    have e : hasU a x.1 = false := by
      cases e : hasU a x.1
      · rfl
      · obtain ⟨y, hy, hy2⟩ := hasU_iff.1 e
        exact absurd hy2.symm (hn.1 y (h.subset hy))
    rw [List.filter_cons, if_neg (by rw [e]; simp)]
    exact ih hn.2
  | @cons_cons a l x h ih =>
    unfold unqU at hn
    rw [List.pairwise_cons] at hn
    rw [List.filter_cons, if_pos (hasU_mem (List.mem_cons_self ..))]
    congr 1
    have e : l.filter (fun y => hasU (x :: a) y.1) = l.filter fun y => hasU a y.1 := List.filter_congr fun y hy => by
      have := hn.1 y hy
      unfold hasU
      simp [this]
    rw [e]
    exact ih hn.2
/-- The shares of the sorted row, by place. -/
def shA (L : List Sp) (j : Nat) : Nat := ((L[j]?).map fun w => w.2.toNat).getD 0
/-- A row's mask. -/
def mkM (L a : List Sp) (j : Nat) : Bool := ((L[j]?).map fun w => hasU a w.1).getD false
theorem mk_at {L a : List Sp} {j : Nat} (h : j < L.length) : mkM L a j = hasU a L[j].1 := by unfold mkM; simp [h]
theorem mk_out {L a : List Sp} {j : Nat} (h : L.length ≤ j) : mkM L a j = false := by unfold mkM; simp [h]
theorem mk_sup {L a : List Sp} : Sup (mkM L a) L.length := fun j hj => mk_out hj
theorem sh_at {L : List Sp} {j : Nat} (h : j < L.length) : shA L j = L[j].2.toNat := by unfold shA; simp [h]
theorem sm_filter {L a : List Sp} (hp : ∀ w ∈ L, 0 ≤ w.2) : ∀ {i : Nat}, i ≤ L.length → sumC ((L.take i).filter fun x => hasU a x.1) = ((smM (shA L) (mkM L a) i : Nat) : Int)
  | 0, _ => by simp [sumC, smM]
  | i + 1, h => by
    have ih := @sm_filter L a hp i (by omega)
    have h0 := hp _ (List.getElem_mem (show i < L.length by omega))
    rw [List.take_succ_eq_append_getElem (by omega), List.filter_append]
    unfold sumC at *
    rw [List.map_append, List.sum_append, ih]
    show _ = ((smM (shA L) (mkM L a) i + if mkM L a i then shA L i else 0 : Nat) : Int)
    rw [mk_at (by omega), sh_at (by omega)]
    cases e : hasU a L[i].1 <;> simp [e]
    omega
theorem cn_filter {L a : List Sp} : ∀ {i : Nat}, i ≤ L.length → ((L.take i).filter fun x => hasU a x.1).length = cnM (mkM L a) i
  | 0, _ => by simp [cnM]
  | i + 1, h => by
    have ih := @cn_filter L a i (by omega)
    rw [List.take_succ_eq_append_getElem (by omega), List.filter_append, List.length_append, ih]
    show _ = cnM (mkM L a) i + if mkM L a i then 1 else 0
    rw [mk_at (by omega)]
    cases e : hasU a L[i].1 <;> simp [e]
structure ShOk (L l : List Sp) : Prop where
  s : srtU L
  p : L.Perm l
  n : L.length ≤ 64
  u : ∀ w ∈ L, 1 ≤ w.1 ∧ w.1 ≤ 1040
  h : ∀ w ∈ L, 1 ≤ w.2
theorem srt_unq {L : List Sp} (h : srtU L) : unqU L := h.imp fun h => by omega
theorem ShOk.unq {L l : List Sp} (h : ShOk L l) : unqU l := by
  have := srt_unq h.s
  exact (h.p.pairwise_iff (R := fun a b : Sp => a.1 ≠ b.1) (fun h => h.symm)).1 this
theorem ShOk.perm {L l a : List Sp} (h : ShOk L l) (hs : a.Sublist l) : a.Perm (L.filter fun x => hasU a x.1) := by
  have e := sub_filter hs h.unq
  have := h.p.filter fun x => hasU a x.1
  rw [← e] at this
  exact this.symm
theorem sumC_perm {a b : List Sp} (h : a.Perm b) : sumC a = sumC b := by
  unfold sumC
  induction h with
  | nil => rfl
  | cons x _ ih => simp only [List.map_cons, List.sum_cons, ih]
  | swap x y _ => simp only [List.map_cons, List.sum_cons]; omega
  | trans _ _ h1 h2 => rw [h1, h2]
theorem ShOk.sum {L l a : List Sp} (h : ShOk L l) (hs : a.Sublist l) : sumC a = ((smM (shA L) (mkM L a) L.length : Nat) : Int) := by
  rw [sumC_perm (h.perm hs), ← sm_filter (fun w hw => by have := h.h w hw; omega) (Nat.le_refl _), List.take_length]
theorem ShOk.len {L l a : List Sp} (h : ShOk L l) (hs : a.Sublist l) : a.length = cnM (mkM L a) L.length := by
  rw [(h.perm hs).length_eq, ← cn_filter (Nat.le_refl _), List.take_length]
theorem srt_lt {L : List Sp} (h : srtU L) {i j : Nat} (hij : i < j) (hj : j < L.length) : (L[i]'(by omega)).1 < L[j].1 := List.pairwise_iff_getElem.1 h i j (by omega) hj hij
theorem srt_le {L : List Sp} (h : srtU L) {i j : Nat} (hi : i < L.length) (hj : j < L.length) (hl : L[i].1 < L[j].1) : i < j := by
  by_cases g : i < j
  · exact g
  · exfalso
    by_cases e : i = j
    · subst e; omega
    · have := srt_lt h (show j < i by omega) hi; omega
theorem ShOk.cd {L l a b : List Sp} (h : ShOk L l) (ha : a.Sublist l) (hb : b.Sublist l) : Zb (hN b) 1 1040 < Zb (hN a) 1 1040 ↔ cdM (mkM L b) < cdM (mkM L a) := by
  unfold cdM
  rw [Zb_fd, Zb_fd]
  have inL : ∀ (c : List Sp) (u : Int), c.Sublist l → hasU c u = true → ∃ j, ∃ hj : j < L.length, L[j].1 = u := fun c u hc hu => by
    obtain ⟨x, hx, rfl⟩ := hasU_iff.1 hu
    obtain ⟨j, hj, e⟩ := List.getElem_of_mem (h.p.mem_iff.2 (hc.subset hx))
    exact ⟨j, hj, by rw [e]⟩
  have hn := h.n
  constructor
  · rintro ⟨u, h1, h2, h3, h4, h5⟩
    obtain ⟨j, hj, e⟩ := inL a u ha h4
    refine ⟨j, Nat.zero_le _, by omega, by rw [mk_at hj, e]; exact h3, by rw [mk_at hj, e]; exact h4, fun v _ hv => ?_⟩
    have hlt := srt_lt h.s hv hj
    have hu := h.u _ (List.getElem_mem (show v < L.length by omega))
    rw [mk_at (by omega), mk_at (by omega)]
    have := h5 (L[v]'(by omega)).1.toNat (by omega) (by omega)
    unfold hN at this
    rw [Int.toNat_of_nonneg (by omega)] at this
    exact this
  · rintro ⟨j, -, h2, h3, h4, h5⟩
    have hj : j < L.length := by
      by_cases g : j < L.length
      · exact g
      · rw [mk_out (by omega)] at h4; cases h4
    have hu := h.u _ (List.getElem_mem hj)
    rw [mk_at hj] at h3 h4
    refine ⟨L[j].1.toNat, by omega, by omega, ?_, ?_, fun v hv1 hv2 => ?_⟩
    · unfold hN; rw [Int.toNat_of_nonneg (by omega)]; exact h3
    · unfold hN; rw [Int.toNat_of_nonneg (by omega)]; exact h4
    · have key : ∀ i, ∀ hi : i < L.length, L[i].1 = (v : Int) → hN b v = hN a v := fun i hi e => by
        have := h5 i (Nat.zero_le _) (srt_le h.s hi hj (by omega))
        rw [mk_at hi, mk_at hi, e] at this
        exact this
      cases ea : hN a v
      · cases eb : hN b v
        · rfl
        · obtain ⟨i, hi, e⟩ := inL b v hb eb
          have := key i hi e
          rw [ea, eb] at this; exact this
      · obtain ⟨i, hi, e⟩ := inL a v ha ea
        have := key i hi e
        rw [ea] at this; exact this
/-- The row of a mask. -/
def rowM (L : List Sp) (p : Nat → Bool) (l : List Sp) : List Sp := l.filter fun x => (List.range L.length).any fun j => p j && ((L[j]?).map fun w => w.1 == x.1).getD false
theorem row_has {L l : List Sp} {p : Nat → Bool} (h : ShOk L l) {j : Nat} (hj : j < L.length) : hasU (rowM L p l) L[j].1 = p j := by
  rw [Bool.eq_iff_iff, hasU_iff]
  have inj : ∀ i, ∀ hi : i < L.length, L[i].1 = L[j].1 → i = j := fun i hi e => by
    by_cases g : i < j
    · have := srt_lt h.s g hj; omega
    · by_cases g2 : j < i
      · have := srt_lt h.s g2 hi; omega
      · omega
  constructor
  · rintro ⟨x, hx, e⟩
    unfold rowM at hx
    rw [List.mem_filter, List.any_eq_true] at hx
    obtain ⟨-, i, hi, h2⟩ := hx
    rw [List.mem_range] at hi
    simp [hi] at h2
    have := inj i hi (by rw [h2.2, e])
    subst this
    exact h2.1
  · intro hp
    refine ⟨L[j], ?_, rfl⟩
    unfold rowM
    rw [List.mem_filter, List.any_eq_true]
    refine ⟨h.p.mem_iff.1 (List.getElem_mem hj), j, List.mem_range.2 hj, ?_⟩
    simp [hj, hp]
theorem mk_row {L l : List Sp} {p : Nat → Bool} (h : ShOk L l) (hp : Sup p L.length) : mkM L (rowM L p l) = p := by
  funext j
  by_cases g : j < L.length
  · rw [mk_at g, row_has h g]
  · rw [mk_out (by omega), hp j (by omega)]
/-- The program's choice: the least sum from the need on that can be had, and the best of it. -/
structure PChoice (L : List Sp) (need : Int) (p : Nat → Bool) (s : Nat) : Prop where
  b : BstM (shA L) L.length s (some p)
  n : need ≤ s
  m : ∀ q, Sup q L.length → need ≤ ((smM (shA L) q L.length : Nat) : Int) → s ≤ smM (shA L) q L.length
/-- The document's. -/
def RChoice (l : List Sp) (need : Int) (w : List Sp) : Prop := w.Sublist l ∧ need ≤ sumC w ∧ ∀ t, t.Sublist l → need ≤ sumC t → ¬ betR t w
theorem choice_eq {L l w : List Sp} {need : Int} {p : Nat → Bool} {s : Nat} (h : ShOk L l) (hp : PChoice L need p s) (hw : RChoice l need w) : mkM L w = p ∧ sumC w = s := by
  obtain ⟨⟨p1, p2, p3⟩, p4, p5⟩ := hp
  obtain ⟨w1, w2, w3⟩ := hw
  have ts : (rowM L p l).Sublist l := List.filter_sublist
  have tm := mk_row h p1
  have t1 := h.sum ts
  have t2 := h.len ts
  have q1 := h.sum w1
  have q2 := h.len w1
  have t3 := h.cd ts w1
  have hq := mk_sup (L := L) (a := w)
  rw [tm, p2] at t1
  rw [tm] at t2 t3
  have nb := w3 _ ts (by omega)
  have le := p5 _ hq (by omega)
  have hs : sumC w = s := by
    unfold betR at nb; omega
  have hb : ¬ btM L.length (mkM L w) p := p3 _ hq (by omega)
  refine ⟨?_, hs⟩
  have hcd : cdM (mkM L w) = cdM p := by
    unfold betR at nb
    unfold btM at hb
    rw [t1, hs, t2, q2] at nb
    have : ¬ cdM (mkM L w) < cdM p ∨ cnM p L.length ≠ cnM (mkM L w) L.length := by
      by_cases g : cdM (mkM L w) < cdM p
      · right; intro e; exact nb (.inr ⟨rfl, .inr ⟨e, t3.2 g⟩⟩)
      · exact .inl g
    omega
  have hn := h.n
  funext j
  by_cases g : j < 64
  · exact Zb_eq hcd j (Nat.zero_le _) (by omega)
  · rw [mk_out (by omega), p1 j (by omega)]
theorem srt_eq : ∀ {a b : List Int}, a.Pairwise (· < ·) → b.Pairwise (· < ·) → (∀ x, x ∈ a ↔ x ∈ b) → a = b
  | [], [], _, _, _ => rfl
  | [], y :: b, _, _, h => by have := (h y).2 (by simp); simp at this
  | x :: a, [], _, _, h => by have := (h x).1 (by simp); simp at this
  | x :: a, y :: b, ha, hb, h => by
    rw [List.pairwise_cons] at ha hb
    have e : x = y := by
      have h1 := (h x).1 (by simp)
      have h2 := (h y).2 (by simp)
      rw [List.mem_cons] at h1 h2
      rcases h1 with h1 | h1
      · exact h1
      · rcases h2 with h2 | h2
        · exact h2.symm
        · have := ha.1 _ h2; have := hb.1 _ h1; omega
    subst e
    rw [srt_eq ha.2 hb.2 fun z => ?_]
    have hz := h z
    rw [List.mem_cons, List.mem_cons] at hz
    constructor
    · intro k
      have := ha.1 _ k
      rcases hz.1 (.inr k) with e | e
      · omega
      · exact e
    · intro k
      have := hb.1 _ k
      rcases hz.2 (.inr k) with e | e
      · omega
      · exact e
/-- The units of a choice, rising: by place, and by number. -/
def outU (L : List Sp) (p : Nat → Bool) : List Int := ((List.range L.length).filter p).map fun j => ((L[j]?).map Prod.fst).getD 0
def untU (w : List Sp) : List Int := (((List.range 1041).filter fun u => decide (1 ≤ u)).filter (hN w)).map fun u => ((u : Nat) : Int)
theorem pw_map {f : Nat → Int} {R : Nat → Nat → Prop} {l : List Nat} (h : l.Pairwise R) (hf : ∀ a ∈ l, ∀ b ∈ l, R a b → f a < f b) : (l.map f).Pairwise (· < ·) := by
  rw [List.pairwise_map]
  exact h.imp_of_mem fun ha hb r => hf _ ha _ hb r
theorem out_unt {L l w : List Sp} (h : ShOk L l) (hs : w.Sublist l) : outU L (mkM L w) = untU w := by
  refine srt_eq ?_ ?_ fun x => ?_
  · unfold outU
    refine pw_map (List.pairwise_lt_range.sublist List.filter_sublist) fun a ha b hb hab => ?_
    rw [List.mem_filter, List.mem_range] at ha hb
    simp only [List.getElem?_eq_getElem ha.1, List.getElem?_eq_getElem hb.1, Option.map_some, Option.getD_some]
    exact srt_lt h.s hab hb.1
  · unfold untU
    refine pw_map (List.pairwise_lt_range.sublist (List.Sublist.trans List.filter_sublist List.filter_sublist)) fun a ha b hb hab => by omega
  · unfold outU untU
    rw [List.mem_map, List.mem_map]
    constructor
    · rintro ⟨j, hj, e⟩
      rw [List.mem_filter, List.mem_range] at hj
      simp only [List.getElem?_eq_getElem hj.1, Option.map_some, Option.getD_some] at e
      have hu := h.u _ (List.getElem_mem hj.1)
      refine ⟨x.toNat, ?_, by omega⟩
      rw [List.mem_filter, List.mem_filter, List.mem_range]
      refine ⟨⟨by omega, decide_eq_true (by omega)⟩, ?_⟩
      unfold hN
      rw [Int.toNat_of_nonneg (by omega), ← e, ← mk_at hj.1]
      exact hj.2
    · rintro ⟨u, hu, e⟩
      rw [List.mem_filter, List.mem_filter, List.mem_range] at hu
      obtain ⟨y, hy, hy2⟩ := hasU_iff.1 hu.2
      obtain ⟨j, hj, e2⟩ := List.getElem_of_mem (h.p.mem_iff.2 (hs.subset hy))
      refine ⟨j, ?_, ?_⟩
      · rw [List.mem_filter, List.mem_range]
        refine ⟨hj, ?_⟩
        rw [mk_at hj, e2, hy2]; exact hu.2
      · simp only [List.getElem?_eq_getElem hj, Option.map_some, Option.getD_some]
        rw [e2, hy2, e]
end Go.Am


/- Shed: the document's search, choice by choice; what it finds. -/
set_option linter.unusedVariables false
set_option linter.unusedSimpArgs false
namespace Go.Am
open Classical

noncomputable def bestR (need : Int) : List Sp → List Sp → List Sp × Bool
  | [], ch => (ch, decide (need ≤ sumC ch))
  | x :: r, ch => if (bestR need r ch).2 = false ∨ ((bestR need r (ch ++ [x])).2 = true ∧ betR (bestR need r (ch ++ [x])).1 (bestR need r ch).1) then bestR need r (ch ++ [x]) else bestR need r ch
theorem best_opt {need : Int} : ∀ {r ch : List Sp}, (∃ t, t.Sublist r ∧ (bestR need r ch).1 = ch ++ t) ∧ ((bestR need r ch).2 = true → need ≤ sumC (bestR need r ch).1 ∧ ∀ t, t.Sublist r → need ≤ sumC (ch ++ t) → ¬ betR (ch ++ t) (bestR need r ch).1) ∧
    ((bestR need r ch).2 = false → ∀ t, t.Sublist r → ¬ need ≤ sumC (ch ++ t))
  | [], ch => by
    refine ⟨⟨[], List.Sublist.refl _, by simp [bestR]⟩, fun h => ?_, fun h t ht => ?_⟩
    · simp only [bestR, decide_eq_true_eq] at h ⊢
      refine ⟨h, fun t ht hn hb => ?_⟩
      rw [List.sublist_nil.1 ht, List.append_nil] at hb
      unfold betR at hb; omega
    · simp only [bestR, decide_eq_false_iff_not] at h
      rw [List.sublist_nil.1 ht, List.append_nil]; exact h
  | x :: r, ch => by
    obtain ⟨⟨ta, ta1, ta2⟩, a2, a3⟩ := @best_opt need r ch
    obtain ⟨⟨tb, tb1, tb2⟩, b2, b3⟩ := @best_opt need r (ch ++ [x])
    have spl : ∀ t, t.Sublist (x :: r) → t.Sublist r ∨ ∃ t', t = x :: t' ∧ t'.Sublist r := fun t ht => by
      cases ht with
      | cons _ h => exact .inl h
      | cons_cons _ h => exact .inr ⟨_, rfl, h⟩
    have ap : ∀ t' : List Sp, ch ++ x :: t' = (ch ++ [x]) ++ t' := fun t' => by simp
    unfold bestR
    generalize bestR need r ch = A at *
    generalize bestR need r (ch ++ [x]) = B at *
    by_cases g : A.2 = false ∨ (B.2 = true ∧ betR B.1 A.1)
    · rw [if_pos g]
      refine ⟨⟨x :: tb, tb1.cons_cons _, by rw [tb2]; simp⟩, fun h => ?_, fun h t ht => ?_⟩
      · refine ⟨(b2 h).1, fun t ht hn hb => ?_⟩
        rcases spl t ht with k | ⟨t', rfl, k⟩
        · cases ea : A.2
          · exact a3 ea t k hn
          · have h1 := (a2 ea).2 t k hn
            have h2 : betR B.1 A.1 := by
              rcases g with g | g
              · rw [ea] at g; cases g
              · exact g.2
            unfold betR at *; omega
        · rw [ap] at hb hn
          exact (b2 h).2 t' k hn hb
      · rcases spl t ht with k | ⟨t', rfl, k⟩
        · rcases g with g | g
          · exact a3 g t k
          · rw [h] at g; cases g.1
        · rw [ap]; exact b3 h t' k
    · rw [if_neg g]
      have ea : A.2 = true := by
        cases ea : A.2
        · exact absurd (.inl ea) g
        · rfl
      refine ⟨⟨ta, ta1.cons _, ta2⟩, fun h => ⟨(a2 h).1, fun t ht hn hb => ?_⟩, fun h => by rw [ea] at h; cases h⟩
      rcases spl t ht with k | ⟨t', rfl, k⟩
      · exact (a2 h).2 t k hn hb
      · rw [ap] at hb hn
        cases eb : B.2
        · exact b3 eb t' k hn
        · have h1 := (b2 eb).2 t' k hn
          have h2 : ¬ betR B.1 A.1 := fun k => g (.inr ⟨eb, k⟩)
          unfold betR at *; omega
theorem best_choice {need : Int} {l : List Sp} (h : need ≤ sumC l) : (bestR need l []).2 = true ∧ RChoice l need (bestR need l []).1 := by
  obtain ⟨⟨t, t1, t2⟩, a2, a3⟩ := @best_opt need l []
  have e : (bestR need l []).2 = true := by
    cases e : (bestR need l []).2
    · exact absurd h (a3 e l (List.Sublist.refl _))
    · rfl
  refine ⟨e, by rw [t2]; simpa using t1, (a2 e).1, fun t ht hn => ?_⟩
  have := (a2 e).2 t ht
  simp only [List.nil_append] at this
  exact this hn
end Go.Am


/- OrderUnits over the table of shed (relayset.py). -/
set_option linter.unusedVariables false
set_option linter.unusedSimpArgs false
namespace Go.Am
variable {m : Mem}

def isU (u : Int) : Prop := 1 ≤ u ∧ u ≤ 200 ∨ 1001 ≤ u ∧ u ≤ 1040

theorem Kind_spec {u : Int} : WC R F.order_Kind [.int .i64 u] m fun v m' => ((isU u ∧ v = .tuple #[.int .i64 (if 1000 < u then u - 1000 else u), .bool (decide (1000 < u)), .bool true]) ∨ (¬ isU u ∧ v = .tuple #[.int .i64 0, .bool false, .bool false])) ∧ m' = m := by
  refine WC.of R.order_Kind rfl ?_
  simp only [RC.order_Kind, go_sem]
  repeat' (refine gT.of (fun h => ?_) (fun h => ?_) <;> try simp only [go_sem, *])
  all_goals simp only [decide_eq_true_eq, decide_eq_false_iff_not] at *
  · exact .inl ⟨by unfold isU; omega, by simp [show ¬ 1000 < u by omega]⟩
  · exact .inl ⟨by unfold isU; omega, by rw [wrap_i64 (by omega) (by omega)]; simp [show 1000 < u by omega]⟩
  all_goals (refine .inr ?_; first | exact ⟨by unfold isU; omega, rfl⟩ | (unfold isU; omega) | skip)

theorem Is_spec {u : Int} : WC R F.ref08_Is [.int .i64 u] m fun v m' => (v = .bool true ∧ isU u ∨ v = .bool false ∧ ¬ isU u) ∧ m' = m := by
  refine WC.of R.ref08_Is rfl ?_
  simp only [RC.ref08_Is, go_sem]
  repeat' (refine gT.of (fun h => ?_) (fun h => ?_) <;> try simp only [go_sem, *])
  all_goals simp only [decide_eq_true_eq, decide_eq_false_iff_not] at *
  all_goals (unfold isU; simp; omega)
end Go.Am


/- OrderD over the table of shed (relayset.py). -/
set_option linter.unusedVariables false
set_option linter.unusedSimpArgs false
namespace Go.Am
abbrev inR (n : Int) : Prop := -9223372036854775808 ≤ n ∧ n ≤ 9223372036854775807

theorem wrap_hi {x : Int} (h1 : 9223372036854775808 ≤ x) (h2 : x ≤ 18446744073709551614) : IntKind.wrap .i64 x = x - 18446744073709551616 := by
  have e : IntKind.wrap .i64 x = IntKind.wrap .i64 (x - 18446744073709551616) := by
    unfold IntKind.wrap
    simp [IntKind.bits, IntKind.signed]
  rw [e, wrap_i64 (by omega) (by omega)]
theorem wrap_lo {x : Int} (h1 : x ≤ -9223372036854775809) (h2 : -18446744073709551616 ≤ x) : IntKind.wrap .i64 x = x + 18446744073709551616 := by
  have e : IntKind.wrap .i64 x = IntKind.wrap .i64 (x + 18446744073709551616) := by
    unfold IntKind.wrap
    simp [IntKind.bits, IntKind.signed]
  rw [e, wrap_i64 (by omega) (by omega)]

/-- All shares together; none: it runs over. -/
def totO (n : Int) : List Sp → Option Int
  | [] => some n
  | w :: r => if inR (n + w.2) then totO (n + w.2) r else none

/-- What is wrong with the first one that is not right. -/
noncomputable def chkF (f : Int) (pre : List Sp) : List Sp → Int
  | [] => 0
  | w :: r => open Classical in if ¬ isU w.1 then 20 else if w.2 < 1 ∨ f < w.2 then 21 else if ∃ p ∈ pre, p.1 = w.1 then 11 else chkF f (pre ++ [w]) r
end Go.Am


/- Cuts of slices. -/
set_option linter.unusedVariables false
set_option linter.unusedSimpArgs false
namespace Go.Am

/-- A slice that may be cut. -/
def Cut (u : Nat) (m : Mem) (v : Value) : Prop := ∀ b o n c, v = .slice (some ⟨b, o, none⟩) n c → unitOk u m b = true
theorem Cutable.cut {u : Nat} {m : Mem} {v : Value} (h : Cutable m v) : Cut u m v := fun b o n c e => by subst e; exact h.unit
theorem Own.cut {m0 m : Mem} {u n : Nat} {cs : List Value} {v : Value} (h : Own m0 m u n cs v) : Cut u m v := by
  intro b o n' c e
  cases h with
  | nil => cases e
  | «at» hb hb2 hn hm hl hcs h1 => cases e; exact unitOk_own hm
theorem Cut.keep {u : Nat} {m m' : Mem} {v : Value} (h : Cut u m v) (hb : SlLt m v) (hx : Ext m m') : Cut u m' v := by
  intro b o n c e
  have := h b o n c e
  subst e
  unfold unitOk at this ⊢
  rw [hx.same b hb]; exact this

theorem aCells_split {m : Mem} {b o n k : Nat} {cs : List Value} (h : aCells m b o n = some cs) (hk : k ≤ n) : aCells m b o k = some (cs.take k) ∧ aCells m b (o + k) (n - k) = some (cs.drop k) := by
  unfold aCells at h ⊢
  split at h
  · rename_i c w hm
    split at h
    · rename_i hle
      cases h
      constructor
      · rw [if_pos (by omega), List.take_take, Nat.min_eq_left hk]
      · rw [if_pos (by omega), ← List.drop_drop, List.drop_take]
    · cases h
  · cases h

theorem Sl.to {m : Mem} {u n : Nat} {cs : List Value} {v : Value} (h : Sl m u n cs v) (hc : Cut u m v) {k : IntKind} {i : Nat} (hi : i ≤ n) :
    ∃ v', aSub u m v none (some (.int k i)) none = some v' ∧ Sl m u i (cs.take (i * u)) v' ∧ (SlLt m v → SlLt m v') ∧ Cut u m v' := by
  cases h with
  | nil h hcs =>
    subst hcs
    have : i = 0 := by omega
    subst this
    exact ⟨.slice none 0 0, rfl, .nil rfl (by simp), id, fun _ _ _ _ e => by cases e⟩
  | @«at» b o c hnc h =>
    have hu := hc b o n c rfl
    refine ⟨.slice (some ⟨b, o, none⟩) i c, sub_to hu (by omega), .at (by omega) (aCells_split h (Nat.mul_le_mul_right _ hi)).1, id, fun _ _ _ _ e => by cases e; exact hu⟩

theorem Sl.from {m : Mem} {u n : Nat} {cs : List Value} {v : Value} (h : Sl m u n cs v) (hc : Cut u m v) {k : IntKind} {i : Nat} (hi : i ≤ n) :
    ∃ v', aSub u m v (some (.int k i)) none none = some v' ∧ Sl m u (n - i) (cs.drop (i * u)) v' ∧ (SlLt m v → SlLt m v') ∧ Cut u m v' := by
  cases h with
  | nil h hcs =>
    subst hcs
    have : i = 0 := by omega
    subst this
    exact ⟨.slice none 0 0, rfl, .nil (by omega) (by simp), id, fun _ _ _ _ e => by cases e⟩
  | @«at» b o c hnc h =>
    have hu := hc b o n c rfl
    refine ⟨.slice (some ⟨b, o + i * u, none⟩) (n - i) (c - i), sub_from hu hi hnc, .at (by omega) ?_, id, fun _ _ _ _ e => by cases e; exact hu⟩
    rw [Nat.sub_mul]
    exact (aCells_split h (Nat.mul_le_mul_right _ hi)).2

end Go.Am


/- One's own slice whose first block is older than what else is there: only that block, and newer ones, are touched. -/
set_option linter.unusedVariables false
set_option linter.unusedSimpArgs false
namespace Go.Am

theorem app_updA {at_ : Option Nat} {u by_ M : Nat} {m m' : Mem} {v v' x : Value} (h : aApp at_ u by_ m v x = some (v', m')) (ha : ∀ k, at_ = some k → M ≤ k) (hM : M ≤ m.next) :
    m.next ≤ m'.next ∧ (∀ b, b < M → b ∉ vb v → m'.blk b = m.blk b) ∧ (vb v' = vb v ∨ ∃ k, vb v' = [k] ∧ M ≤ k) := by
  have hpl : ∀ (m1 : Mem) (o : AObj), m1.next = m.next → m.next ≤ (place at_ m1 o).2.next ∧ (∀ b, b < M → (place at_ m1 o).2.blk b = m1.blk b) ∧ M ≤ (place at_ m1 o).1 := by
    intro m1 o h1
    unfold place
    split
    · refine ⟨by show m.next ≤ m1.next + 1; omega, fun b hb => ?_, by show M ≤ m1.next; omega⟩
      show (if b = m1.next then _ else _) = _
      rw [if_neg (by omega)]
    · rename_i k
      have := ha k rfl
      refine ⟨by show m.next ≤ m1.next; omega, fun b hb => ?_, this⟩
      show (if b = k then _ else _) = _
      rw [if_neg (by omega)]
  unfold aApp at h
  rw [Option.bind_eq_some_iff] at h
  obtain ⟨n, hn, h⟩ := h
  rw [Option.bind_eq_some_iff] at h
  obtain ⟨xs, hxs, h⟩ := h
  split at h
  · split at h
    · cases h; exact ⟨Nat.le_refl _, fun _ _ _ => rfl, .inl rfl⟩
    · split at h
      · obtain ⟨p1, p2, p3⟩ := hpl m (.cells xs (some u)) rfl
        generalize place at_ m (.cells xs (some u)) = P at h p1 p2 p3
        obtain ⟨b, m1⟩ := P
        cases h
        exact ⟨p1, fun b hb _ => p2 b hb, .inr ⟨_, rfl, p3⟩⟩
      · cases h
  · rename_i b o l c
    split at h
    · split at h
      · cases h; exact ⟨Nat.le_refl _, fun _ _ _ => rfl, .inl rfl⟩
      · cases h
    · split at h
      · rw [Option.map_eq_some_iff] at h
        obtain ⟨m1, h1, h2⟩ := h
        cases h2
        obtain ⟨a1, a2⟩ := aWrite_upd h1
        refine ⟨by omega, fun x hx hn => ?_, .inl rfl⟩
        exact a1.same x (by omega) hn
      · split at h
        · rename_i cs own hb
          split at h
          · have hs : ∀ c : Bool, (if c = true then m.set b none else m).next = m.next ∧ ∀ x, x ≠ b → (if c = true then m.set b none else m).blk x = m.blk x := by
              intro c
              cases c
              · exact ⟨rfl, fun _ _ => rfl⟩
              · refine ⟨rfl, fun x hx => ?_⟩
                show (if x = b then _ else _) = _
                rw [if_neg hx]
            simp only [] at h
            generalize hm1 : (if own.isSome = true ∧ o + c * u = cs.length then m.set b none else m) = m1 at h
            have hs1 : m1.next = m.next ∧ ∀ x, x ≠ b → m1.blk x = m.blk x := by
              rw [← hm1]
              split
              · exact hs true
              · exact hs false
            obtain ⟨p1, p2, p3⟩ := hpl m1 (.cells (List.take (l * u) (List.drop o cs) ++ xs) (some u)) hs1.1
            generalize place at_ m1 (.cells (List.take (l * u) (List.drop o cs) ++ xs) (some u)) = P at h p1 p2 p3
            obtain ⟨b', m2⟩ := P
            cases h
            refine ⟨p1, fun x hx hn => ?_, .inr ⟨_, rfl, p3⟩⟩
            rw [p2 x hx, hs1.2 x (by intro e; apply hn; simp [vb, e])]
          · cases h
        · cases h
  · cases h

theorem Own.ge {m0 m : Mem} {u n : Nat} {cs : List Value} {v : Value} (h : Own m0 m u n cs v) : ∀ b ∈ vb v, m0.next ≤ b := by
  cases h with
  | nil => intro b hb; simp [vb] at hb
  | «at» hb hb2 hn hm hl hcs h1 => intro b' hb'; simp [vb] at hb'; subst hb'; exact hb

structure OwnQ (m0 mb m : Mem) (q u n : Nat) (cs : List Value) (v : Value) : Prop where
  own : Own m0 m u n cs v
  upd : Upd mb m [q]
  at_ : ∀ b ∈ vb v, b = q ∨ mb.next ≤ b
  ext : Ext m0 m

variable {m0 mb m m' : Mem} {q u n : Nat} {cs : List Value} {v : Value}
theorem OwnQ.keep (h : OwnQ m0 mb m q u n cs v) (hx : Ext m m') : OwnQ m0 mb m' q u n cs v :=
  ⟨h.own.keep hx, h.upd.trans hx.upd (fun _ h => h) (fun _ h => .inl h), h.at_, h.ext.trans hx⟩

theorem OwnQ.app {by_ : Nat} {es : List Value} (h : OwnQ m0 mb m q u n cs v) (hu : 0 < u) (he : es.length = u) (h1 : oneCells es = true) (hby : (n + 1) * by_ ≤ 2 ^ 47) (hn : n + 1 < 2 ^ 62) :
    ∃ v' m', aApp none u by_ (m.new (.cells es (some u))) v (.slice (some ⟨m.next, 0, none⟩) 1 1) = some (v', m') ∧ OwnQ m0 mb m' q u (n + 1) (cs ++ es) v' := by
  obtain ⟨v', m', e1, e2, e3⟩ := h.own.app (by_ := by_) h.ext hu he h1 hby hn
  have hx : Ext m (m.new (.cells es (some u))) := Ext.new
  obtain ⟨a1, a2, a3⟩ := app_updA (M := (m.new (.cells es (some u))).next) e1 (fun k hk => by cases hk) (Nat.le_refl _)
  refine ⟨v', m', e1, e2, ?_, fun b hb => ?_, e3⟩
  · have hk := h.keep hx
    refine ⟨Nat.le_trans hk.upd.next a1, fun b hb hn => ?_⟩
    have hb2 := hk.upd.next
    rw [a2 b (by omega) (fun hm => by exact (h.at_ b hm).elim (fun e => hn (by simp [e])) (fun e => by omega)), hk.upd.same b hb hn]
  · have := h.upd.next
    have := hx.next
    rcases a3 with e | ⟨k, e, hk⟩
    · rw [e] at hb; exact h.at_ b hb
    · rw [e] at hb; simp at hb; subst hb; exact .inr (by omega)

theorem OwnQ.put {w : Value} {k : IntKind} {i o : Nat} (h : OwnQ m0 mb m q u n cs v) (hi : i < n) (ho : o < u) (hw : w.cells = #[w]) (hone : w.oneCell' = true) :
    ∃ b m', aIdxS u v (.int k i) = some (.pointer (some ⟨b, i * u, none⟩)) ∧ aStore 1 m (.pointer (some ⟨b, i * u + o, none⟩)) w = some m' ∧ OwnQ m0 mb m' q u n (cs.set (i * u + o) w) v := by
  obtain ⟨b, m', e1, e2, e3, e4⟩ := h.own.put (k := k) h.ext hi ho hw hone
  refine ⟨b, m', e1, e2, e3, ?_, h.at_, e4⟩
  have hbv : b ∈ vb v := by
    cases h.own with
    | nil h hc => omega
    | @«at» b2 c all hb hb2 hn hm hl hcs h1 =>
      simp only [aIdxS] at e1
      split at e1
      · have e1 := Option.some.inj e1
        simp only [Value.pointer.injEq, Option.some.injEq, Addr.mk.injEq] at e1
        rw [← e1.1]; simp [vb]
      · cases e1
  have hw' : aWrite m b (i * u + o) w.cells.toList = some m' := by
    simp only [aStore] at e2
    split at e2
    · exact e2
    · cases e2
  obtain ⟨a1, a2⟩ := aWrite_upd hw'
  refine ⟨by have := h.upd.next; omega, fun x hx hn => ?_⟩
  have := h.upd.next
  rw [a1.same x (by omega) (by simp; intro e; subst e; exact (h.at_ x hbv).elim (fun e => hn (by simp [e])) (fun e => by omega)), h.upd.same x hx hn]
end Go.Am


/- OrderW over the table of shed (relayset.py). -/
set_option linter.unusedVariables false
set_option linter.unusedSimpArgs false
namespace Go.Am
variable {m : Mem}

theorem step1 {i : Nat} (h : i < 1000000) : IntKind.wrap .i64 ((i : Int) + 1) = ((i + 1 : Nat) : Int) := by rw [wrap_i64 (by omega) (by omega)]; rfl

theorem fixAdd {a b : Int} (ha : inR a) (hb : inR b) : WC R F.fixq_Add [.int .i64 a, .int .i64 b] m fun v m' => ((inR (a + b) ∧ v = .tuple #[.int .i64 (a + b), .int .i64 0]) ∨ (¬ inR (a + b) ∧ v = .tuple #[.int .i64 0, .int .i64 5])) ∧ m' = m := by
  refine WC.of R.fixq_Add rfl ?_
  have hw : (inR (a + b) ∧ IntKind.wrap .i64 (a + b) = a + b) ∨ (9223372036854775808 ≤ a + b ∧ IntKind.wrap .i64 (a + b) = a + b - 18446744073709551616) ∨ (a + b ≤ -9223372036854775809 ∧ IntKind.wrap .i64 (a + b) = a + b + 18446744073709551616) := by
    unfold inR at ha hb
    by_cases h1 : a + b ≤ 9223372036854775807
    · by_cases h2 : -9223372036854775808 ≤ a + b
      · exact .inl ⟨⟨h2, h1⟩, wrap_i64 h2 h1⟩
      · exact .inr (.inr ⟨by omega, wrap_lo (by omega) (by omega)⟩)
    · exact .inr (.inl ⟨by omega, wrap_hi (by omega) (by omega)⟩)
  generalize hc : IntKind.wrap .i64 (a + b) = c at hw
  unfold inR at *
  simp only [RC.fixq_Add, go_sem]
  have t1 : (true == false) = false := rfl
  have t2 : (false == true) = false := rfl
  have t3 : (true == true) = true := rfl
  have t4 : (false == false) = true := rfl
  by_cases h1 : 0 ≤ a <;> by_cases h2 : 0 ≤ b <;> by_cases h3 : 0 ≤ c <;> simp only [go_sem, hc, h1, h2, h3, decide_true, decide_false, t1, t2, t3, t4]
  all_goals rcases hw with ⟨hr, e⟩ | ⟨hr, e⟩ | ⟨hr, e⟩
  all_goals first
    | (exfalso; omega)
    | (refine .inl ⟨by omega, ?_⟩; rw [e])
    | (refine .inr ⟨by omega, ?_⟩; first | rfl | trivial)
    | (omega)
    | trace_state

theorem totO_drop {l : List Sp} {i : Nat} (hi : i < l.length) {n : Int} : totO n (l.drop i) = if inR (n + l[i].2) then totO (n + l[i].2) (l.drop (i + 1)) else none := by
  rw [List.drop_eq_getElem_cons hi]; rfl

theorem orTotal {l : List Sp} {v : Value} (hs : Sl m 2 l.length (l.flatMap spV) v) (hb : SlLt m v) (hl : l.length < 100000) (hr : ∀ w ∈ l, inR w.2) :
    WC R F.order_Total [v] m fun r m' => ((∃ n, totO 0 l = some n ∧ r = .tuple #[.int .i64 n, .int .i64 0]) ∨ (totO 0 l = none ∧ r = .tuple #[.int .i64 0, .int .i64 5])) ∧ Ext m m' := by
  refine WC.of R.order_Total rfl ?_
  simp only [RC.order_Total, go_sem, hs.len]
  refine WL.of (fun k e m' => ∃ (i : Nat) (n : Int), i ≤ l.length ∧ k = l.length - i ∧ e = [(4, .int .i64 n), (9, v), (10, .int .i64 l.length), (11, .int .i64 i)] ∧ inR n ∧ totO 0 l = totO n (l.drop i) ∧ Ext m m') l.length
    ⟨0, 0, by omega, by omega, by simp only [go_sem] <;> rfl, by unfold inR; omega, rfl, Ext.refl _⟩ ?_
  rintro _ _ m1 ⟨i, n, hi, rfl, rfl, hn, ht, hx⟩
  simp only [RB.order_Total_1, go_sem]
  refine gT.of (fun g1' => ?_) (fun g1' => ?_) <;> (have g1 := g1'; try simp only [decide_eq_true_eq, decide_eq_false_iff_not, beq_iff_eq, bne_iff_ne, beq_eq_false_iff_ne, ne_eq, Bool.not_eq_true', Bool.not_eq_false', bne_eq_false_iff_eq, Int.not_lt, Int.not_le] at g1)
  · have hil : i < l.length := by omega
    have s1 := step1 (show i < 1000000 by omega)
    obtain ⟨p, o, a1, a2, -, -⟩ := (hs.keep hb hx).elem spV_len (k := .i64) hil
    have hri := hr _ (List.getElem_mem hil)
    rw [totO_drop hil] at ht
    simp only [go_sem, g1', a1, a2]
    generalize l[i] = w at hri ht ⊢
    have hst : aStore 2 (m1.new (.cells [(.int .i64 0), (.int .i64 0)] (some 2))) (.pointer (some ⟨m1.next, 0, none⟩)) (.agg (spV w).toArray) = some (m1.new (.cells [.int .i64 w.1, .int .i64 w.2] (some 2))) := by
      simp only [spV]
      simp only [go_sem, ruB]
    simp only [go_sem, hst]
    have hxx : Ext m1 (m1.new (.cells [.int .i64 w.1, .int .i64 w.2] (some 2))) := Ext.new
    have hbx : Bk (m1.new (.cells [.int .i64 w.1, .int .i64 w.2] (some 2))) m1.next [.int .i64 w.1, .int .i64 w.2] 2 := Bk.new
    generalize m1.new (.cells [.int .i64 w.1, .int .i64 w.2] (some 2)) = m2 at hbx hxx ⊢
    have c2 : aLoad false 1 m2 (.pointer (some ⟨m1.next, 1, none⟩)) = some (.int .i64 w.2) := by simp only [go_sem, ruB, hbx.at_]
    simp only [go_sem, c2]
    refine gC.of (fixAdd hn hri) ?_
    rintro _ _ ⟨⟨h1, rfl⟩ | ⟨h1, rfl⟩, hm⟩ <;> subst hm
    · rw [if_pos h1] at ht
      have e0 : ((0 : Int) != 0) = false := rfl
      simp only [go_sem, aExt0, aExt1, e0, s1]
      exact ⟨l.length - (i + 1), by omega, i + 1, n + w.2, by omega, rfl, rfl, h1, ht, hx.trans hxx⟩
    · rw [if_neg h1] at ht
      have e0 : ((5 : Int) != 0) = true := rfl
      simp only [go_sem, aExt0, aExt1, e0]
      exact ⟨.inr ht, hx.trans hxx⟩
  · have : i = l.length := by omega
    subst this
    rw [List.drop_length] at ht
    simp only [go_sem, g1']
    exact ⟨.inl ⟨n, ht, rfl⟩, hx⟩
end Go.Am


/- Maps whose keys are whole numbers. -/
set_option linter.unusedVariables false
namespace Go.Am
variable {α : Type}

def mpL (e : α → Value) (L : List (Int × α)) : List (Value × Value) := L.map fun p => (.int .i64 p.1, e p.2)
def lkp : List (Int × α) → Int → Option α
  | [], _ => none
  | (k, a) :: r, x => if k = x then some a else lkp r x
def updL : List (Int × α) → Int → α → List (Int × α)
  | [], x, a => [(x, a)]
  | (k, b) :: r, x, a => if k = x then (x, a) :: r else (k, b) :: updL r x a
def delL : List (Int × α) → Int → List (Int × α)
  | [], _ => []
  | (k, b) :: r, x => if k = x then r else (k, b) :: delL r x

theorem lkp_upd {L : List (Int × α)} {x y : Int} {a : α} : lkp (updL L x a) y = if y = x then some a else lkp L y := by
  induction L with
  | nil => simp only [updL, lkp]; by_cases h : x = y <;> simp [h]; intro e; exact absurd e.symm h
  | cons p r ih =>
    obtain ⟨k, b⟩ := p
    simp only [updL]
    by_cases h : k = x
    · subst h
      simp only [if_true, lkp]
      by_cases g : k = y
      · subst g; simp
      · rw [if_neg g, if_neg (fun e => g e.symm), if_neg g]
    · simp only [h, if_false, lkp]
      by_cases g : k = y
      · subst g; rw [if_pos rfl, if_neg h, if_pos rfl]
      · rw [if_neg g, ih, if_neg g]

theorem findK_mp {e : α → Value} {x : Int} : ∀ (L : List (Int × α)) (i : Nat), (lkp L x = none → findK .int (.int .i64 x) (mpL e L) i = some none ∧ ∀ a, mpL e L ++ [(.int .i64 x, e a)] = mpL e (updL L x a)) ∧
    ∀ a, lkp L x = some a → ∃ j, findK .int (.int .i64 x) (mpL e L) i = some (some (i + j, e a)) ∧ (∀ b, (mpL e L).set j (.int .i64 x, e b) = mpL e (updL L x b)) ∧ (mpL e L).eraseIdx j = mpL e (delL L x)
  | [], i => ⟨fun _ => ⟨rfl, fun a => rfl⟩, fun a h => by simp [lkp] at h⟩
  | (k, b) :: r, i => by
    by_cases h : k = x
    · subst h
      refine ⟨fun h => by simp [lkp] at h, fun a ha => ?_⟩
      simp only [lkp, if_true, Option.some.injEq] at ha
      subst ha
      refine ⟨0, ?_, fun b => ?_, ?_⟩
      · simp [mpL, findK, keyEq]
      · simp [mpL, updL]
      · simp [mpL, delL]
    · have hk : keyEq .int (.int .i64 x) (.int .i64 k) = some false := by simp [keyEq]; exact fun e => h e.symm
      have hf : findK .int (.int .i64 x) (mpL e ((k, b) :: r)) i = findK .int (.int .i64 x) (mpL e r) (i + 1) := by
        show (match keyEq .int (.int .i64 x) (.int .i64 k) with | some true => _ | some false => _ | none => _) = _
        rw [hk]; rfl
      obtain ⟨h1, h2⟩ := findK_mp (e := e) r (i + 1)
      refine ⟨fun hn => ?_, fun a ha => ?_⟩
      · simp only [lkp, h, if_false] at hn
        obtain ⟨g1, g2⟩ := h1 hn
        refine ⟨by rw [hf, g1], fun a => ?_⟩
        simp only [updL, h, if_false]
        show (.int .i64 k, e b) :: (mpL e r ++ _) = _
        rw [g2]; rfl
      · simp only [lkp, h, if_false] at ha
        obtain ⟨j, g1, g2, g3⟩ := h2 a ha
        refine ⟨j + 1, by rw [hf, g1]; congr 3; omega, fun c => ?_, ?_⟩
        · simp only [updL, h, if_false]
          show (.int .i64 k, e b) :: ((mpL e r).set j _) = _
          rw [g2]; rfl
        · simp only [delL, h, if_false]
          show (.int .i64 k, e b) :: ((mpL e r).eraseIdx j) = _
          rw [g3]; rfl

/-- A map that is there. -/
structure Mp (m : Mem) (r : Nat) (e : α → Value) (L : List (Int × α)) : Prop where
  at_ : m.blk r = some (.map (mpL e L))
  lt : r < m.next
theorem Mp.new {m : Mem} {e : α → Value} : Mp (m.new (.map [])) m.next e [] := ⟨by simp [Mem.new, mpL], by simp [Mem.new]⟩
theorem Mp.keep {m m' : Mem} {r : Nat} {e : α → Value} {L : List (Int × α)} (h : Mp m r e L) (hx : Ext m m') : Mp m' r e L := ⟨by rw [hx.same _ h.lt]; exact h.at_, Nat.lt_of_lt_of_le h.lt hx.next⟩
theorem Mp.upd {m m' : Mem} {r : Nat} {e : α → Value} {L : List (Int × α)} {fp : List Nat} (h : Mp m r e L) (hx : Upd m m' fp) (hn : r ∉ fp) : Mp m' r e L := ⟨by rw [hx.same _ h.lt hn]; exact h.at_, Nat.lt_of_lt_of_le h.lt hx.next⟩
theorem Mp.other {m : Mem} {r b : Nat} {e : α → Value} {L : List (Int × α)} {o : Option AObj} (h : Mp m r e L) (hn : r ≠ b) : Mp (m.set b o) r e L := ⟨by simp [Mem.set, hn]; exact h.at_, h.lt⟩
theorem Mp.self {m : Mem} {r : Nat} {e : α → Value} {L L' : List (Int × α)} (h : Mp m r e L) : Mp (m.set r (some (.map (mpL e L')))) r e L' := ⟨by simp [Mem.set], h.lt⟩

theorem Mp.look {m : Mem} {r : Nat} {e : α → Value} {L : List (Int × α)} (h : Mp m r e L) {x : Int} {z : α} : aLook .int (e z) false m (.map (some r)) (.int .i64 x) = some (e ((lkp L x).getD z)) := by
  simp only [aLook, h.at_, Option.bind_some]
  obtain ⟨h1, h2⟩ := findK_mp (e := e) (x := x) L 0
  cases hl : lkp L x with
  | none => rw [(h1 hl).1]; rfl
  | some a =>
    obtain ⟨j, g, -⟩ := h2 a hl
    rw [g]; rfl
theorem Mp.look_ok {m : Mem} {r : Nat} {e : α → Value} {L : List (Int × α)} (h : Mp m r e L) {x : Int} {z : α} : aLook .int (e z) true m (.map (some r)) (.int .i64 x) = some (.tuple #[e ((lkp L x).getD z), .bool (lkp L x).isSome]) := by
  simp only [aLook, h.at_, Option.bind_some]
  obtain ⟨h1, h2⟩ := findK_mp (e := e) (x := x) L 0
  cases hl : lkp L x with
  | none => rw [(h1 hl).1]; rfl
  | some a =>
    obtain ⟨j, g, -⟩ := h2 a hl
    rw [g]; rfl
theorem Mp.put {m : Mem} {r : Nat} {e : α → Value} {L : List (Int × α)} (h : Mp m r e L) {x : Int} {a : α} : aUpd .int m (.map (some r)) (.int .i64 x) (e a) = some (m.set r (some (.map (mpL e (updL L x a))))) := by
  simp only [aUpd, h.at_]
  obtain ⟨h1, h2⟩ := findK_mp (e := e) (x := x) L 0
  cases hl : lkp L x with
  | none => rw [(h1 hl).1]; simp only [Option.map_some]; rw [(h1 hl).2]
  | some b =>
    obtain ⟨j, g, g2, -⟩ := h2 b hl
    rw [g]; simp only [Option.map_some, Nat.zero_add]; rw [g2]
theorem Mp.del {m : Mem} {r : Nat} {e : α → Value} {L : List (Int × α)} (h : Mp m r e L) {x : Int} : ∃ L', L' = (if (lkp L x).isSome then delL L x else L) ∧ ∃ m', aDel .int m (.map (some r)) (.int .i64 x) = some m' ∧ Mp m' r e L' ∧ Upd m m' [r] := by
  refine ⟨_, rfl, ?_⟩
  simp only [aDel, h.at_]
  obtain ⟨h1, h2⟩ := findK_mp (e := e) (x := x) L 0
  cases hl : lkp L x with
  | none => rw [(h1 hl).1]; exact ⟨m, rfl, h, Upd.refl _ _⟩
  | some b =>
    obtain ⟨j, g, -, g3⟩ := h2 b hl
    rw [g]; simp only [Option.map_some, Nat.zero_add]
    rw [g3]
    exact ⟨_, rfl, h.self, Upd.set (by simp)⟩

end Go.Am


/- OrderW2 over the table of shed (relayset.py). -/
set_option linter.unusedVariables false
set_option linter.unusedSimpArgs false
namespace Go.Am
open Classical
variable {m : Mem}

theorem chkF_drop {f : Int} {l : List Sp} {i : Nat} (hi : i < l.length) : chkF f (l.take i) (l.drop i) = if ¬ isU l[i].1 then 20 else if l[i].2 < 1 ∨ f < l[i].2 then 21 else if ∃ p ∈ l.take i, p.1 = l[i].1 then 11 else chkF f (l.take (i + 1)) (l.drop (i + 1)) := by
  rw [List.drop_eq_getElem_cons hi, List.take_succ_eq_append_getElem hi]
  rfl

noncomputable def chkA (f : Int) (l : List Sp) : Int := if f < 2 ∨ 64 < f then 1 else chkF f [] l

theorem refCheck1_loop {l : List Sp} {v : Value} {f : Int} {i : Nat} (hs : Sl m 2 l.length (l.flatMap spV) v) (hl : l.length < 100000) (hil : i < l.length) :
    WL R [0, 1, 5, 6] RB.ref08_Check_1 [(0, .int .i64 f), (1, v), (5, .int .i64 i), (6, .int .i64 0)] m fun x e' m' =>
      m' = m ∧ ((x = .exit 2 ∧ (∃ rest, e' = (0, .int .i64 f) :: (1, v) :: (5, .int .i64 i) :: rest) ∧ ¬ ∃ p ∈ l.take i, p.1 = l[i].1) ∨ (x = .ret ∧ Env.get e' 4 = some (.int .i64 11) ∧ ∃ p ∈ l.take i, p.1 = l[i].1)) := by
  refine WL.of (fun n e m' => ∃ k : Nat, k ≤ i ∧ n = i - k ∧ m' = m ∧ e = [(0, .int .i64 f), (1, v), (5, .int .i64 i), (6, .int .i64 k)] ∧ ¬ ∃ p ∈ l.take k, p.1 = l[i].1) i
    ⟨0, by omega, by omega, rfl, by simp only [go_sem] <;> rfl, by simp⟩ ?_
  rintro _ _ _ ⟨k, hk, rfl, rfl, rfl, hno⟩
  simp only [RB.ref08_Check_1, go_sem]
  refine gT.of (fun g1' => ?_) (fun g1' => ?_) <;> (have g1 := g1'; try simp only [decide_eq_true_eq, decide_eq_false_iff_not, beq_iff_eq, bne_iff_ne, beq_eq_false_iff_ne, ne_eq, Bool.not_eq_true', Bool.not_eq_false', bne_eq_false_iff_eq, Int.not_lt, Int.not_le] at g1)
  · have hki : k < i := by omega
    have hkl : k < l.length := by omega
    have s1 := step1 (show k < 1000000 by omega)
    obtain ⟨p, o, a1, -, a3, -⟩ := hs.elem spV_len (k := .i64) hil
    have c1 : aLoad false 1 _ (.pointer (some ⟨p, o + 0, none⟩)) = some (.int .i64 l[i].1) := a3 0 (by omega)
    obtain ⟨p', o', b1, -, b3, -⟩ := hs.elem spV_len (k := .i64) hkl
    have d1 : aLoad false 1 _ (.pointer (some ⟨p', o' + 0, none⟩)) = some (.int .i64 l[k].1) := b3 0 (by omega)
    simp only [go_sem, g1', a1, b1, c1, d1]
    refine gT.of (fun g2' => ?_) (fun g2' => ?_) <;> (have g2 := g2'; try simp only [decide_eq_true_eq, decide_eq_false_iff_not, beq_iff_eq, bne_iff_ne, beq_eq_false_iff_ne, ne_eq, Bool.not_eq_true', Bool.not_eq_false', bne_eq_false_iff_eq, Int.not_lt, Int.not_le] at g2)
    · simp only [go_sem, g2']
      refine .inr ?_
      exact ⟨l[k], List.mem_take_iff_getElem.2 ⟨k, by omega, rfl⟩, g2⟩
    · simp only [go_sem, g2', s1]
      refine ⟨i - (k + 1), by omega, k + 1, by omega, rfl, rfl, ?_⟩
      rw [List.take_succ_eq_append_getElem hkl]
      rintro ⟨p, hp, e⟩
      rcases List.mem_append.1 hp with h | h
      · exact hno ⟨p, h, e⟩
      · rw [List.mem_singleton.1 h] at e; exact g2 e
  · have : k = i := by omega
    subst this
    simp only [go_sem, g1']
    exact .inl ⟨⟨_, rfl⟩, hno⟩

theorem refCheck {l : List Sp} {v : Value} {f : Int} (hs : Sl m 2 l.length (l.flatMap spV) v) (hl : l.length < 100000) :
    WC R F.ref08_Check [.int .i64 f, v] m fun r m' => r = .int .i64 (chkA f l) ∧ m' = m := by
  refine WC.of R.ref08_Check rfl ?_
  simp only [RC.ref08_Check, go_sem]
  by_cases h1 : f < 2
  · have e1 : decide (f < 2) = true := decide_eq_true h1
    simp only [go_sem, e1]
    rw [chkA, if_pos (.inl h1)]
  · have e1 : decide (f < 2) = false := decide_eq_false h1
    simp only [go_sem, e1]
    by_cases h2 : 64 < f
    · have e2 : decide (64 < f) = true := decide_eq_true h2
      simp only [go_sem, e2]
      rw [chkA, if_pos (.inr h2)]
    · have e2 : decide (64 < f) = false := decide_eq_false h2
      have hA : chkA f l = chkF f [] l := by rw [chkA, if_neg (by omega)]
      simp only [go_sem, e2]
      rw [hA]
      refine WL.of (fun n e m' => ∃ i : Nat, i ≤ l.length ∧ n = l.length - i ∧ m' = m ∧ e = [(0, .int .i64 f), (1, v), (5, .int .i64 i)] ∧ chkF f [] l = chkF f (l.take i) (l.drop i)) l.length
        ⟨0, by omega, by omega, rfl, by simp only [go_sem] <;> rfl, rfl⟩ ?_
      rintro _ _ _ ⟨i, hi, rfl, rfl, rfl, hc⟩
      simp only [RB.ref08_Check_2, go_sem, hs.len]
      refine gT.of (fun g1' => ?_) (fun g1' => ?_) <;> (have g1 := g1'; try simp only [decide_eq_true_eq, decide_eq_false_iff_not, beq_iff_eq, bne_iff_ne, beq_eq_false_iff_ne, ne_eq, Bool.not_eq_true', Bool.not_eq_false', bne_eq_false_iff_eq, Int.not_lt, Int.not_le] at g1)
      · have hil : i < l.length := by omega
        have s1 := step1 (show i < 1000000 by omega)
        obtain ⟨p, o, a1, -, a3, -⟩ := hs.elem spV_len (k := .i64) hil
        have c1 : aLoad false 1 _ (.pointer (some ⟨p, o + 0, none⟩)) = some (.int .i64 l[i].1) := a3 0 (by omega)
        have c2 : aLoad false 1 _ (.pointer (some ⟨p, o + 1, none⟩)) = some (.int .i64 l[i].2) := a3 1 (by omega)
        rw [chkF_drop hil] at hc
        simp only [go_sem, g1', a1, c1]
        refine gC.of Is_spec ?_
        rintro _ _ ⟨⟨rfl, hu⟩ | ⟨rfl, hu⟩, hm⟩ <;> subst hm
        · rw [if_neg (by simpa using hu)] at hc
          simp only [go_sem, a1, c2]
          by_cases h3 : l[i].2 < 1
          · have e3 : decide (l[i].2 < 1) = true := decide_eq_true h3
            rw [if_pos (.inl h3)] at hc
            simp only [go_sem, e3]
            rw [hc]
          · have e3 : decide (l[i].2 < 1) = false := decide_eq_false h3
            simp only [go_sem, e3, a1, c2]
            by_cases h4 : f < l[i].2
            · have e4 : decide (f < l[i].2) = true := decide_eq_true h4
              rw [if_pos (.inr h4)] at hc
              simp only [go_sem, e4]
              rw [hc]
            · have e4 : decide (f < l[i].2) = false := decide_eq_false h4
              rw [if_neg (by omega)] at hc
              simp only [go_sem, e4]
              refine WL.mono (refCheck1_loop (f := f) hs hl hil) ?_
              rintro x e' m' ⟨rfl, ⟨rfl, ⟨rest, rfl⟩, hno⟩ | ⟨rfl, h4, hyes⟩⟩
              · rw [if_neg hno] at hc
                simp only [go_sem, s1]
                exact ⟨l.length - (i + 1), by omega, i + 1, by omega, rfl, rfl, hc⟩
              · rw [if_pos hyes] at hc
                simp only [go_sem, h4]
                rw [hc]
        · rw [if_pos hu] at hc
          simp only [go_sem]
          rw [hc]
      · have : i = l.length := by omega
        subst this
        rw [List.drop_length] at hc
        simp only [go_sem, g1']
        rw [hc]; rfl

theorem st0 {M : Mem} : aStore 0 (M.new (.cells [] (some 0))) (.pointer (some ⟨M.next, 0, none⟩)) (.agg #[]) = some (M.new (.cells [] (some 0))) := by
  have e : (#[] : Array Value) = [].toArray := rfl
  rw [e]
  simp only [go_sem, ruB]
def vU (_ : Unit) : Value := .agg #[]

set_option maxHeartbeats 2000000 in
theorem orCheck {l : List Sp} {v : Value} {f : Int} (hs : Sl m 2 l.length (l.flatMap spV) v) (hb : SlLt m v) (hl : l.length < 100000) :
    WC R F.order_Check [.int .i64 f, v] m fun r m' => r = .int .i64 (chkA f l) ∧ Ext m m' := by
  refine WC.of R.order_Check rfl ?_
  simp only [RC.order_Check, go_sem]
  by_cases h1 : f < 2
  · have e1 : decide (f < 2) = true := decide_eq_true h1
    simp only [go_sem, e1]
    rw [chkA, if_pos (.inl h1)]
    exact ⟨rfl, Ext.refl _⟩
  · have e1 : decide (f < 2) = false := decide_eq_false h1
    simp only [go_sem, e1]
    by_cases h2 : 64 < f
    · have e2 : decide (64 < f) = true := decide_eq_true h2
      simp only [go_sem, e2]
      rw [chkA, if_pos (.inr h2)]
      exact ⟨rfl, Ext.refl _⟩
    · have e2 : decide (64 < f) = false := decide_eq_false h2
      have hA : chkA f l = chkF f [] l := by rw [chkA, if_neg (by omega)]
      simp only [go_sem, e2, hs.len]
      rw [hA]
      have hx1 : Ext m (m.new (.map [])) := Ext.new
      have hM1 : Mp (m.new (.map [])) m.next vU [] := Mp.new
      have hn1 : (m.new (.map [])).next = m.next + 1 := rfl
      generalize m.new (.map []) = m1 at hx1 hM1 hn1 ⊢
      refine WL.of (fun n e m' => ∃ (i : Nat) (L : List (Int × Unit)), i ≤ l.length ∧ n = l.length - i ∧ e = [(0, .int .i64 f), (5, .map (some m.next)), (20, v), (21, .int .i64 l.length), (22, .int .i64 i)] ∧ chkF f [] l = chkF f (l.take i) (l.drop i) ∧
          Mp m' m.next vU L ∧ (∀ u, (lkp L u).isSome = decide (∃ p ∈ l.take i, p.1 = u)) ∧ Ext m m') l.length
        ⟨0, [], by omega, by omega, by simp only [go_sem] <;> rfl, rfl, hM1, fun u => by simp [lkp], hx1⟩ ?_
      rintro _ _ m2 ⟨i, L, hi, rfl, rfl, hc, hM, hL, hx⟩
      simp only [RB.order_Check_1, go_sem]
      refine gT.of (fun g1' => ?_) (fun g1' => ?_) <;> (have g1 := g1'; try simp only [decide_eq_true_eq, decide_eq_false_iff_not, beq_iff_eq, bne_iff_ne, beq_eq_false_iff_ne, ne_eq, Bool.not_eq_true', Bool.not_eq_false', bne_eq_false_iff_eq, Int.not_lt, Int.not_le] at g1)
      · have hil : i < l.length := by omega
        have s1 := step1 (show i < 1000000 by omega)
        obtain ⟨p, o, a1, a2, -, -⟩ := (hs.keep hb hx).elem spV_len (k := .i64) hil
        rw [chkF_drop hil] at hc
        have htk : l.take (i + 1) = l.take i ++ [l[i]] := List.take_succ_eq_append_getElem hil
        simp only [go_sem, g1', a1, a2]
        generalize l[i] = w at hc htk ⊢
        have hst : aStore 2 (m2.new (.cells [(.int .i64 0), (.int .i64 0)] (some 2))) (.pointer (some ⟨m2.next, 0, none⟩)) (.agg (spV w).toArray) = some (m2.new (.cells [.int .i64 w.1, .int .i64 w.2] (some 2))) := by
          simp only [spV]
          simp only [go_sem, ruB]
        simp only [go_sem, hst]
        have hxx : Ext m2 (m2.new (.cells [.int .i64 w.1, .int .i64 w.2] (some 2))) := Ext.new
        have hbx : Bk (m2.new (.cells [.int .i64 w.1, .int .i64 w.2] (some 2))) m2.next [.int .i64 w.1, .int .i64 w.2] 2 := Bk.new
        have hqm : m2.next ≠ m.next := by have := hM.lt; omega
        have hM3 := hM.keep hxx
        generalize m2.new (.cells [.int .i64 w.1, .int .i64 w.2] (some 2)) = m3 at hbx hxx hM3 ⊢
        have c1 : aLoad false 1 m3 (.pointer (some ⟨m2.next, 0, none⟩)) = some (.int .i64 w.1) := by simp only [go_sem, ruB, hbx.at_]
        have c2 : aLoad false 1 m3 (.pointer (some ⟨m2.next, 1, none⟩)) = some (.int .i64 w.2) := by simp only [go_sem, ruB, hbx.at_]
        have hx3 := hx.trans hxx
        simp only [go_sem, c1]
        refine gC.of Kind_spec ?_
        rintro _ _ ⟨⟨hu, rfl⟩ | ⟨hu, rfl⟩, hm⟩ <;> subst hm
        · rw [if_neg (by simpa using hu)] at hc
          simp only [go_sem, aExt0, aExt1, aExt2, c2]
          by_cases h3 : w.2 < 1
          · have e3 : decide (w.2 < 1) = true := decide_eq_true h3
            rw [if_pos (.inl h3)] at hc
            simp only [go_sem, e3]
            rw [hc]; exact ⟨rfl, hx3⟩
          · have e3 : decide (w.2 < 1) = false := decide_eq_false h3
            simp only [go_sem, e3, c2]
            by_cases h4 : f < w.2
            · have e4 : decide (f < w.2) = true := decide_eq_true h4
              rw [if_pos (.inr h4)] at hc
              simp only [go_sem, e4]
              rw [hc]; exact ⟨rfl, hx3⟩
            · have e4 : decide (f < w.2) = false := decide_eq_false h4
              rw [if_neg (by omega)] at hc
              have lk := hM3.look_ok (x := w.1) (z := ())
              simp only [vU] at lk
              simp only [go_sem, e4, c1, lk, aExt0, aExt1, st0]
              have hx4 := hx3.trans (Ext.new (m := _) (o := .cells [] (some 0)))
              have hM4 := hM3.keep (Ext.new (m := _) (o := .cells [] (some 0)))
              have hb4 := hbx.keep (Ext.new (m := _) (o := .cells [] (some 0)))
              generalize Mem.new _ (.cells [] (some 0)) = m4 at hx4 hM4 hb4 ⊢
              have hLu := hL w.1
              cases hlk : lkp L w.1 with
              | some _ =>
                rw [hlk] at hLu
                have hyes : ∃ p ∈ l.take i, p.1 = w.1 := of_decide_eq_true hLu.symm
                rw [if_pos hyes] at hc
                simp only [go_sem, Option.isSome_some]
                rw [hc]; exact ⟨rfl, hx4⟩
              | none =>
                rw [hlk] at hLu
                have hno : ¬ ∃ p ∈ l.take i, p.1 = w.1 := of_decide_eq_false hLu.symm
                rw [if_neg hno] at hc
                have c1' : aLoad false 1 m4 (.pointer (some ⟨m2.next, 0, none⟩)) = some (.int .i64 w.1) := by simp only [go_sem, ruB, hb4.at_]
                have pt := hM4.put (x := w.1) (a := ())
                simp only [vU] at pt
                simp only [go_sem, Option.isSome_none, c1', pt, s1]
                refine ⟨l.length - (i + 1), by omega, i + 1, updL L w.1 (), by omega, rfl, rfl, hc, hM4.self, fun u => ?_, hx4.set (Nat.le_refl _)⟩
                rw [lkp_upd, htk]
                by_cases e : u = w.1
                · subst e
                  simp
                · rw [if_neg e, hL]
                  rw [decide_eq_decide]
                  constructor
                  · rintro ⟨p, hp, h⟩; exact ⟨p, by simp [hp], h⟩
                  · rintro ⟨p, hp, h⟩
                    rcases List.mem_append.1 hp with h' | h'
                    · exact ⟨p, h', h⟩
                    · rw [List.mem_singleton.1 h'] at h; exact absurd h.symm e
        · rw [if_pos hu] at hc
          simp only [go_sem, aExt0, aExt1, aExt2]
          rw [hc]; exact ⟨rfl, hx3⟩
      · have : i = l.length := by omega
        subst this
        rw [List.drop_length] at hc
        simp only [go_sem, g1']
        rw [hc]; exact ⟨rfl, hx⟩
end Go.Am


/- Counting the bits of a word by halves, as math/bits does: what it comes to. -/
namespace Go.Am

/-- How many of the first n bits are set. -/
def popN : Nat → Nat → Nat
  | 0, _ => 0
  | n + 1, x => x % 2 + popN n (x / 2)

def rep (m : Nat) : Nat → Nat
  | 0 => 0
  | n + 1 => m + 256 * rep m n

def halves (s m n x : Nat) : Nat := ((x / 2 ^ s) &&& rep m n) + (x &&& rep m n)

/-- The third step: one sum, then the mask. -/
def thirds (n x : Nat) : Nat := (x / 16 + x) &&& rep 15 n

/-- The bytes of a number, each counted. -/
def counted : Nat → Nat → Nat
  | 0, _ => 0
  | n + 1, x => popN 8 (x % 256) + 256 * counted n (x / 256)

attribute [local irreducible] popN counted halves thirds rep

end Go.Am


/- Words as sets of numbers below 64: plain facts. -/
set_option linter.unusedVariables false
namespace Go.Am

theorem word_ext {x y : BitVec 64} (h : ∀ i, i < 64 → x.getLsbD i = y.getLsbD i) : x = y := BitVec.eq_of_getLsbD_eq fun i hi => h i hi

theorem one_bit {t i : Nat} (ht : t < 64) : (1#64 <<< t).getLsbD i = decide (i = t) := by
  rw [BitVec.getLsbD_shiftLeft]
  by_cases h : i = t
  · subst h; simp [ht]
  · by_cases h2 : i < t
    · simp [h, h2]
    · have : i - t ≠ 0 := by omega
      simp [h, this]

theorem shr_bit {x : BitVec 64} {t : Nat} : (x >>> t &&& 1#64) = (if x.getLsbD t then 1#64 else 0#64) := by
  refine word_ext fun i hi => ?_
  rw [BitVec.getLsbD_and, BitVec.getLsbD_ushiftRight]
  by_cases e : i = 0
  · subst e
    cases x.getLsbD t <;> simp
  · split <;> simp [e]

end Go.Am


/- Shed: the walks: which choice is better; sums. -/
set_option linter.unusedVariables false
set_option linter.unusedSimpArgs false
namespace Go.Am
variable {m : Mem}

theorem cmpNaN {a : Int} : WC R F.cmp_isNaN_int [.int .i64 a] m fun r m' => r = .bool false ∧ m' = m := by
  refine WC.of R.cmp_isNaN_int rfl ?_
  have e : (a != a) = false := bne_self_eq_false a
  simp only [RC.cmp_isNaN_int, go_sem, e]

def cmpI (a b : Int) : Int := if a < b then -1 else if b < a then 1 else 0
theorem cmpInt {a b : Int} : WC R F.cmp_Compare_int [.int .i64 a, .int .i64 b] m fun r m' => r = .int .i64 (cmpI a b) ∧ m' = m := by
  refine WC.of R.cmp_Compare_int rfl ?_
  simp only [RC.cmp_Compare_int, go_sem]
  refine gC.of cmpNaN ?_
  rintro _ m_ ⟨rfl, hm_⟩
  replace hm_ := hm_.symm
  subst hm_
  simp only [go_sem]
  refine gC.of cmpNaN ?_
  rintro _ m_ ⟨rfl, hm_⟩
  replace hm_ := hm_.symm
  subst hm_
  simp only [go_sem]
  by_cases h1 : a < b
  · have e : cmpI a b = -1 := by unfold cmpI; rw [if_pos h1]
    simp only [go_sem, decide_eq_true h1, e]
  · by_cases h2 : b < a
    · have e : cmpI a b = 1 := by unfold cmpI; rw [if_neg h1, if_pos h2]
      simp only [go_sem, decide_eq_false h1, decide_eq_true h2, e]
    · have e : cmpI a b = 0 := by unfold cmpI; rw [if_neg h1, if_neg h2]
      simp only [go_sem, decide_eq_false h1, decide_eq_false h2, e]

theorem cmpOr {a b : Int} {q : Nat} (hb : Bk m q [.int .i64 a, .int .i64 b] 1) : WC R F.cmp_Or_int [.slice (some ⟨q, 0, none⟩) 2 2] m fun r m' => r = .int .i64 (if a ≠ 0 then a else b) ∧ m' = m := by
  refine WC.of R.cmp_Or_int rfl ?_
  have l0 : aLoad false 1 m (.pointer (some ⟨q, 0, none⟩)) = some (.int .i64 a) := by simp only [go_sem, ruB, hb.at_]
  have l1 : aLoad false 1 m (.pointer (some ⟨q, 1, none⟩)) = some (.int .i64 b) := by simp only [go_sem, ruB, hb.at_]
  have hlen : aLen (.slice (some ⟨q, 0, none⟩) 2 2) = some (.int .i64 2) := rfl
  have i0 : aIdxS 1 (.slice (some ⟨q, 0, none⟩) 2 2) (.int .i64 0) = some (.pointer (some ⟨q, 0, none⟩)) := rfl
  have i1 : aIdxS 1 (.slice (some ⟨q, 0, none⟩) 2 2) (.int .i64 1) = some (.pointer (some ⟨q, 1, none⟩)) := rfl
  simp only [RC.cmp_Or_int, go_sem, hlen]
  refine WL.of (fun n e m' => ∃ i : Nat, i ≤ 2 ∧ n = 2 - i ∧ m' = m ∧ e = [(3, .int .i64 0), (6, .slice (some ⟨q, 0, none⟩) 2 2), (7, .int .i64 2), (8, .int .i64 i)] ∧ (0 < i → a = 0) ∧ (1 < i → b = 0)) 2
    ⟨0, by omega, by omega, rfl, by simp only [go_sem] <;> rfl, by omega, by omega⟩ ?_
  rintro _ _ m' ⟨i, hi, rfl, hm, rfl, ha, hb'⟩
  subst hm
  simp only [RB.cmp_Or_int_1, go_sem]
  have hi3 : i = 0 ∨ i = 1 ∨ i = 2 := by omega
  rcases hi3 with rfl | rfl | rfl
  · have w0 : IntKind.wrap .i64 (0 + 1) = 1 := rfl
    simp only [go_sem, i0, l0]
    by_cases h : a = 0
    · have e : (a != 0) = false := by rw [h]; rfl
      simp only [go_sem, e, w0]
      exact ⟨1, by omega, 1, by omega, rfl, rfl, fun _ => h, by omega⟩
    · have e : (a != 0) = true := by rw [bne_iff_ne]; exact h
      simp only [go_sem, e]
      rw [if_pos h]
  · have w0 : IntKind.wrap .i64 (1 + 1) = 2 := rfl
    have ha0 := ha (by omega)
    simp only [go_sem, i1, l1]
    by_cases h : b = 0
    · have e : (b != 0) = false := by rw [h]; rfl
      simp only [go_sem, e, w0]
      exact ⟨0, by omega, 2, by omega, rfl, rfl, fun _ => ha0, fun _ => h⟩
    · have e : (b != 0) = true := by rw [bne_iff_ne]; exact h
      simp only [go_sem, e]
      rw [if_neg (by simp [ha0])]
  · simp only [go_sem]
    rw [if_neg (by simp [ha (by omega)]), hb' (by omega)]
theorem cmpNaN64 {a : BitVec 64} : WC R F.cmp_isNaN_uint64 [u64 a] m fun r m' => r = .bool false ∧ m' = m := by
  refine WC.of R.cmp_isNaN_uint64 rfl ?_
  simp only [RC.cmp_isNaN_uint64, u64, go_sem]
theorem cmpU {a b : BitVec 64} : WC R F.cmp_Compare_uint64 [u64 a, u64 b] m fun r m' => r = .int .i64 (cmpI a.toNat b.toNat) ∧ m' = m := by
  refine WC.of R.cmp_Compare_uint64 rfl ?_
  simp only [RC.cmp_Compare_uint64, go_sem]
  refine gC.of cmpNaN64 ?_
  rintro _ m_ ⟨rfl, hm_⟩
  replace hm_ := hm_.symm
  subst hm_
  simp only [go_sem]
  refine gC.of cmpNaN64 ?_
  rintro _ m_ ⟨rfl, hm_⟩
  replace hm_ := hm_.symm
  subst hm_
  simp only [go_sem]
  simp only [u64, go_sem]
  by_cases h1 : a.toNat < b.toNat
  · have e : cmpI a.toNat b.toNat = -1 := by unfold cmpI; rw [if_pos (by omega)]
    simp only [go_sem, decide_eq_true h1, e]
  · by_cases h2 : b.toNat < a.toNat
    · have e : cmpI a.toNat b.toNat = 1 := by unfold cmpI; rw [if_neg (by omega), if_pos (by omega)]
      simp only [go_sem, decide_eq_false h1, decide_eq_true (show ((b.toNat : Nat) : Int) < a.toNat by omega), e]
    · have e : cmpI a.toNat b.toNat = 0 := by unfold cmpI; rw [if_neg (by omega), if_neg (by omega)]
      simp only [go_sem, decide_eq_false h1, decide_eq_false (show ¬ ((b.toNat : Nat) : Int) < a.toNat by omega), e]

theorem watch_nil {e : Env} {m m' : Mem} : watchOk e m m' [] = True := rfl
theorem watch_one {e : Env} {m m' : Mem} {x : Nat} {r : List Nat} : watchOk e m m' (x :: r) = ((match Env.get e x with | some v => (match blkOf v with | some b => m'.blk b = m.blk b | none => True) | none => False) ∧ watchOk e m m' r) := rfl
theorem blk_ptr {a : Addr} : blkOf (.pointer (some a)) = some a.block := rfl
/-- A choice as it lies. -/
def cV : Option (Nat → Bool) → List Value
  | none => [.bool false, .int .i64 0, u64 0#64]
  | some p => [.bool true, .int .i64 (cnM p 64 : Nat), u64 (BitVec.ofNat 64 (cdM p))]
theorem cV_len (o : Option (Nat → Bool)) : (cV o).length = 3 := by cases o <;> rfl
theorem cV_one (o : Option (Nat → Bool)) : oneCells (cV o) = true := by cases o <;> rfl
theorem cV_cells (o : Option (Nat → Bool)) : (Value.agg (cV o).toArray).cells = (cV o).toArray := by cases o <;> rfl
theorem cdM_lt {p : Nat → Bool} : cdM p < 2 ^ 64 := Zb_lt
theorem cd_nat {p : Nat → Bool} : (BitVec.ofNat 64 (cdM p)).toNat = cdM p := by rw [BitVec.toNat_ofNat, Nat.mod_eq_of_lt cdM_lt]
/-- Is it better than what is there? -/
def btO (q : Nat → Bool) : Option (Nat → Bool) → Prop
  | none => True
  | some p => btM 64 q p
noncomputable instance {q : Nat → Bool} {o : Option (Nat → Bool)} : Decidable (btO q o) := Classical.propDecidable _
theorem kfill_2i {a b : Int} : fillL [.int .i64 0, .int .i64 0] [(0, 1, .int .i64 a), (1, 1, .int .i64 b)] = some [.int .i64 a, .int .i64 b] := rfl
set_option maxHeartbeats 1000000 in
theorem better_spec {q : Nat → Bool} {o : Option (Nat → Bool)} : WC R F.shed_choice_better [.agg (cV (some q)).toArray, .agg (cV o).toArray] m fun r m' => r = .bool (decide (btO q o)) ∧ Ext m m' := by
  refine WC.of R.shed_choice_better rfl ?_
  cases o with
  | none =>
    have e : decide (btO q none) = true := decide_eq_true trivial
    simp only [RC.shed_choice_better, cV, go_sem]
    have hx1 : Ext m (m.new (.cells [.bool true, .int .i64 (cnM q 64 : Nat), u64 (BitVec.ofNat 64 (cdM q))] (some 3))) := Ext.new
    have hb1 : Bk (m.new (.cells [.bool true, .int .i64 (cnM q 64 : Nat), u64 (BitVec.ofNat 64 (cdM q))] (some 3))) m.next [.bool true, .int .i64 (cnM q 64 : Nat), u64 (BitVec.ofNat 64 (cdM q))] 3 := Bk.new
    generalize m.new (.cells [.bool true, .int .i64 (cnM q 64 : Nat), u64 (BitVec.ofNat 64 (cdM q))] (some 3)) = m1 at hx1 hb1 ⊢
    have hx2 : Ext m1 (m1.new (.cells [.bool false, .int .i64 0, u64 0#64] (some 3))) := Ext.new
    have hb2 : Bk (m1.new (.cells [.bool false, .int .i64 0, u64 0#64] (some 3))) m1.next [.bool false, .int .i64 0, u64 0#64] 3 := Bk.new
    generalize m1.new (.cells [.bool false, .int .i64 0, u64 0#64] (some 3)) = m2 at hx2 hb2 ⊢
    try simp only [go_sem, ruB, hb2.at_, e]
    exact hx1.trans hx2
  | some p =>
    simp only [RC.shed_choice_better, cV, go_sem]
    have hx1 : Ext m (m.new (.cells [.bool true, .int .i64 (cnM q 64 : Nat), u64 (BitVec.ofNat 64 (cdM q))] (some 3))) := Ext.new
    have hb1 : Bk (m.new (.cells [.bool true, .int .i64 (cnM q 64 : Nat), u64 (BitVec.ofNat 64 (cdM q))] (some 3))) m.next [.bool true, .int .i64 (cnM q 64 : Nat), u64 (BitVec.ofNat 64 (cdM q))] 3 := Bk.new
    generalize m.new (.cells [.bool true, .int .i64 (cnM q 64 : Nat), u64 (BitVec.ofNat 64 (cdM q))] (some 3)) = m1 at hx1 hb1 ⊢
    have n1 := hb1.ne
    have hx2 : Ext m1 (m1.new (.cells [.bool true, .int .i64 (cnM p 64 : Nat), u64 (BitVec.ofNat 64 (cdM p))] (some 3))) := Ext.new
    have hb2 : Bk (m1.new (.cells [.bool true, .int .i64 (cnM p 64 : Nat), u64 (BitVec.ofNat 64 (cdM p))] (some 3))) m1.next [.bool true, .int .i64 (cnM p 64 : Nat), u64 (BitVec.ofNat 64 (cdM p))] 3 := Bk.new
    generalize m1.new (.cells [.bool true, .int .i64 (cnM p 64 : Nat), u64 (BitVec.ofNat 64 (cdM p))] (some 3)) = m2 at hx2 hb2 ⊢
    have hb12 := hb1.keep hx2
    have n2 := hb2.ne
    have n12 := hb12.ne
    try simp only [go_sem, ruB, hb2.at_, hb12.at_]
    refine gC.of cmpInt ?_
    rintro _ m3 ⟨rfl, hm⟩
    replace hm := hm.symm
    subst hm
    try simp only [go_sem, ruB, hb2.at_, hb12.at_, watch_one, watch_nil, blk_ptr, n2, n12]
    refine gC.of cmpU ?_
    rintro _ m3 ⟨rfl, hm⟩
    replace hm := hm.symm
    subst hm
    rw [cd_nat, cd_nat]
    try simp only [go_sem, ruB, ↓kfill_2i]
    have hx3 : Ext m2 ((m2.bump 14).set (m2.next + 10) (some (.cells [.int .i64 (cmpI (cnM q 64 : Nat) (cnM p 64 : Nat)), .int .i64 (cmpI (cdM p : Nat) (cdM q : Nat))] (some 1)))) := Ext.bump.set (by omega)
    have hb3 : Bk ((m2.bump 14).set (m2.next + 10) (some (.cells [.int .i64 (cmpI (cnM q 64 : Nat) (cnM p 64 : Nat)), .int .i64 (cmpI (cdM p : Nat) (cdM q : Nat))] (some 1)))) (m2.next + 10) [.int .i64 (cmpI (cnM q 64 : Nat) (cnM p 64 : Nat)), .int .i64 (cmpI (cdM p : Nat) (cdM q : Nat))] 1 := ⟨by simp [Mem.set], by show m2.next + 10 < m2.next + 14; omega⟩
    generalize (m2.bump 14).set (m2.next + 10) (some (.cells [.int .i64 (cmpI (cnM q 64 : Nat) (cnM p 64 : Nat)), .int .i64 (cmpI (cdM p : Nat) (cdM q : Nat))] (some 1))) = m4 at hx3 hb3 ⊢
    refine gC.of (cmpOr hb3) ?_
    rintro _ m5 ⟨rfl, hm⟩
    replace hm := hm.symm
    subst hm
    have e : decide ((if cmpI (cnM q 64 : Nat) (cnM p 64 : Nat) ≠ 0 then cmpI (cnM q 64 : Nat) (cnM p 64 : Nat) else cmpI (cdM p : Nat) (cdM q : Nat)) < 0) = decide (btO q (some p)) := by
      rw [decide_eq_decide]
      show _ ↔ btM 64 q p
      unfold btM
      by_cases c1 : ((cnM q 64 : Nat) : Int) < (cnM p 64 : Nat)
      · have h1 : cmpI (cnM q 64 : Nat) (cnM p 64 : Nat) = -1 := by unfold cmpI; rw [if_pos c1]
        rw [h1, if_pos (by decide)]; omega
      · by_cases c2 : ((cnM p 64 : Nat) : Int) < (cnM q 64 : Nat)
        · have h1 : cmpI (cnM q 64 : Nat) (cnM p 64 : Nat) = 1 := by unfold cmpI; rw [if_neg c1, if_pos c2]
          rw [h1, if_pos (by decide)]; omega
        · have h1 : cmpI (cnM q 64 : Nat) (cnM p 64 : Nat) = 0 := by unfold cmpI; rw [if_neg c1, if_neg c2]
          rw [h1, if_neg (by simp)]
          unfold cmpI
          split
          · omega
          · split <;> omega
    try simp only [go_sem, ruB, e]
    exact (hx1.trans hx2).trans hx3
end Go.Am


/- Shed: sums. -/
set_option linter.unusedVariables false
set_option linter.unusedSimpArgs false
namespace Go.Am
open Classical
variable {m : Mem}

theorem flat_set {α : Type} {f : α → List Value} {u : Nat} (hf : ∀ a, (f a).length = u) {a : α} : ∀ {l : List α} {i : Nat}, i < l.length → (l.set i a).flatMap f = writeL (l.flatMap f) (i * u) (f a)
  | [], i, h => by simp at h
  | x :: r, 0, h => by
    unfold writeL
    simp [hf, List.set_cons_zero]
  | x :: r, i + 1, h => by
    have ih := @flat_set α f u hf a r i (by simpa using h)
    rw [List.set_cons_succ, List.flatMap_cons, ih, List.flatMap_cons]
    unfold writeL
    have e : (i + 1) * u = (f x).length + i * u := by rw [hf x, Nat.succ_mul]; omega
    rw [e, List.take_length_add_append, Nat.add_assoc, List.drop_length_add_append]
    simp
/-- An element of one's own row is written. -/
theorem Own.putEl {α : Type} {f : α → List Value} {u : Nat} (hf : ∀ a, (f a).length = u) (h1 : ∀ a, oneCells (f a) = true) (hc : ∀ a, (Value.agg (f a).toArray).cells = (f a).toArray) {m0 m : Mem} {l : List α} {v : Value} (h : Own m0 m u l.length (l.flatMap f) v) (hx : Ext m0 m) {k : IntKind} {i : Nat} (hi : i < l.length) (a : α) :
    ∃ b m', aIdxS u v (.int k i) = some (.pointer (some ⟨b, i * u, none⟩)) ∧ aStore u m (.pointer (some ⟨b, i * u, none⟩)) (.agg (f a).toArray) = some m' ∧ Own m0 m' u l.length ((l.set i a).flatMap f) v ∧ Ext m0 m' ∧ Upd m m' (vb v) := by
  have hlf : (l.flatMap f).length = l.length * u := h.sl.length
  cases h with
  | nil h hc => omega
  | @«at» b c all hb hb2 hn hm hl hcs h1' =>
    have hle : i * u + u ≤ l.length * u := by rw [← Nat.succ_mul]; exact Nat.mul_le_mul_right _ hi
    have hle2 : l.length * u ≤ c * u := Nat.mul_le_mul_right _ hn
    refine ⟨b, m.set b (some (.cells (writeL all (i * u) (f a)) (some u))), ?_, ?_, ?_, hx.set hb, Upd.set (by simp [vb])⟩
    · simp only [aIdxS]
      rw [if_pos (by omega), Int.toNat_natCast, Nat.zero_add]
    · simp only [aStore, hc]
      rw [if_pos (by simp [hf])]
      unfold aWrite
      rw [hm]
      simp only [List.toList_toArray]
      rw [if_pos ⟨by rw [hf]; omega, h1 a⟩]
    · have hw : (writeL all (i * u) (f a)).length = all.length := by
        unfold writeL; simp [hf]; omega
      refine .at (all := writeL all (i * u) (f a)) hb (by simpa [Mem.set] using hb2) hn (by simp [Mem.set]) (by rw [hw, hl]) ?_ ?_
      · rw [flat_set hf hi, ← hcs]
        unfold writeL
        rw [hf]
        simp only [List.take_append, List.length_append, List.length_take, hf, List.take_take, List.drop_take]
        have e1 : min (l.length * u) (i * u) = i * u := by omega
        have e2 : min (i * u) (l.length * u) = i * u := by omega
        have e3 : min (i * u) all.length = i * u := by omega
        simp only [e1, e2, e3]
        rw [List.take_of_length_le (l := f a) (by rw [hf]; omega)]
        trace_state
      · unfold oneCells
        rw [List.all_eq_true]
        intro x hx
        obtain ⟨y, -, hy⟩ := List.mem_flatMap.1 hx
        have := h1 y
        unfold oneCells at this
        exact List.all_eq_true.1 this x hy

theorem cn64 {p : Nat → Bool} {i : Nat} (h : Sup p i) (hi : i ≤ 64) : cnM p 64 = cnM p i := by
  have : ∀ k, cnM p (i + k) = cnM p i := fun k => by
    induction k with
    | zero => rfl
    | succ k ih => rw [← Nat.add_assoc, cnM_succ, ih, h _ (by omega)]; simp
  have := this (64 - i)
  rw [← this]; congr 1; omega
theorem cn64_add {p : Nat → Bool} {i : Nat} (h : Sup p i) (hi : i < 64) : cnM (addM p i) 64 = cnM p 64 + 1 := by
  rw [cn64 h.add (by omega), cn_add, cn64 h (by omega)]
theorem or_cd {p : Nat → Bool} {i : Nat} (h : Sup p i) (hi : i < 64) : BitVec.ofNat 64 (cdM p) ||| (1#64 <<< (63 - i)) = BitVec.ofNat 64 (cdM (addM p i)) := by
  refine word_ext fun b hb => ?_
  rw [BitVec.getLsbD_or, one_bit (by omega), BitVec.getLsbD_ofNat, BitVec.getLsbD_ofNat]
  unfold cdM
  rw [Zb_bit, Zb_bit]
  simp only [hb, decide_true, Bool.true_and, Nat.zero_add]
  unfold addM
  have e : 64 - 1 - b = i ↔ b = 63 - i := by omega
  by_cases g : b = 63 - i
  · rw [if_pos (e.2 g)]; simp [g]
  · rw [if_neg (fun k => g (e.1 k))]; simp [g]
noncomputable def stO (i : Nat) (old here : Option (Nat → Bool)) : Option (Nat → Bool) :=
  match old with
  | none => here
  | some p => if btO (addM p i) here then some (addM p i) else here
noncomputable def stepC (i sh : Nat) (B : Nat → Option (Nat → Bool)) (s : Nat) : Option (Nat → Bool) := if s < sh then B s else stO i (B (s - sh)) (B s)
def rowB (n : Nat) (B : Nat → Option (Nat → Bool)) : List (Option (Nat → Bool)) := (List.range n).map B
theorem rowB_len {n : Nat} {B : Nat → Option (Nat → Bool)} : (rowB n B).length = n := by simp [rowB]
theorem rowB_get {n : Nat} {B : Nat → Option (Nat → Bool)} {i : Nat} (h : i < (rowB n B).length) : (rowB n B)[i] = B i := by simp [rowB]
theorem rowB_set {n : Nat} {B : Nat → Option (Nat → Bool)} {i : Nat} {x : Option (Nat → Bool)} : (rowB n B).set i x = rowB n fun j => if j = i then x else B j := by
  refine List.ext_getElem (by simp [rowB]) fun j h1 h2 => ?_
  rw [List.getElem_set, rowB_get, rowB_get]
  by_cases e : i = j
  · rw [if_pos e, if_pos e.symm]
  · rw [if_neg e, if_neg (Ne.symm e)]
theorem rowB_congr {n : Nat} {B C : Nat → Option (Nat → Bool)} (h : ∀ j, j < n → B j = C j) : rowB n B = rowB n C := by
  unfold rowB; exact List.map_congr_left fun j hj => h j (by simpa using hj)

theorem kfill_c {a : Int} {x : BitVec 64} : fillL [.bool false, .int .i64 0, u64 0#64] [(0, 1, .bool true), (1, 1, .int .i64 a), (2, 1, u64 x)] = some [.bool true, .int .i64 a, u64 x] := rfl
theorem kone_c {a : Int} {x : BitVec 64} : oneCells [.bool true, .int .i64 a, u64 x] = true := rfl
set_option maxHeartbeats 4000000 in
theorem sums1_loop {m0 : Mem} {bv lv : Value} {all i ln b7 : Nat} {w : Sp} {B : Nat → Option (Nat → Bool)} (hO : Own m0 m 3 (rowB (all + 1) B).length ((rowB (all + 1) B).flatMap cV) bv) (hx : Ext m0 m) (hb : Bk m b7 [.int .i64 w.1, .int .i64 w.2] 2) (hb7 : b7 ∉ vb bv) (hw : 1 ≤ w.2 ∧ w.2 ≤ 64) (hi : i < 64) (hall : all ≤ 100000) (hwa : w.2.toNat ≤ all) (hB : ∀ s p, B s = some p → Sup p i) :
    WL R [1, 5, 6, 7, 8, 17, 18, 19] RB.shed_sums_1 [(1, .int .i64 (all : Nat)), (5, bv), (6, .int .i64 (i : Nat)), (7, .pointer (some ⟨b7, 0, none⟩)), (8, .int .i64 (all : Nat)), (17, lv), (18, .int .i64 (ln : Nat)), (19, .int .i64 (i : Nat))] m fun y e m' =>
      y = .exit 2 ∧ (∃ s rs, e = (1, .int .i64 (all : Nat)) :: (5, bv) :: (6, .int .i64 (i : Nat)) :: (7, .pointer (some ⟨b7, 0, none⟩)) :: (8, s) :: (17, lv) :: (18, .int .i64 (ln : Nat)) :: (19, .int .i64 (i : Nat)) :: rs) ∧ Own m0 m' 3 (rowB (all + 1) (stepC i w.2.toNat B)).length ((rowB (all + 1) (stepC i w.2.toNat B)).flatMap cV) bv ∧ Ext m0 m' := by
  refine WL.of (fun z e m' => ∃ c : Nat, c ≤ all ∧ w.2.toNat ≤ c + 1 ∧ z = c + 1 - w.2.toNat ∧ e = [(1, .int .i64 (all : Nat)), (5, bv), (6, .int .i64 (i : Nat)), (7, .pointer (some ⟨b7, 0, none⟩)), (8, .int .i64 (c : Nat)), (17, lv), (18, .int .i64 (ln : Nat)), (19, .int .i64 (i : Nat))] ∧
      Own m0 m' 3 (rowB (all + 1) fun s => if c < s then stepC i w.2.toNat B s else B s).length ((rowB (all + 1) fun s => if c < s then stepC i w.2.toNat B s else B s).flatMap cV) bv ∧ Ext m0 m' ∧ Bk m' b7 [.int .i64 w.1, .int .i64 w.2] 2) (all + 1 - w.2.toNat)
    ⟨all, Nat.le_refl _, by omega, rfl, by simp only [go_sem] <;> rfl, by rw [rowB_congr (C := B) fun j hj => if_neg (by omega)]; exact hO, hx, hb⟩ ?_
  rintro _ _ m1 ⟨c, hc, hc2, rfl, rfl, hO1, hx1, hb1⟩
  simp only [RB.shed_sums_1, go_sem]
  by_cases g : w.2 ≤ (c : Int)
  rotate_left
  · have e1 : decide (w.2 ≤ ((c : Nat) : Int)) = false := decide_eq_false g
    try simp only [go_sem, ruB, hb1.at_, e1]
    have e : rowB (all + 1) (stepC i w.2.toNat B) = rowB (all + 1) fun s => if c < s then stepC i w.2.toNat B s else B s := rowB_congr fun j hj => by
      by_cases k : c < j
      · rw [if_pos k]
      · rw [if_neg k]; unfold stepC; rw [if_pos (by omega)]
    rw [e]
    exact ⟨⟨_, _, rfl⟩, hO1, hx1⟩
  have e1 : decide (w.2 ≤ ((c : Nat) : Int)) = true := decide_eq_true g
  have w1 : IntKind.wrap .i64 (((c : Nat) : Int) - w.2) = ((c - w.2.toNat : Nat) : Int) := by rw [wrap_i64 (by omega) (by omega)]; omega
  have w2 : IntKind.wrap .i64 (((c : Nat) : Int) - 1) = ((c - 1 : Nat) : Int) := by rw [wrap_i64 (by omega) (by omega)]; omega
  have hlc : c < (rowB (all + 1) fun s => if c < s then stepC i w.2.toNat B s else B s).length := by rw [rowB_len]; omega
  have hlf : c - w.2.toNat < (rowB (all + 1) fun s => if c < s then stepC i w.2.toNat B s else B s).length := by omega
  obtain ⟨pb, po, a1, a2, -, -⟩ := hO1.sl.elem cV_len (k := .i64) hlf
  rw [rowB_get, if_neg (by omega)] at a2
  have keep1 : ∀ M, Own m0 M 3 (rowB (all + 1) fun s => if c < s then stepC i w.2.toNat B s else B s).length ((rowB (all + 1) fun s => if c < s then stepC i w.2.toNat B s else B s).flatMap cV) bv → stepC i w.2.toNat B c = B c → Own m0 M 3 (rowB (all + 1) fun s => if c - 1 < s then stepC i w.2.toNat B s else B s).length ((rowB (all + 1) fun s => if c - 1 < s then stepC i w.2.toNat B s else B s).flatMap cV) bv := fun M h hs => by
    have e : rowB (all + 1) (fun s => if c - 1 < s then stepC i w.2.toNat B s else B s) = rowB (all + 1) fun s => if c < s then stepC i w.2.toNat B s else B s := rowB_congr fun j hj => by
      by_cases k : c < j
      · rw [if_pos k, if_pos (by omega)]
      · by_cases k2 : j = c
        · subst k2; rw [if_neg k, if_pos (by omega), hs]
        · rw [if_neg k, if_neg (by omega)]
    rw [e]; exact h
  cases hf : B (c - w.2.toNat) with
  | none =>
    rw [hf] at a2
    simp only [cV] at a2
    have hs : stepC i w.2.toNat B c = B c := by unfold stepC; rw [if_neg (by omega), hf]; rfl
    have n1 := hb1.ne
    try simp only [go_sem, ruB, hb1.at_, e1, w1, a1, a2]
    have hx2 : Ext m1 (m1.new (.cells [.bool false, .int .i64 0, u64 0#64] (some 3))) := Ext.new
    have hb2 : Bk (m1.new (.cells [.bool false, .int .i64 0, u64 0#64] (some 3))) m1.next [.bool false, .int .i64 0, u64 0#64] 3 := Bk.new
    generalize m1.new (.cells [.bool false, .int .i64 0, u64 0#64] (some 3)) = m2 at hx2 hb2 ⊢
    have hb2' := hb1.keep hx2
    try simp only [go_sem, ruB, hb2.at_, w2]
    exact ⟨c - 1 + 1 - w.2.toNat, by omega, c - 1, by omega, by omega, rfl, rfl, keep1 _ (hO1.keep hx2) hs, hx1.trans hx2, hb2'⟩
  | some p =>
    rw [hf] at a2
    simp only [cV] at a2
    have hp := hB _ _ hf
    have n1 := hb1.ne
    have wi : IntKind.wrap .i64 (63 - ((i : Nat) : Int)) = ((63 - i : Nat) : Int) := by rw [wrap_i64 (by omega) (by omega)]; omega
    have wi0 : (0 : Int) ≤ ((63 - i : Nat) : Int) := by omega
    have cl : cnM p 64 ≤ 64 := cnM_le
    have wm : IntKind.wrap .i64 (((cnM p 64 : Nat) : Int) + 1) = ((cnM (addM p i) 64 : Nat) : Int) := by rw [wrap_i64 (by omega) (by omega), cn64_add hp hi]; rfl
    have oc := or_cd hp hi
    try simp only [go_sem, ruB, hb1.at_, e1, w1, a1, a2, wi, wi0, Int.toNat_natCast, wm, oc, ↓kfill_c, ↓kone_c]
    have hx2 : Ext m1 ((((m1.new (.cells [.bool true, .int .i64 ((cnM p 64 : Nat) : Int), u64 (BitVec.ofNat 64 (cdM p))] (some 3))).bump 12).set (m1.next + 1 + 10) (some (.cells [.bool false, .int .i64 0, u64 0#64] (some 3)))).set (m1.next + 1 + 10) (some (.cells [.bool true, .int .i64 ((cnM (addM p i) 64 : Nat) : Int), u64 (BitVec.ofNat 64 (cdM (addM p i)))] (some 3)))) := ((Ext.new.trans Ext.bump).set (by omega)).set (by omega)
    have hb2 : Bk ((((m1.new (.cells [.bool true, .int .i64 ((cnM p 64 : Nat) : Int), u64 (BitVec.ofNat 64 (cdM p))] (some 3))).bump 12).set (m1.next + 1 + 10) (some (.cells [.bool false, .int .i64 0, u64 0#64] (some 3)))).set (m1.next + 1 + 10) (some (.cells [.bool true, .int .i64 ((cnM (addM p i) 64 : Nat) : Int), u64 (BitVec.ofNat 64 (cdM (addM p i)))] (some 3)))) (m1.next + 1 + 10) [.bool true, .int .i64 ((cnM (addM p i) 64 : Nat) : Int), u64 (BitVec.ofNat 64 (cdM (addM p i)))] 3 := ⟨by simp [Mem.set], by show m1.next + 1 + 10 < m1.next + 1 + 12; omega⟩
    generalize (((m1.new (.cells [.bool true, .int .i64 ((cnM p 64 : Nat) : Int), u64 (BitVec.ofNat 64 (cdM p))] (some 3))).bump 12).set (m1.next + 1 + 10) (some (.cells [.bool false, .int .i64 0, u64 0#64] (some 3)))).set (m1.next + 1 + 10) (some (.cells [.bool true, .int .i64 ((cnM (addM p i) 64 : Nat) : Int), u64 (BitVec.ofNat 64 (cdM (addM p i)))] (some 3))) = m2 at hx2 hb2 ⊢
    have hO2 := hO1.keep hx2
    have hb12 := hb1.keep hx2
    obtain ⟨qb, qo, d1, d2, -, -⟩ := hO2.sl.elem cV_len (k := .i64) hlc
    rw [rowB_get, if_neg (by omega)] at d2
    try simp only [go_sem, ruB, hb2.at_, d1, d2]
    refine gC.of (better_spec (q := addM p i) (o := B c)) ?_
    rintro _ m3 ⟨rfl, hx3⟩
    have hO3 := hO2.keep hx3
    have hb13 := hb12.keep hx3
    have hb23 := hb2.keep hx3
    by_cases gb : btO (addM p i) (B c)
    · have e3 : decide (btO (addM p i) (B c)) = true := decide_eq_true gb
      have hs : stepC i w.2.toNat B c = some (addM p i) := by unfold stepC stO; rw [if_neg (by omega), hf]; simp only []; rw [if_pos gb]
      have hx03 := (hx1.trans hx2).trans hx3
      obtain ⟨sb, m4, s1, s2, s3, s4, s5⟩ := hO3.putEl cV_len cV_one cV_cells hx03 (k := .i64) hlc (some (addM p i))
      simp only [cV] at s2
      have n13 := hb13.ne
      try simp only [go_sem, ruB, e3, hb23.at_, s1, s2, w2]
      rw [rowB_set] at s3
      have hl0 : (rowB (all + 1) fun s => if c < s then stepC i w.2.toNat B s else B s).length = all + 1 := rowB_len
      rw [hl0] at s3
      have e : rowB (all + 1) (fun j => if j = c then some (addM p i) else if c < j then stepC i w.2.toNat B j else B j) = rowB (all + 1) fun s => if c - 1 < s then stepC i w.2.toNat B s else B s := rowB_congr fun j hj => by
        by_cases k : j = c
        · subst k; rw [if_pos rfl, if_pos (by omega), hs]
        · rw [if_neg k]
          by_cases k2 : c < j
          · rw [if_pos k2, if_pos (by omega)]
          · rw [if_neg k2, if_neg (by omega)]
      rw [e] at s3
      exact ⟨c - 1 + 1 - w.2.toNat, by omega, c - 1, by omega, by omega, rfl, rfl, by rw [rowB_len]; exact s3, s4, hb13.upd s5 hb7⟩
    · have e3 : decide (btO (addM p i) (B c)) = false := decide_eq_false gb
      have hs : stepC i w.2.toNat B c = B c := by unfold stepC stO; rw [if_neg (by omega), hf]; simp only []; rw [if_neg gb]
      try simp only [go_sem, ruB, e3, w2]
      exact ⟨c - 1 + 1 - w.2.toNat, by omega, c - 1, by omega, by omega, rfl, rfl, keep1 _ hO3 hs, (hx1.trans hx2).trans hx3, hb13⟩

theorem sm_max {a : Nat → Nat} {p : Nat → Bool} : ∀ {i j : Nat}, j < i → p j = true → a j ≤ smM a p i
  | 0, j, h, _ => by omega
  | i + 1, j, h, hp => by
    rw [smM_succ]
    by_cases e : j = i
    · subst e; rw [if_pos hp]; omega
    · have := @sm_max a p i j (by omega) hp; omega
theorem btO_eq {i : Nat} {p h : Nat → Bool} (hp : Sup p i) (hh : Sup h i) (hi : i < 64) : btO (addM p i) (some h) ↔ btM (i + 1) (addM p i) h := by
  show btM 64 _ _ ↔ _
  unfold btM
  rw [cn64 hp.add (by omega), cn64 hh.up (by omega)]
theorem stO_eq {a : Nat → Nat} {i s t : Nat} {old here : Option (Nat → Bool)} (ho : BstM a i s old) (hh : BstM a i t here) (hi : i < 64) : stO i old here = stM a i t old here := by
  cases old with
  | none => cases here <;> rfl
  | some p =>
    cases here with
    | none => show (if btO (addM p i) none then _ else _) = _; rw [if_pos (show btO (addM p i) none from trivial)]; rfl
    | some h =>
      show (if btO (addM p i) (some h) then some (addM p i) else some h) = if btM (i + 1) (addM p i) h then some (addM p i) else some h
      by_cases g : btM (i + 1) (addM p i) h
      · rw [if_pos g, if_pos ((btO_eq ho.1 hh.1 hi).2 g)]
      · rw [if_neg g, if_neg (fun k => g ((btO_eq ho.1 hh.1 hi).1 k))]
theorem Bst_stepC {L : List Sp} {i : Nat} {B : Nat → Option (Nat → Bool)} (h : ∀ s, BstM (shA L) i s (B s)) (hi : i < 64) (s : Nat) : BstM (shA L) (i + 1) s (stepC i (shA L i) B s) := by
  unfold stepC
  by_cases g : s < shA L i
  · rw [if_pos g]; exact (Bst_step hi (h s)).1 g
  · rw [if_neg g, stO_eq (h _) (h s) hi]
    exact (Bst_step hi (h s)).2 _ (by omega) (h _)
theorem Bst_sup {a : Nat → Nat} {i : Nat} {B : Nat → Option (Nat → Bool)} (h : ∀ s, BstM a i s (B s)) : ∀ s p, B s = some p → Sup p i := fun s p e => by
  have := h s
  rw [e] at this
  exact this.1

set_option maxHeartbeats 4000000 in
theorem sums_spec {L : List Sp} {lv : Value} {all : Nat} (hs : Sl m 2 L.length (L.flatMap spV) lv) (hb : SlLt m lv) (hl : L.length ≤ 64) (hw : ∀ w ∈ L, 1 ≤ w.2 ∧ w.2 ≤ 64) (hall : all ≤ 100000) (hwa : ∀ w ∈ L, w.2.toNat ≤ all) :
    WC R F.shed_sums [lv, .int .i64 (all : Nat)] m fun r m' => ∃ B, Own m m' 3 (all + 1) ((rowB (all + 1) B).flatMap cV) r ∧ Ext m m' ∧ ∀ s, BstM (shA L) L.length s (B s) := by
  refine WC.of R.shed_sums rfl ?_
  have w1 : IntKind.wrap .i64 (((all : Nat) : Int) + 1) = ((all + 1 : Nat) : Int) := by rw [wrap_i64 (by omega) (by omega)]; rfl
  simp only [RC.shed_sums, go_sem, w1]
  refine Got.of (make_eq (n := all + 1) (by omega) (by omega) rfl rfl) ?_
  have z0 : zeros [.bool false, .int .i64 0, u64 0#64] (all + 1) = (rowB (all + 1) fun _ => none).flatMap cV := by
    unfold rowB
    rw [List.map_const', List.length_range]
    generalize all + 1 = n
    induction n with
    | zero => rfl
    | succ n ih => rw [List.replicate_succ, List.flatMap_cons, ← ih]; rfl
  rw [z0]
  have hx1 : Ext m (m.new (.cells ((rowB (all + 1) fun _ => none).flatMap cV) (some 3))) := Ext.new
  have hO1 : Own m (m.new (.cells ((rowB (all + 1) fun _ => none).flatMap cV) (some 3))) 3 (rowB (all + 1) fun _ => none).length ((rowB (all + 1) fun _ => none).flatMap cV) (.slice (some ⟨m.next, 0, none⟩) (all + 1) (all + 1)) := by
    rw [rowB_len]
    refine .at (all := (rowB (all + 1) fun _ => none).flatMap cV) (Nat.le_refl _) (by simp [Mem.new]) (Nat.le_refl _) (by simp [Mem.new]) (by rw [flat_len cV_len, rowB_len]) (List.take_of_length_le (by rw [flat_len cV_len, rowB_len]; omega)) ?_
    unfold oneCells
    rw [List.all_eq_true]
    intro x hx
    obtain ⟨y, -, hy⟩ := List.mem_flatMap.1 hx
    have := cV_one y
    unfold oneCells at this
    exact List.all_eq_true.1 this x hy
  have hmb : m.next ∈ vb (.slice (some ⟨m.next, 0, none⟩) (all + 1) (all + 1)) := by simp [vb]
  generalize m.new (.cells ((rowB (all + 1) fun _ => none).flatMap cV) (some 3)) = m1 at hx1 hO1 ⊢
  generalize hbv : (Value.slice (some ⟨m.next, 0, none⟩) (all + 1) (all + 1)) = bv at hO1 hmb ⊢
  obtain ⟨b0, m2, a1, a2, a3, a4, a5⟩ := hO1.putEl cV_len cV_one cV_cells hx1 (k := .i64) (i := 0) (by rw [rowB_len]; omega) (some fun _ => false)
  have cz : cV (some fun _ => false) = [.bool true, .int .i64 0, u64 0#64] := rfl
  rw [cz] at a2
  rw [rowB_set] at a3
  have a1' : aIdxS 3 bv (.int .i64 0) = some (.pointer (some ⟨b0, 0, none⟩)) := by rw [← Nat.zero_mul 3]; exact a1
  rw [Nat.zero_mul] at a2
  have hs2 := hs.keep hb a4
  try simp only [go_sem, ruB, a1', a2]
  have e0 : rowB (all + 1) (fun j => if j = 0 then some (fun _ => false) else none) = rowB (all + 1) fun s => if s = 0 then some (fun _ => false) else none := rfl
  rw [rowB_len] at a3
  have hbm : SlLt m1 bv := hO1.lt
  have hvb : ∀ x ∈ vb bv, x < m1.next := SlLt.vb_iff.1 hbm
  have hx12 := a5.next
  have hx02 := hx1.next
  try simp only [go_sem, ruB, hs2.len]
  refine WL.mono (WL.of (Q := fun y e m' => y = .exit 0 ∧ (∃ rs, e = (1, .int .i64 (all : Nat)) :: (5, bv) :: rs) ∧ ∃ B, Own m m' 3 (all + 1) ((rowB (all + 1) B).flatMap cV) bv ∧ Ext m m' ∧ ∀ s, BstM (shA L) L.length s (B s))
    (fun z e m' => ∃ (i : Nat) (B : Nat → Option (Nat → Bool)), i ≤ L.length ∧ z = L.length - i ∧ e = [(1, .int .i64 (all : Nat)), (5, bv), (17, lv), (18, .int .i64 (L.length : Nat)), (19, .int .i64 (i : Nat))] ∧ Own m m' 3 (all + 1) ((rowB (all + 1) B).flatMap cV) bv ∧ Ext m m' ∧ ∀ s, BstM (shA L) i s (B s)) L.length
    ⟨0, _, by omega, by omega, by simp only [go_sem] <;> rfl, a3, a4, fun s => Bst_zero⟩ ?_) ?_
  rotate_left
  · rintro _ _ m3 ⟨rfl, ⟨rs, rfl⟩, B, b1, b2, b3⟩
    try simp only [go_sem, ruB]
    exact ⟨B, b1, b2, b3⟩
  rintro _ _ m3 ⟨i, B, hi, rfl, rfl, hO, hx, hB⟩
  have hs3 := hs.keep hb hx
  simp only [RB.shed_sums_2, go_sem]
  have s1 := step1 (show i < 1000000 by omega)
  by_cases g : i < L.length
  rotate_left
  · have e1 : decide (((i : Nat) : Int) < ((L.length : Nat) : Int)) = false := decide_eq_false (by omega)
    have hil : i = L.length := by omega
    subst hil
    try simp only [go_sem, ruB, e1]
    exact ⟨⟨_, rfl⟩, B, hO, hx, hB⟩
  have e1 : decide (((i : Nat) : Int) < ((L.length : Nat) : Int)) = true := decide_eq_true (by omega)
  obtain ⟨pb, po, c1, c2, -, -⟩ := hs3.elem spV_len (k := .i64) g
  have hwi := hw _ (List.getElem_mem g)
  have hwai := hwa _ (List.getElem_mem g)
  simp only [spV] at c2
  try simp only [go_sem, ruB, e1, c1, c2]
  have hx4 : Ext m3 (m3.new (.cells [.int .i64 L[i].1, .int .i64 L[i].2] (some 2))) := Ext.new
  have hb4 : Bk (m3.new (.cells [.int .i64 L[i].1, .int .i64 L[i].2] (some 2))) m3.next [.int .i64 L[i].1, .int .i64 L[i].2] 2 := Bk.new
  have hn4 : (m3.new (.cells [.int .i64 L[i].1, .int .i64 L[i].2] (some 2))).next = m3.next + 1 := rfl
  generalize m3.new (.cells [.int .i64 L[i].1, .int .i64 L[i].2] (some 2)) = m4 at hx4 hb4 hn4 ⊢
  have hO4 := hO.keep hx4
  have hO4' : Own m m4 3 (rowB (all + 1) B).length ((rowB (all + 1) B).flatMap cV) bv := by rw [rowB_len]; exact hO4
  refine WL.mono (sums1_loop (w := L[i]) (lv := lv) (ln := L.length) hO4' (hx.trans hx4) hb4 (fun hm => by have := SlLt.vb_iff.1 hO.lt _ hm; omega) hwi (by omega) hall hwai (Bst_sup hB)) ?_
  rintro _ _ m5 ⟨rfl, ⟨sv, rs, rfl⟩, hO5, hx5⟩
  rw [rowB_len] at hO5
  have hsh : shA L i = L[i].2.toNat := sh_at g
  rw [← hsh] at hO5
  try simp only [go_sem, ruB, s1]
  exact ⟨L.length - (i + 1), by omega, i + 1, _, by omega, rfl, rfl, hO5, hx5, fun s => Bst_stepC hB (by omega) s⟩
end Go.Am


/- What a sort stands on: a row of elements in a block, a function that compares. -/
set_option linter.unusedVariables false
namespace Go.Am
open Go.Sort

structure SortC (R : Nat → Option FEnt) (α : Type) [Inhabited α] (u : Nat) where
  f : α → List Value
  len : ∀ a, (f a).length = u
  one : ∀ a, oneCells (f a) = true
  cf : α → α → Int
  g : Nat
  cmp : ∀ (m : Mem) (x y : α), WC R g [.agg (f x).toArray, .agg (f y).toArray] m fun r m' => r = .int .i64 (cf x y) ∧ Ext m m'
  b : Nat
  o : Nat
  n : Nat
  c : Nat
  pre : List Value
  post : List Value
  hpre : pre.length = o
  m0 : Mem
  small : n < 1000000

variable {R : Nat → Option FEnt} {α : Type} [Inhabited α] {u : Nat} {S : SortC R α u} {m m' : Mem} {d : Array α}

def SortC.sv (S : SortC R α u) : Value := .slice (some ⟨S.b, S.o, none⟩) S.n S.c
def SortC.lt (S : SortC R α u) (x y : α) : Bool := decide (S.cf x y < 0)
abbrev SortC.cv (S : SortC R α u) : Value := .func (.func S.g) #[] #[]

structure SortC.Row (S : SortC R α u) (m : Mem) (d : Array α) : Prop where
  at_ : m.blk S.b = some (.cells (S.pre ++ d.toList.flatMap S.f ++ S.post) (some u))
  lt : S.b < m.next
  size : d.size = S.n
  upd : Upd S.m0 m [S.b]

theorem SortC.Row.keep (h : S.Row m d) (hx : Ext m m') : S.Row m' d := ⟨by rw [hx.same _ h.lt]; exact h.at_, Nat.lt_of_lt_of_le h.lt hx.next, h.size, h.upd.trans (hx.upd (fp := [])) (fun _ h => h) (fun _ h => by simp at h)⟩

theorem SortC.ix (S : SortC R α u) {i : Nat} (hi : i < S.n) : aIdxS u S.sv (.int .i64 (i : Nat)) = some (.pointer (some ⟨S.b, S.o + i * u, none⟩)) := by
  simp only [SortC.sv, aIdxS]
  rw [if_pos (by omega), Int.toNat_natCast]

theorem SortC.Row.cut (h : S.Row m d) {i : Nat} (hi : i < S.n) : S.pre ++ d.toList.flatMap S.f ++ S.post = (S.pre ++ (d.toList.take i).flatMap S.f) ++ (S.f d[i]! ++ ((d.toList.drop (i + 1)).flatMap S.f ++ S.post)) ∧ (S.pre ++ (d.toList.take i).flatMap S.f).length = S.o + i * u := by
  have hs : i < d.toList.length := by rw [Array.length_toList, h.size]; exact hi
  have e : d.toList = d.toList.take i ++ d[i]! :: d.toList.drop (i + 1) := by
    conv => lhs; rw [← List.take_append_drop i d.toList, List.drop_eq_getElem_cons hs]
    congr 2
    rw [Array.getElem_toList, getElem!_pos d i (by simpa using hs)]
  constructor
  · conv => lhs; rw [e]
    simp only [List.flatMap_append, List.flatMap_cons, List.append_assoc]
  · rw [List.length_append, S.hpre, flat_len S.len, List.length_take]
    congr 2; omega

theorem SortC.Row.ld (h : S.Row m d) {i : Nat} (hi : i < S.n) : aLoad true u m (.pointer (some ⟨S.b, S.o + i * u, none⟩)) = some (.agg (S.f d[i]!).toArray) := by
  obtain ⟨e1, e2⟩ := h.cut hi
  refine load_agg ?_
  unfold aCells
  rw [h.at_, e1]
  simp only
  have hl := S.len d[i]!
  rw [if_pos (by simp only [List.length_append] at e2 ⊢; omega), ← e2, List.drop_left, List.take_left' hl]

theorem SortC.Row.st (h : S.Row m d) {i : Nat} (hi : i < S.n) (x : α) : ∃ m', aStore u m (.pointer (some ⟨S.b, S.o + i * u, none⟩)) (.agg (S.f x).toArray) = some m' ∧ S.Row m' (d.setIfInBounds i x) := by
  obtain ⟨e1, e2⟩ := h.cut hi
  have hl := S.len d[i]!
  have hx := S.len x
  have hs : i < d.toList.length := by rw [Array.length_toList, h.size]; exact hi
  have ew : writeL (S.pre ++ d.toList.flatMap S.f ++ S.post) (S.o + i * u) (S.f x) = S.pre ++ (d.setIfInBounds i x).toList.flatMap S.f ++ S.post := by
    rw [e1]
    unfold writeL
    rw [← e2, List.take_left, hx, ← List.drop_drop, List.drop_left, List.drop_left' hl]
    rw [Array.toList_setIfInBounds, List.set_eq_take_append_cons_drop, if_pos hs]
    simp only [List.flatMap_append, List.flatMap_cons, List.append_assoc]
  refine ⟨m.set S.b (some (.cells (S.pre ++ (d.setIfInBounds i x).toList.flatMap S.f ++ S.post) (some u))), ?_, ?_, h.lt, by simpa using h.size, h.upd.trans (Upd.set (fp := [S.b]) (by simp)) (fun _ h => h) (fun _ h => .inl h)⟩
  · simp only [aStore]
    rw [if_pos (show (Value.agg (S.f x).toArray).cells.size = u by show (S.f x).toArray.size = u; simpa using hx)]
    show aWrite m S.b _ (S.f x).toArray.toList = _
    rw [List.toList_toArray]
    unfold aWrite
    rw [h.at_]
    simp only
    rw [if_pos ⟨by rw [e1]; simp only [List.length_append] at e2 ⊢; omega, S.one x⟩, ew]
  · simp [Mem.set]

theorem SortC.Row.sw (h : S.Row m d) {i j : Nat} (hi : i < S.n) (hj : j < S.n) : ∃ m1 m2, aStore u m (.pointer (some ⟨S.b, S.o + i * u, none⟩)) (.agg (S.f d[j]!).toArray) = some m1 ∧
    aStore u m1 (.pointer (some ⟨S.b, S.o + j * u, none⟩)) (.agg (S.f d[i]!).toArray) = some m2 ∧ S.Row m2 (swp d i j) := by
  obtain ⟨m1, a1, h1⟩ := h.st hi d[j]!
  obtain ⟨m2, a2, h2⟩ := h1.st hj d[i]!
  exact ⟨m1, m2, a1, a2, h2⟩

theorem SortC.lt_t (S : SortC R α u) {x y : α} (h : S.cf x y < 0) : S.lt x y = true := by simp [SortC.lt, h]
theorem SortC.lt_f' (S : SortC R α u) {x y : α} (h : 0 ≤ S.cf x y) : S.lt x y = false := by simp [SortC.lt]; omega

/-! ### numbers -/
theorem nadd {i k : Nat} (h : i + k < 4000000) : IntKind.wrap .i64 ((i : Int) + (k : Nat)) = ((i + k : Nat) : Int) := by rw [wrap_i64 (by omega) (by omega)]; omega
theorem nadd1 {i : Nat} (h : i < 4000000) : IntKind.wrap .i64 ((i : Int) + 1) = ((i + 1 : Nat) : Int) := by rw [wrap_i64 (by omega) (by omega)]; omega
theorem nsub {i k : Nat} (h : k ≤ i) (h2 : i < 4000000) : IntKind.wrap .i64 ((i : Int) - (k : Nat)) = ((i - k : Nat) : Int) := by rw [wrap_i64 (by omega) (by omega)]; omega
theorem nsub1 {i : Nat} (h : 0 < i) (h2 : i < 4000000) : IntKind.wrap .i64 ((i : Int) - 1) = ((i - 1 : Nat) : Int) := by rw [wrap_i64 (by omega) (by omega)]; omega
end Go.Am


/- Sorting a row at api_Want (Shed): insertion, reversal, the pivot. Printed out of SortT1.tmpl by sortgen.py. -/
set_option linter.unusedVariables false
set_option linter.unusedSimpArgs false
namespace Go.Am
open Go.Sort
variable {α : Type} [Inhabited α] {S : SortC R α 2} {m : Mem} {d : Array α}

theorem so_ins1 {a j : Nat} {vb vi : Value} (h : S.Row m d) (hj : j < S.n) (ha : a < 2000000) :
    WL R [0, 1, 2, 3, 8, 9] RB.slices_insertionSortCmpFunc_api_Want_1 [(0, S.sv), (1, .int .i64 a), (2, vb), (3, S.cv), (8, vi), (9, .int .i64 j)] m fun x e m' =>
      x = .exit 2 ∧ (∃ q, e = [(0, S.sv), (1, .int .i64 a), (2, vb), (3, S.cv), (8, vi), (9, q), (34, .bool false)]) ∧ S.Row m' (insInner S.lt a j d) := by
  have hn := S.small
  refine WL.of (fun r e m' => ∃ (k : Nat) (d' : Array α), k < S.n ∧ r = k ∧ e = [(0, S.sv), (1, .int .i64 a), (2, vb), (3, S.cv), (8, vi), (9, .int .i64 k)] ∧ S.Row m' d' ∧ insInner S.lt a k d' = insInner S.lt a j d) j
    ⟨j, d, hj, rfl, by simp only [go_sem] <;> rfl, h, rfl⟩ ?_
  rintro n _ m1 ⟨k, d', hk, hr, rfl, h1, he⟩
  simp only [RB.slices_insertionSortCmpFunc_api_Want_1, go_sem]
  refine gT.of (fun g1' => ?_) (fun g1' => ?_) <;> (have g1 := g1'; try simp only [decide_eq_true_eq, decide_eq_false_iff_not, beq_iff_eq, bne_iff_ne, beq_eq_false_iff_ne, ne_eq, Bool.not_eq_true', Bool.not_eq_false', bne_eq_false_iff_eq, Int.not_lt, Int.not_le] at g1)
  · obtain ⟨k, rfl⟩ : ∃ k', k = k' + 1 := ⟨k - 1, by omega⟩
    have hk0 : k < S.n := by omega
    have e1 := nsub1 (i := k + 1) (by omega) (by omega)
    simp only [Nat.add_sub_cancel] at e1
    simp only [go_sem, g1', e1, S.ix hk, S.ix hk0, h1.ld hk, h1.ld hk0]
    refine gC.of (S.cmp m1 d'[k + 1]! d'[k]!) ?_
    rintro _ m2 ⟨rfl, hx2⟩
    simp only [go_sem]
    have h2 := h1.keep hx2
    refine gT.of (fun g2' => ?_) (fun g2' => ?_) <;> (have g2 := g2'; try simp only [decide_eq_true_eq, decide_eq_false_iff_not, beq_iff_eq, bne_iff_ne, beq_eq_false_iff_ne, ne_eq, Bool.not_eq_true', Bool.not_eq_false', bne_eq_false_iff_eq, Int.not_lt, Int.not_le] at g2)
    · obtain ⟨n1, n2, t1, t2, h3⟩ := h2.sw hk hk0
      simp only [go_sem, g2', e1, S.ix hk, S.ix hk0, h2.ld hk, h2.ld hk0, t1, t2]
      refine ⟨k, by omega, k, _, hk0, rfl, rfl, h3, ?_⟩
      rw [← he]
      simp only [insInner, S.lt_t g2]
      rw [if_pos (by simp; omega)]
    · simp only [go_sem, g2']
      rw [← he]
      simp only [insInner, S.lt_f' g2, Bool.and_false, Bool.false_eq_true, if_false]
      exact ⟨⟨_, rfl⟩, h1.keep hx2⟩
  · simp only [go_sem, g1']
    rw [← he]
    cases k with
    | zero => exact ⟨⟨_, rfl⟩, by simpa [insInner] using h1⟩
    | succ k =>
      simp only [insInner]
      rw [if_neg (by simp; omega)]
      exact ⟨⟨_, rfl⟩, h1⟩

theorem so_ins {a b : Nat} (h : S.Row m d) (hb : b ≤ S.n) (ha : a ≤ b) : WC R F.slices_insertionSortCmpFunc_api_Want [S.sv, .int .i64 a, .int .i64 b, S.cv] m fun r m' => S.Row m' (insertionSort S.lt d a b) := by
  refine WC.of R.slices_insertionSortCmpFunc_api_Want rfl ?_
  have hn := S.small
  simp only [RC.slices_insertionSortCmpFunc_api_Want, go_sem, nadd1 (show a < 4000000 by omega)]
  refine WL.of (fun r e m' => ∃ (k : Nat) (d' : Array α), r = b - k ∧ k ≤ b + 1 ∧ e = [(0, S.sv), (1, .int .i64 a), (2, .int .i64 b), (3, S.cv), (8, .int .i64 k)] ∧ S.Row m' d' ∧ insOuter S.lt a b k d' = insertionSort S.lt d a b) (b - (a + 1))
    ⟨a + 1, d, rfl, by omega, by simp only [go_sem] <;> rfl, h, rfl⟩ ?_
  rintro _ _ m1 ⟨k, d', rfl, hk, rfl, h1, he⟩
  simp only [RB.slices_insertionSortCmpFunc_api_Want_2, go_sem]
  refine gT.of (fun g1' => ?_) (fun g1' => ?_) <;> (have g1 := g1'; try simp only [decide_eq_true_eq, decide_eq_false_iff_not, beq_iff_eq, bne_iff_ne, beq_eq_false_iff_ne, ne_eq, Bool.not_eq_true', Bool.not_eq_false', bne_eq_false_iff_eq, Int.not_lt, Int.not_le] at g1)
  · simp only [go_sem, g1']
    refine WL.mono (so_ins1 h1 (show k < S.n by omega) (by omega)) ?_
    rintro _ _ m2 ⟨rfl, ⟨q, rfl⟩, h2⟩
    simp only [go_sem, nadd1 (show k < 4000000 by omega)]
    refine ⟨b - (k + 1), by omega, k + 1, _, rfl, by omega, rfl, h2, ?_⟩
    rw [← he]
    conv => rhs; rw [insOuter, if_pos (by omega)]
  · simp only [go_sem, g1']
    rw [← he, insOuter, if_neg (by omega)]
    exact h1

theorem so_rev {a b : Nat} {cv : Value} (h : S.Row m d) (hb : b ≤ S.n) (ha : a < b) : WC R F.slices_reverseRangeCmpFunc_api_Want [S.sv, .int .i64 a, .int .i64 b, cv] m fun r m' => S.Row m' (reverseRange d a b) := by
  refine WC.of R.slices_reverseRangeCmpFunc_api_Want rfl ?_
  have hn := S.small
  simp only [RC.slices_reverseRangeCmpFunc_api_Want, go_sem, nsub1 (show 0 < b by omega) (show b < 4000000 by omega)]
  refine WL.of (fun r e m' => ∃ (i j : Nat) (d' : Array α), r = j - i ∧ i < S.n ∧ j < S.n ∧ e = [(0, S.sv), (8, .int .i64 i), (9, .int .i64 j)] ∧ S.Row m' d' ∧ reverseLoop i j d' = reverseRange d a b) (b - 1 - a)
    ⟨a, b - 1, d, rfl, by omega, by omega, by simp only [go_sem] <;> rfl, h, rfl⟩ ?_
  rintro _ _ m1 ⟨i, j, d', rfl, hi, hj, rfl, h1, he⟩
  simp only [RB.slices_reverseRangeCmpFunc_api_Want_1, go_sem]
  refine gT.of (fun g1' => ?_) (fun g1' => ?_) <;> (have g1 := g1'; try simp only [decide_eq_true_eq, decide_eq_false_iff_not, beq_iff_eq, bne_iff_ne, beq_eq_false_iff_ne, ne_eq, Bool.not_eq_true', Bool.not_eq_false', bne_eq_false_iff_eq, Int.not_lt, Int.not_le] at g1)
  · obtain ⟨n1, n2, t1, t2, h3⟩ := h1.sw hi hj
    simp only [go_sem, g1', S.ix hi, S.ix hj, h1.ld hi, h1.ld hj, t1, t2, nadd1 (show i < 4000000 by omega), nsub1 (show 0 < j by omega) (show j < 4000000 by omega)]
    refine ⟨j - 1 - (i + 1), by omega, i + 1, j - 1, _, rfl, by omega, by omega, rfl, h3, ?_⟩
    rw [← he]
    conv => rhs; rw [reverseLoop, if_pos (by omega)]
  · simp only [go_sem, g1']
    rw [← he, reverseLoop, if_neg (by omega)]
    exact h1

/-- A counter in a block of its own. -/
structure so_Cnt (m : Mem) (q s : Nat) : Prop where
  at_ : m.blk q = some (.cells [.int .i64 s] (some 1))
  lt : q < m.next
theorem so_Cnt.keep {m m' : Mem} {q s : Nat} (h : so_Cnt m q s) (hx : Ext m m') : so_Cnt m' q s := ⟨by rw [hx.same _ h.lt]; exact h.at_, Nat.lt_of_lt_of_le h.lt hx.next⟩

theorem SortC.Row.so_other {m' : Mem} {q : Nat} (h : S.Row m d) (hx : Upd m m' [q]) (hq : S.b ≠ q) (h0 : S.m0.next ≤ q) : S.Row m' d :=
  ⟨by rw [hx.same _ h.lt (by simpa using hq)]; exact h.at_, Nat.lt_of_lt_of_le h.lt hx.next, h.size, h.upd.trans hx (fun _ h => h) (fun x hx => by simp at hx; subst hx; exact .inr h0)⟩

theorem so_order2 {a b s q : Nat} (h : S.Row m d) (hc : so_Cnt m q s) (hq : S.b ≠ q) (h0 : S.m0.next ≤ q) (ha : a < S.n) (hb : b < S.n) (hs : s < 1000) : WC R F.slices_order2CmpFunc_api_Want [S.sv, .int .i64 a, .int .i64 b, .pointer (some ⟨q, 0, none⟩), S.cv] m fun r m' =>
    r = .tuple #[.int .i64 (order2 S.lt d a b s).1, .int .i64 (order2 S.lt d a b s).2.1] ∧ S.Row m' d ∧ so_Cnt m' q (order2 S.lt d a b s).2.2 := by
  refine WC.of R.slices_order2CmpFunc_api_Want rfl ?_
  have hn := S.small
  simp only [RC.slices_order2CmpFunc_api_Want, go_sem, S.ix ha, S.ix hb, h.ld ha, h.ld hb]
  refine gC.of (S.cmp m d[b]! d[a]!) ?_
  rintro _ m2 ⟨rfl, hx2⟩
  simp only [go_sem]
  have h2 := h.keep hx2
  have hc2 := hc.keep hx2
  refine gT.of (fun g' => ?_) (fun g' => ?_) <;> (have g := g'; try simp only [decide_eq_true_eq, decide_eq_false_iff_not, beq_iff_eq, bne_iff_ne, beq_eq_false_iff_ne, ne_eq, Bool.not_eq_true', Bool.not_eq_false', bne_eq_false_iff_eq, Int.not_lt, Int.not_le] at g)
  · have ho : order2 S.lt d a b s = (b, a, s + 1) := by simp [order2, S.lt_t g]
    rw [ho]
    simp only [go_sem, ruB, g', hc2.at_, nadd1 (show s < 4000000 by omega)]
    have hu : Upd m2 (m2.set q (some (.cells [.int .i64 ((s + 1 : Nat) : Int)] (some 1)))) [q] := Upd.set (by simp)
    exact ⟨h2.so_other hu hq h0, ⟨by simp [Mem.set], hc2.lt⟩⟩
  · have ho : order2 S.lt d a b s = (a, b, s) := by simp [order2, S.lt_f' g]
    rw [ho]
    simp only [go_sem, ruB, g']
    exact ⟨h2, hc2⟩

theorem so_order2_lt {a b s : Nat} (ha : a < S.n) (hb : b < S.n) : (order2 S.lt d a b s).1 < S.n ∧ (order2 S.lt d a b s).2.1 < S.n ∧ (order2 S.lt d a b s).2.2 ≤ s + 1 := by
  unfold order2; split <;> simp <;> omega

theorem so_median {a b c s q : Nat} (h : S.Row m d) (hc : so_Cnt m q s) (hq : S.b ≠ q) (h0 : S.m0.next ≤ q) (ha : a < S.n) (hb : b < S.n) (hcc : c < S.n) (hs : s < 100) : WC R F.slices_medianCmpFunc_api_Want [S.sv, .int .i64 a, .int .i64 b, .int .i64 c, .pointer (some ⟨q, 0, none⟩), S.cv] m fun r m' =>
    r = .int .i64 (median S.lt d a b c s).1 ∧ S.Row m' d ∧ so_Cnt m' q (median S.lt d a b c s).2 ∧ (median S.lt d a b c s).1 < S.n ∧ (median S.lt d a b c s).2 ≤ s + 3 := by
  refine WC.of R.slices_medianCmpFunc_api_Want rfl ?_
  simp only [RC.slices_medianCmpFunc_api_Want, go_sem]
  obtain ⟨l1, l2, l3⟩ := so_order2_lt (S := S) (d := d) (s := s) ha hb
  refine gC.of (so_order2 h hc hq h0 ha hb (by omega)) ?_
  rintro _ m1 ⟨rfl, h1, hc1⟩
  obtain ⟨p1, p2, p3⟩ := so_order2_lt (S := S) (d := d) (s := (order2 S.lt d a b s).2.2) l2 hcc
  simp only [go_sem, aExt0, aExt1]
  refine gC.of (so_order2 h1 hc1 hq h0 l2 hcc (by omega)) ?_
  rintro _ m2 ⟨rfl, h2, hc2⟩
  obtain ⟨q1, q2, q3⟩ := so_order2_lt (S := S) (d := d) (s := (order2 S.lt d (order2 S.lt d a b s).2.1 c (order2 S.lt d a b s).2.2).2.2) l1 p1
  simp only [go_sem, aExt0, aExt1]
  refine gC.of (so_order2 h2 hc2 hq h0 l1 p1 (by omega)) ?_
  rintro _ m3 ⟨rfl, h3, hc3⟩
  simp only [go_sem, aExt0, aExt1]
  refine ⟨rfl, h3, hc3, q2, ?_⟩
  show _ ≤ _
  unfold median
  simp only
  omega

theorem so_medianAdj {a s q : Nat} (h : S.Row m d) (hc : so_Cnt m q s) (hq : S.b ≠ q) (h0 : S.m0.next ≤ q) (ha : 0 < a) (hb : a + 1 < S.n) (hs : s < 100) : WC R F.slices_medianAdjacentCmpFunc_api_Want [S.sv, .int .i64 a, .pointer (some ⟨q, 0, none⟩), S.cv] m fun r m' =>
    r = .int .i64 (medianAdjacent S.lt d a s).1 ∧ S.Row m' d ∧ so_Cnt m' q (medianAdjacent S.lt d a s).2 ∧ (medianAdjacent S.lt d a s).1 < S.n ∧ (medianAdjacent S.lt d a s).2 ≤ s + 3 := by
  refine WC.of R.slices_medianAdjacentCmpFunc_api_Want rfl ?_
  have hn := S.small
  simp only [RC.slices_medianAdjacentCmpFunc_api_Want, go_sem, nadd1 (show a < 4000000 by omega), nsub1 (show 0 < a by omega) (show a < 4000000 by omega)]
  refine gC.of (so_median h hc hq h0 (show a - 1 < S.n by omega) (show a < S.n by omega) hb hs) ?_
  rintro _ m1 ⟨rfl, h1, hc1, h2, h3⟩
  simp only [go_sem]
  exact ⟨rfl, h1, hc1, h2, h3⟩
end Go.Am


/- Numbers of a sort. -/
set_option linter.unusedVariables false
namespace Go.Am
open Go.Sort

def hintN : Hint → Int
  | .unknown => 0
  | .increasing => 1
  | .decreasing => 2

theorem nq (k : Nat) (hk : 0 < k) {l : Nat} (h : l < 4000000) : IntKind.wrap .i64 ((l : Int).tdiv (k : Nat)) = ((l / k : Nat) : Int) := by
  have e : (l : Int).tdiv (k : Nat) = ((l / k : Nat) : Int) := by
    rw [Int.tdiv_eq_ediv_of_nonneg (by omega)]; simp
  have : l / k ≤ l := Nat.div_le_self _ _
  rw [e]
  generalize l / k = q at this ⊢
  rw [wrap_i64 (by omega) (by omega)]
theorem nq2 {l : Nat} (h : l < 4000000) : IntKind.wrap .i64 ((l : Int).tdiv 2) = ((l / 2 : Nat) : Int) := nq 2 (by omega) h
theorem nq4 {l : Nat} (h : l < 4000000) : IntKind.wrap .i64 ((l : Int).tdiv 4) = ((l / 4 : Nat) : Int) := nq 4 (by omega) h
theorem nq8 {l : Nat} (h : l < 4000000) : IntKind.wrap .i64 ((l : Int).tdiv 8) = ((l / 8 : Nat) : Int) := nq 8 (by omega) h
theorem nm (k : Nat) {l : Nat} (h : l * k < 4000000) : IntKind.wrap .i64 ((l : Int) * (k : Nat)) = ((l * k : Nat) : Int) := by
  have e : (l : Int) * (k : Nat) = ((l * k : Nat) : Int) := by simp
  rw [e]
  generalize l * k = q at h ⊢
  rw [wrap_i64 (by omega) (by omega)]
theorem nm1 {l : Nat} (h : l < 1000000) : IntKind.wrap .i64 ((l : Int) * 1) = ((l * 1 : Nat) : Int) := nm 1 (by omega)
theorem nm2 {l : Nat} (h : l < 1000000) : IntKind.wrap .i64 ((l : Int) * 2) = ((l * 2 : Nat) : Int) := nm 2 (by omega)
theorem nm3 {l : Nat} (h : l < 1000000) : IntKind.wrap .i64 ((l : Int) * 3) = ((l * 3 : Nat) : Int) := nm 3 (by omega)
theorem nmm2 {l : Nat} (h : l < 1000000) : IntKind.wrap .i64 (2 * (l : Int)) = ((2 * l : Nat) : Int) := by
  have e : 2 * (l : Int) = ((2 * l : Nat) : Int) := by simp
  rw [e, wrap_i64 (by omega) (by omega)]

theorem aStore_next {sz : Nat} {m m' : Mem} {p v : Value} (h : aStore sz m p v = some m') : m'.next = m.next := by
  unfold aStore at h
  split at h
  · split at h
    · exact (aWrite_upd h).2
    · cases h
  · cases h
theorem aStore_keep {sz b o : Nat} {m m' : Mem} {v : Value} (h : aStore sz m (.pointer (some ⟨b, o, none⟩)) v = some m') : ∀ k, k ≠ b → m'.blk k = m.blk k := by
  intro k hk
  simp only [aStore] at h
  split at h
  · unfold aWrite at h
    split at h
    · split at h
      · cases h; simp [Mem.set, hk]
      · cases h
    · cases h
  · cases h
theorem partLoop_le {R : Nat → Option FEnt} {α : Type} [Inhabited α] {u : Nat} {S : SortC R α u} {a : Nat} : ∀ (n i j : Nat) (d : Array α), j + 1 - i ≤ n → (partLoop S.lt a i j d).1 ≤ j := by
  intro n
  induction n with
  | zero =>
    intro i j d hn
    rw [partLoop_eq]
    have w1 := scanDown_le (fun x => !S.lt x d[a]!) d (scanUp (fun x => S.lt x d[a]!) d j i) j
    have u1 := scanUp_ge (fun x => S.lt x d[a]!) d j i
    split
    · exact w1
    · omega
  | succ n ih =>
    intro i j d hn
    rw [partLoop_eq]
    have w1 := scanDown_le (fun x => !S.lt x d[a]!) d (scanUp (fun x => S.lt x d[a]!) d j i) j
    have u1 := scanUp_ge (fun x => S.lt x d[a]!) d j i
    split
    · exact w1
    · refine Nat.le_trans (ih _ _ _ (by omega)) (by omega)
theorem ne_of_scans {R : Nat → Option FEnt} {α : Type} [Inhabited α] {p q : α → Bool} {d : Array α} {i j : Nat} (hpq : ∀ x, q x = !p x) (h1 : 1 ≤ i) (hij : i ≤ j + 1) : scanUp p d j i ≠ scanDown q d (scanUp p d j i) j := by
  intro e
  have u1 := scanUp_spec p d j _ i rfl
  have w1 := scanDown_spec q d (scanUp p d j i) j
  rw [← e] at w1
  have a1 := u1.2.2.2 w1.1
  have a2 := w1.2.2.2 (Nat.le_refl _) (by omega)
  rw [hpq, a1] at a2
  simp at a2

section
variable {α : Type} [Inhabited α] {lt : α → α → Bool} {a : Nat}
theorem partLoop_rng : ∀ (n i j : Nat) (d : Array α), j + 1 - i ≤ n → 1 ≤ i → i ≤ j + 1 → i - 1 ≤ (partLoop lt a i j d).1 ∧ (partLoop lt a i j d).1 ≤ j := by
  intro n
  induction n with
  | zero =>
    intro i j d hn h1 h2
    rw [partLoop_eq]
    have w1 := scanDown_le (fun x => !lt x d[a]!) d (scanUp (fun x => lt x d[a]!) d j i) j
    have u1 := scanUp_ge (fun x => lt x d[a]!) d j i
    have u2 := (scanUp_spec (fun x => lt x d[a]!) d j _ i rfl).2.1 h2
    have w2 := (scanDown_spec (fun x => !lt x d[a]!) d (scanUp (fun x => lt x d[a]!) d j i) j).2.1 u2
    split
    · simp only; omega
    · omega
  | succ n ih =>
    intro i j d hn h1 h2
    rw [partLoop_eq]
    have w1 := scanDown_le (fun x => !lt x d[a]!) d (scanUp (fun x => lt x d[a]!) d j i) j
    have u1 := scanUp_ge (fun x => lt x d[a]!) d j i
    have u2 := (scanUp_spec (fun x => lt x d[a]!) d j _ i rfl).2.1 h2
    have w2 := (scanDown_spec (fun x => !lt x d[a]!) d (scanUp (fun x => lt x d[a]!) d j i) j).2.1 u2
    have hne := ne_of_scans (R := fun _ => none) (d := d) (p := fun x => lt x d[a]!) (q := fun x => !lt x d[a]!) (fun x => rfl) h1 h2
    split
    · simp only; omega
    · have := ih (scanUp (fun x => lt x d[a]!) d j i + 1) (scanDown (fun x => !lt x d[a]!) d (scanUp (fun x => lt x d[a]!) d j i) j - 1) (swp d (scanUp (fun x => lt x d[a]!) d j i) (scanDown (fun x => !lt x d[a]!) d (scanUp (fun x => lt x d[a]!) d j i) j)) (by omega) (by omega) (by omega)
      omega
theorem partEqLoop_rng : ∀ (n i j : Nat) (d : Array α), j + 1 - i ≤ n → 1 ≤ i → i ≤ j + 1 → i ≤ (partEqLoop lt a i j d).1 ∧ (partEqLoop lt a i j d).1 ≤ j + 1 := by
  intro n
  induction n with
  | zero =>
    intro i j d hn h1 h2
    rw [partEqLoop_eq]
    have w1 := scanDown_le (fun x => lt d[a]! x) d (scanUp (fun x => !lt d[a]! x) d j i) j
    have u1 := scanUp_ge (fun x => !lt d[a]! x) d j i
    have u2 := (scanUp_spec (fun x => !lt d[a]! x) d j _ i rfl).2.1 h2
    split
    · simp only; omega
    · omega
  | succ n ih =>
    intro i j d hn h1 h2
    rw [partEqLoop_eq]
    have w1 := scanDown_le (fun x => lt d[a]! x) d (scanUp (fun x => !lt d[a]! x) d j i) j
    have u1 := scanUp_ge (fun x => !lt d[a]! x) d j i
    have u2 := (scanUp_spec (fun x => !lt d[a]! x) d j _ i rfl).2.1 h2
    have hne := ne_of_scans (R := fun _ => none) (d := d) (p := fun x => !lt d[a]! x) (q := fun x => lt d[a]! x) (fun x => by simp) h1 h2
    split
    · simp only; omega
    · have := ih (scanUp (fun x => !lt d[a]! x) d j i + 1) (scanDown (fun x => lt d[a]! x) d (scanUp (fun x => !lt d[a]! x) d j i) j - 1) (swp d (scanUp (fun x => !lt d[a]! x) d j i) (scanDown (fun x => lt d[a]! x) d (scanUp (fun x => !lt d[a]! x) d j i) j)) (by omega) (by omega) (by omega)
      omega
theorem part_rng {d : Array α} {b p : Nat} (h : a < b) : a ≤ (partition lt d a b p).1 ∧ (partition lt d a b p).1 < b := by
  rw [partition_fst]
  have := partLoop_rng (lt := lt) (a := a) _ (a + 1) (b - 1) (swp d a p) (Nat.le_refl _) (by omega) (by omega)
  omega
theorem parte_rng {d : Array α} {b p : Nat} (h : a < b) : a < (partitionEqual lt d a b p).1 ∧ (partitionEqual lt d a b p).1 ≤ b := by
  unfold partitionEqual
  have := partEqLoop_rng (lt := lt) (a := a) _ (a + 1) (b - 1) (swp d a p) (Nat.le_refl _) (by omega) (by omega)
  omega
end

/-! ### bits.Len -/
theorem bitsLen_shr {n k : Nat} (h : 2 ^ k ≤ n) : bitsLen n = bitsLen (n / 2 ^ k) + k := by
  have hq : 0 < n / 2 ^ k := Nat.div_pos h (Nat.two_pow_pos k)
  have h1 := lt_two_pow_bitsLen (n / 2 ^ k)
  have h2 : bitsLen n ≤ bitsLen (n / 2 ^ k) + k := by
    rw [bitsLen_le_iff, Nat.pow_add]
    exact (Nat.div_lt_iff_lt_mul (Nat.two_pow_pos k)).1 h1
  have h3 : bitsLen (n / 2 ^ k) + k ≤ bitsLen n := by
    have a1 := lt_two_pow_bitsLen n
    have hk : k ≤ bitsLen n := by
      apply Classical.byContradiction
      intro hc
      have : n < 2 ^ k := Nat.lt_of_lt_of_le a1 (Nat.pow_le_pow_right (by omega) (by omega))
      omega
    have : bitsLen (n / 2 ^ k) ≤ bitsLen n - k := by
      rw [bitsLen_le_iff, Nat.div_lt_iff_lt_mul (Nat.two_pow_pos k), ← Nat.pow_add, Nat.sub_add_cancel hk]
      exact a1
    omega
  omega

theorem lenTab_size : lenTab.size = 256 := by decide +kernel
set_option maxRecDepth 20000 in
theorem lenTab_get : ∀ i : _root_.Fin 256, (lenTab.data[i.val]?.map (·.toNat)) = some (bitsLen i.val) := by decide +kernel
theorem len8 {i : Nat} (h : i < 256) : aIdxStr (.string lenTab) (.int .u8 (i : Nat)) = some (.int .u8 (bitsLen i : Nat)) := by
  simp only [aIdxStr]
  have hs := lenTab_size
  rw [dif_pos ⟨by omega, by rw [Int.toNat_natCast]; omega⟩]
  have g := lenTab_get ⟨i, h⟩
  simp only at g
  rw [Array.getElem?_eq_getElem (by show i < lenTab.size; omega)] at g
  simp only [Option.map_some, Option.some.injEq] at g
  rw [← g]
  rfl
theorem bitsLen8 {i : Nat} (h : i < 256) : bitsLen i ≤ 8 := (bitsLen_le_iff i 8).2 (by omega)
theorem conv_u8 {x : BitVec 64} : aConv .u8 (u64 x) = some (.int .u8 (IntKind.wrap .u8 x.toNat)) := (rfl)
theorem wrap_u8 {n : Nat} (h : n < 256) : IntKind.wrap .u8 (n : Int) = n := by
  simp only [IntKind.wrap, IntKind.bits, IntKind.signed, Bool.false_and, Bool.false_eq_true, if_false]; omega
theorem conv_i64_u8 {a : Int} : aConv .i64 (.int .u8 a) = some (.int .i64 (IntKind.wrap .i64 a)) := (rfl)

/-! ### the generator -/
theorem xor_bv (r : UInt64) : (xorNext r).toBitVec = (r.toBitVec ^^^ r.toBitVec <<< 13) ^^^ (r.toBitVec ^^^ r.toBitVec <<< 13) >>> 7 ^^^ ((r.toBitVec ^^^ r.toBitVec <<< 13) ^^^ (r.toBitVec ^^^ r.toBitVec <<< 13) >>> 7) <<< 17 := by
  unfold xorNext
  simp only [UInt64.toBitVec_xor, UInt64.toBitVec_shiftLeft, UInt64.toBitVec_shiftRight]
  rfl

/-- So many rounds are left. -/
def bpN {α : Type} [Inhabited α] (a length modulus : Nat) : Nat → UInt64 → Array α → Nat → Array α
  | 0, _, d, _ => d
  | k + 1, r, d, idx => bpN a length modulus k (breakStep a length modulus (r, d) idx).1 (breakStep a length modulus (r, d) idx).2 (idx + 1)
theorem bpN_eq {α : Type} [Inhabited α] {d : Array α} {a b : Nat} (h : b - a ≥ 8) : breakPatterns d a b = bpN a (b - a) (1 <<< bitsLen (b - a)) 3 (UInt64.ofNat (b - a)) d (a + (b - a) / 4 * 2 - 1) := by
  unfold breakPatterns
  simp only
  rw [if_pos h]
  rfl

/-- Two ways that come together again. -/
theorem gT_mid {R : Nat → Option FEnt} {b : Bool} {A B : RCode} {e : Env} {m : Mem} {Q : Ex → Env → Mem → Prop} {K : Env → Mem → Prop} (P : Env → Mem → Prop)
    (h1 : b = true → gp R A e m (gN Q P ph ph)) (h2 : b = false → gp R B e m (gN Q P ph ph)) (h3 : ∀ e' m', P e' m' → K e' m') : gT b (gp R A e m (gN Q K ph ph)) (gp R B e m (gN Q K ph ph)) :=
  ⟨fun h => wp.mono (fun x e' m' hx => onNormal.mono (fun _ _ _ h => h) h3 hx) (h1 h), fun h => wp.mono (fun x e' m' hx => onNormal.mono (fun _ _ _ h => h) h3 hx) (h2 h)⟩
theorem gp_seq_mid {R : Nat → Option FEnt} {A B : RCode} {e : Env} {m : Mem} {Q : Ex → Env → Mem → Prop} (P : Env → Mem → Prop)
    (h1 : gp R A e m (gN Q P ph ph)) (h3 : ∀ e' m', P e' m' → gp R B e' m' Q) : gp R (.seq A B) e m Q := by
  show wp R A e m (onNormal Q fun e' m' => wp R B e' m' Q)
  exact wp.mono (fun x e' m' hx => onNormal.mono (fun _ _ _ h => h) h3 hx) h1
end Go.Am
