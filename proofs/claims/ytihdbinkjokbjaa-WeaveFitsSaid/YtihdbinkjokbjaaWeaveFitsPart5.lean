/- Parts of the proofs of the statements of this seat: AmTieWeave, AmBlk, AmSl2, MaskPop, MaskBit, WeaveMaskW, AmExt, MaskLow, WeaveMaskW2, WeaveMaskW3, WeaveMaskRank, WeaveMaskW4, WeavePlanD, WeavePlanW, WeaveOrderUnits, WeavePlanW2, WeavePlanW3, WeavePlanW4, WeavePlanW5, WeavePlanW6, WeavePlanW7, WeavePlanW8, WeavePlanW9, WeavePlanM. No conditions. -/
import Derived.Test.YtihdbinkjokbjaaRows
import Derived.Test.YtihdbinkjokbjaaWeaveFitsPart3
import Derived.Test.YtihdbinkjokbjaaWeaveFitsPart4
import Derived.Lib.TrailingZeros
set_option linter.unusedVariables false
set_option linter.unusedSimpArgs false

/- The table of the layer weave is as the program has it. Printed by lawgen.py. -/
namespace Go.Am
open Go.Proofs
set_option maxRecDepth 100000

/-- Nothing is asked of the world. -/
def G : Nat → World → Prop := fun _ _ => True
instance : Keeps G := ⟨fun _ _ _ _ h => h⟩
instance : Rises G := ⟨fun _ _ _ _ h => h⟩
theorem hmix : Try.prog.follows .mixedOrders = true := by kernel_rfl
theorem E.law21_WeaveMost : EntOk Try.prog G F.law21_WeaveMost (.rc RC.law21_WeaveMost) := ⟨Try.f3, by unfold F.law21_WeaveMost; exact Try.func3, by kernel_rfl, by kernel_rfl⟩
theorem E.law21_WeavePlaces : EntOk Try.prog G F.law21_WeavePlaces (.rc RC.law21_WeavePlaces) := ⟨Try.f4, by unfold F.law21_WeavePlaces; exact Try.func4, by kernel_rfl, by kernel_rfl⟩
theorem E.law21_WeaveFits : EntOk Try.prog G F.law21_WeaveFits (.rc RC.law21_WeaveFits) := ⟨Try.f5, by unfold F.law21_WeaveFits; exact Try.func5, by kernel_rfl, by kernel_rfl⟩
theorem E.law16_Light : EntOk Try.prog G F.law16_Light (.rc RC.law16_Light) := ⟨Try.f6, by unfold F.law16_Light; exact Try.func6, by kernel_rfl, by kernel_rfl⟩
theorem E.law21_awake : EntOk Try.prog G F.law21_awake (.rc RC.law21_awake) := ⟨Try.f7, by unfold F.law21_awake; exact Try.func7, by kernel_rfl, by kernel_rfl⟩
theorem E.ref16_Right : EntOk Try.prog G F.ref16_Right (.rc RC.ref16_Right) := ⟨Try.f8, by unfold F.ref16_Right; exact Try.func8, by kernel_rfl, by kernel_rfl⟩
theorem E.weave_Most : EntOk Try.prog G F.weave_Most (.rc RC.weave_Most) := ⟨Try.f9, by unfold F.weave_Most; exact Try.func9, by kernel_rfl, by kernel_rfl⟩
theorem E.ref16_Cores : EntOk Try.prog G F.ref16_Cores (.rc RC.ref16_Cores) := ⟨Try.f10, by unfold F.ref16_Cores; exact Try.func10, by kernel_rfl, by kernel_rfl⟩
theorem E.ref21_Most : EntOk Try.prog G F.ref21_Most (.rc RC.ref21_Most) := ⟨Try.f11, by unfold F.ref21_Most; exact Try.func11, by kernel_rfl, by kernel_rfl⟩
theorem E.ref21_Gaps : EntOk Try.prog G F.ref21_Gaps (.rc RC.ref21_Gaps) := ⟨Try.f12, by unfold F.ref21_Gaps; exact Try.func12, by kernel_rfl, by kernel_rfl⟩
theorem E.ref21_Rooms : EntOk Try.prog G F.ref21_Rooms (.rc RC.ref21_Rooms) := ⟨Try.f13, by unfold F.ref21_Rooms; exact Try.func13, by kernel_rfl, by kernel_rfl⟩
theorem E.weave_Place : EntOk Try.prog G F.weave_Place (.rc RC.weave_Place) := ⟨Try.f14, by unfold F.weave_Place; exact Try.func14, by kernel_rfl, by kernel_rfl⟩
theorem E.ref16_SamePlace : EntOk Try.prog G F.ref16_SamePlace (.rc RC.ref16_SamePlace) := ⟨Try.f15, by unfold F.ref16_SamePlace; exact Try.func15, by kernel_rfl, by kernel_rfl⟩
theorem E.law21_small : EntOk Try.prog G F.law21_small (.rc RC.law21_small) := ⟨Try.f16, by unfold F.law21_small; exact Try.func16, by kernel_rfl, by kernel_rfl⟩
theorem E.ref21_Why : EntOk Try.prog G F.ref21_Why (.rc RC.ref21_Why) := ⟨Try.f17, by unfold F.ref21_Why; exact Try.func17, by kernel_rfl, by kernel_rfl⟩
theorem E.ref21_Place : EntOk Try.prog G F.ref21_Place (.rc RC.ref21_Place) := ⟨Try.f18, by unfold F.ref21_Place; exact Try.func18, by kernel_rfl, by kernel_rfl⟩
theorem E.ref16_Put : EntOk Try.prog G F.ref16_Put (.rc RC.ref16_Put) := ⟨Try.f19, by unfold F.ref16_Put; exact Try.func19, by kernel_rfl, by kernel_rfl⟩
theorem E.ref16_Free : EntOk Try.prog G F.ref16_Free (.rc RC.ref16_Free) := ⟨Try.f20, by unfold F.ref16_Free; exact Try.func20, by kernel_rfl, by kernel_rfl⟩
theorem E.law21_example : EntOk Try.prog G F.law21_example (.rc RC.law21_example) := ⟨Try.f21, by unfold F.law21_example; exact Try.func21, by kernel_rfl, by kernel_rfl⟩
theorem E.ref16_place : EntOk Try.prog G F.ref16_place (.rc RC.ref16_place) := ⟨Try.f22, by unfold F.ref16_place; exact Try.func22, by kernel_rfl, by kernel_rfl⟩
theorem E.ref16_apart : EntOk Try.prog G F.ref16_apart (.rc RC.ref16_apart) := ⟨Try.f23, by unfold F.ref16_apart; exact Try.func23, by kernel_rfl, by kernel_rfl⟩
theorem E.ref16_Splits : EntOk Try.prog G F.ref16_Splits (.rc RC.ref16_Splits) := ⟨Try.f24, by unfold F.ref16_Splits; exact Try.func24, by kernel_rfl, by kernel_rfl⟩
theorem E.ref16_Load : EntOk Try.prog G F.ref16_Load (.rc RC.ref16_Load) := ⟨Try.f25, by unfold F.ref16_Load; exact Try.func25, by kernel_rfl, by kernel_rfl⟩
theorem E.plan_Check : EntOk Try.prog G F.plan_Check (.rc RC.plan_Check) := ⟨Try.f26, by unfold F.plan_Check; exact Try.func26, by kernel_rfl, by kernel_rfl⟩
theorem E.weave_begin : EntOk Try.prog G F.weave_begin (.rc RC.weave_begin) := ⟨Try.f27, by unfold F.weave_begin; exact Try.func27, by kernel_rfl, by kernel_rfl⟩
theorem E.weave_loom_most : EntOk Try.prog G F.weave_loom_most (.rc RC.weave_loom_most) := ⟨Try.f28, by unfold F.weave_loom_most; exact Try.func28, by kernel_rfl, by kernel_rfl⟩
theorem E.ref16_Has : EntOk Try.prog G F.ref16_Has (.rc RC.ref16_Has) := ⟨Try.f29, by unfold F.ref16_Has; exact Try.func29, by kernel_rfl, by kernel_rfl⟩
theorem E.ref04_Has : EntOk Try.prog G F.ref04_Has (.rc RC.ref04_Has) := ⟨Try.f30, by unfold F.ref04_Has; exact Try.func30, by kernel_rfl, by kernel_rfl⟩
theorem E.ref04_With : EntOk Try.prog G F.ref04_With (.rc RC.ref04_With) := ⟨Try.f31, by unfold F.ref04_With; exact Try.func31, by kernel_rfl, by kernel_rfl⟩
theorem E.ref21_least : EntOk Try.prog G F.ref21_least (.rc RC.ref21_least) := ⟨Try.f32, by unfold F.ref21_least; exact Try.func32, by kernel_rfl, by kernel_rfl⟩
theorem E.ref04_All : EntOk Try.prog G F.ref04_All (.rc RC.ref04_All) := ⟨Try.f33, by unfold F.ref04_All; exact Try.func33, by kernel_rfl, by kernel_rfl⟩
theorem E.ref16_Windows : EntOk Try.prog G F.ref16_Windows (.rc RC.ref16_Windows) := ⟨Try.f34, by unfold F.ref16_Windows; exact Try.func34, by kernel_rfl, by kernel_rfl⟩
theorem E.ref16_Room : EntOk Try.prog G F.ref16_Room (.rc RC.ref16_Room) := ⟨Try.f35, by unfold F.ref16_Room; exact Try.func35, by kernel_rfl, by kernel_rfl⟩
theorem E.weave_why : EntOk Try.prog G F.weave_why (.rc RC.weave_why) := ⟨Try.f36, by unfold F.weave_why; exact Try.func36, by kernel_rfl, by kernel_rfl⟩
theorem E.weave_loom_give : EntOk Try.prog G F.weave_loom_give (.rc RC.weave_loom_give) := ⟨Try.f37, by unfold F.weave_loom_give; exact Try.func37, by kernel_rfl, by kernel_rfl⟩
theorem E.ref18_Why : EntOk Try.prog G F.ref18_Why (.rc RC.ref18_Why) := ⟨Try.f38, by unfold F.ref18_Why; exact Try.func38, by kernel_rfl, by kernel_rfl⟩
theorem E.ref18_First : EntOk Try.prog G F.ref18_First (.rc RC.ref18_First) := ⟨Try.f39, by unfold F.ref18_First; exact Try.func39, by kernel_rfl, by kernel_rfl⟩
theorem E.ref16_Drop : EntOk Try.prog G F.ref16_Drop (.rc RC.ref16_Drop) := ⟨Try.f40, by unfold F.ref16_Drop; exact Try.func40, by kernel_rfl, by kernel_rfl⟩
theorem E.ref08_Is : EntOk Try.prog G F.ref08_Is (.rc RC.ref08_Is) := ⟨Try.f41, by unfold F.ref08_Is; exact Try.func41, by kernel_rfl, by kernel_rfl⟩
theorem E.ref16_At : EntOk Try.prog G F.ref16_At (.rc RC.ref16_At) := ⟨Try.f42, by unfold F.ref16_At; exact Try.func42, by kernel_rfl, by kernel_rfl⟩
theorem E.ref04_Count : EntOk Try.prog G F.ref04_Count (.rc RC.ref04_Count) := ⟨Try.f43, by unfold F.ref04_Count; exact Try.func43, by kernel_rfl, by kernel_rfl⟩
theorem E.ref16_Wholes : EntOk Try.prog G F.ref16_Wholes (.rc RC.ref16_Wholes) := ⟨Try.f44, by unfold F.ref16_Wholes; exact Try.func44, by kernel_rfl, by kernel_rfl⟩
theorem E.plan_place : EntOk Try.prog G F.plan_place (.rc RC.plan_place) := ⟨Try.f45, by unfold F.plan_place; exact Try.func45, by kernel_rfl, by kernel_rfl⟩
theorem E.plan_apart : EntOk Try.prog G F.plan_apart (.rc RC.plan_apart) := ⟨Try.f46, by unfold F.plan_apart; exact Try.func46, by kernel_rfl, by kernel_rfl⟩
theorem E.plan_Splits : EntOk Try.prog G F.plan_Splits (.rc RC.plan_Splits) := ⟨Try.f47, by unfold F.plan_Splits; exact Try.func47, by kernel_rfl, by kernel_rfl⟩
theorem E.plan_Cores : EntOk Try.prog G F.plan_Cores (.rc RC.plan_Cores) := ⟨Try.f48, by unfold F.plan_Cores; exact Try.func48, by kernel_rfl, by kernel_rfl⟩
theorem E.plan_left : EntOk Try.prog G F.plan_left (.rc RC.plan_left) := ⟨Try.f49, by unfold F.plan_left; exact Try.func49, by kernel_rfl, by kernel_rfl⟩
theorem E.mask_All : EntOk Try.prog G F.mask_All (.rc RC.mask_All) := ⟨Try.f50, by unfold F.mask_All; exact Try.func50, by kernel_rfl, by kernel_rfl⟩
theorem E.plan_Windows : EntOk Try.prog G F.plan_Windows (.rc RC.plan_Windows) := ⟨Try.f51, by unfold F.plan_Windows; exact Try.func51, by kernel_rfl, by kernel_rfl⟩
theorem E.plan_Room : EntOk Try.prog G F.plan_Room (.rc RC.plan_Room) := ⟨Try.f52, by unfold F.plan_Room; exact Try.func52, by kernel_rfl, by kernel_rfl⟩
theorem E.weave_match_try : EntOk Try.prog G F.weave_match_try (.rc RC.weave_match_try) := ⟨Try.f53, by unfold F.weave_match_try; exact Try.func53, by kernel_rfl, by kernel_rfl⟩
theorem E.ref04_Frame : EntOk Try.prog G F.ref04_Frame (.rc RC.ref04_Frame) := ⟨Try.f54, by unfold F.ref04_Frame; exact Try.func54, by kernel_rfl, by kernel_rfl⟩
theorem E.order_Check : EntOk Try.prog G F.order_Check (.rc RC.order_Check) := ⟨Try.f55, by unfold F.order_Check; exact Try.func55, by kernel_rfl, by kernel_rfl⟩
theorem E.plan_Find : EntOk Try.prog G F.plan_Find (.rc RC.plan_Find) := ⟨Try.f56, by unfold F.plan_Find; exact Try.func56, by kernel_rfl, by kernel_rfl⟩
theorem E.ffd_First : EntOk Try.prog G F.ffd_First (.rc RC.ffd_First) := ⟨Try.f57, by unfold F.ffd_First; exact Try.func57, by kernel_rfl, by kernel_rfl⟩
theorem E.mask_Has : EntOk Try.prog G F.mask_Has (.rc RC.mask_Has) := ⟨Try.f58, by unfold F.mask_Has; exact Try.func58, by kernel_rfl, by kernel_rfl⟩
theorem E.ref08_Check : EntOk Try.prog G F.ref08_Check (.rc RC.ref08_Check) := ⟨Try.f59, by unfold F.ref08_Check; exact Try.func59, by kernel_rfl, by kernel_rfl⟩
theorem E.ref16_Find : EntOk Try.prog G F.ref16_Find (.rc RC.ref16_Find) := ⟨Try.f60, by unfold F.ref16_Find; exact Try.func60, by kernel_rfl, by kernel_rfl⟩
theorem E.ref04_Ticks : EntOk Try.prog G F.ref04_Ticks (.rc RC.ref04_Ticks) := ⟨Try.f61, by unfold F.ref04_Ticks; exact Try.func61, by kernel_rfl, by kernel_rfl⟩
theorem E.order_Kind : EntOk Try.prog G F.order_Kind (.rc RC.order_Kind) := ⟨Try.f62, by unfold F.order_Kind; exact Try.func62, by kernel_rfl, by kernel_rfl⟩
theorem E.plan_split : EntOk Try.prog G F.plan_split (.rc RC.plan_split) := ⟨Try.f63, by unfold F.plan_split; exact Try.func63, by kernel_rfl, by kernel_rfl⟩
theorem E.plan_pieces : EntOk Try.prog G F.plan_pieces (.rc RC.plan_pieces) := ⟨Try.f64, by unfold F.plan_pieces; exact Try.func64, by kernel_rfl, by kernel_rfl⟩
theorem E.plan_has : EntOk Try.prog G F.plan_has (.rc RC.plan_has) := ⟨Try.f65, by unfold F.plan_has; exact Try.func65, by kernel_rfl, by kernel_rfl⟩
theorem E.mask_Count : EntOk Try.prog G F.mask_Count (.rc RC.mask_Count) := ⟨Try.f66, by unfold F.mask_Count; exact Try.func66, by kernel_rfl, by kernel_rfl⟩
theorem E.plan_Wholes : EntOk Try.prog G F.plan_Wholes (.rc RC.plan_Wholes) := ⟨Try.f67, by unfold F.plan_Wholes; exact Try.func67, by kernel_rfl, by kernel_rfl⟩
theorem E.mask_frame : EntOk Try.prog G F.mask_frame (.rc RC.mask_frame) := ⟨Try.f68, by unfold F.mask_frame; exact Try.func68, by kernel_rfl, by kernel_rfl⟩
theorem E.weave_match_push : EntOk Try.prog G F.weave_match_push (.rc RC.weave_match_push) := ⟨Try.f69, by unfold F.weave_match_push; exact Try.func69, by kernel_rfl, by kernel_rfl⟩
theorem E.plan_find : EntOk Try.prog G F.plan_find (.rc RC.plan_find) := ⟨Try.f70, by unfold F.plan_find; exact Try.func70, by kernel_rfl, by kernel_rfl⟩
theorem E.slices_Clone_api_Piece_api_Piece : EntOk Try.prog G F.slices_Clone_api_Piece_api_Piece (.rc RC.slices_Clone_api_Piece_api_Piece) := ⟨Try.f71, by unfold F.slices_Clone_api_Piece_api_Piece; exact Try.func71, by kernel_rfl, by kernel_rfl⟩
theorem E.ffd_first : EntOk Try.prog G F.ffd_first (.rc RC.ffd_first) := ⟨Try.f72, by unfold F.ffd_first; exact Try.func72, by kernel_rfl, by kernel_rfl⟩
theorem E.math_bits_OnesCount64 : EntOk Try.prog G F.math_bits_OnesCount64 (.rc RC.math_bits_OnesCount64) := ⟨Try.f73, by unfold F.math_bits_OnesCount64; exact Try.func73, by kernel_rfl, by kernel_rfl⟩
theorem E.slices_BinarySearchFunc_api_Place_api_Place_int : EntOk Try.prog G F.slices_BinarySearchFunc_api_Place_api_Place_int (.rc RC.slices_BinarySearchFunc_api_Place_api_Place_int) := ⟨Try.f74, by unfold F.slices_BinarySearchFunc_api_Place_api_Place_int; exact Try.func74, by kernel_rfl, by kernel_rfl⟩
theorem E.plan_find_1 : EntOk Try.prog G F.plan_find_1 (.rc RC.plan_find_1) := ⟨Try.f75, by unfold F.plan_find_1; exact Try.func75, by kernel_rfl, by kernel_rfl⟩
theorem E.cmp_Compare_int : EntOk Try.prog G F.cmp_Compare_int (.rc RC.cmp_Compare_int) := ⟨Try.f76, by unfold F.cmp_Compare_int; exact Try.func76, by kernel_rfl, by kernel_rfl⟩
theorem E.cmp_isNaN_int : EntOk Try.prog G F.cmp_isNaN_int (.rc RC.cmp_isNaN_int) := ⟨Try.f77, by unfold F.cmp_isNaN_int; exact Try.func77, by kernel_rfl, by kernel_rfl⟩
theorem ents : EntsOk Try.prog G tab0 := ⟨E.law21_WeaveMost, E.law21_WeavePlaces, E.law21_WeaveFits, E.law16_Light, E.law21_awake, E.ref16_Right, E.weave_Most, E.ref16_Cores, E.ref21_Most, E.ref21_Gaps, E.ref21_Rooms, E.weave_Place, E.ref16_SamePlace, E.law21_small, E.ref21_Why, E.ref21_Place, E.ref16_Put, E.ref16_Free, E.law21_example, E.ref16_place, E.ref16_apart, E.ref16_Splits, E.ref16_Load, E.plan_Check, E.weave_begin, E.weave_loom_most, E.ref16_Has, E.ref04_Has, E.ref04_With, E.ref21_least, E.ref04_All, E.ref16_Windows, E.ref16_Room, E.weave_why, E.weave_loom_give, E.ref18_Why, E.ref18_First, E.ref16_Drop, E.ref08_Is, E.ref16_At, E.ref04_Count, E.ref16_Wholes, E.plan_place, E.plan_apart, E.plan_Splits, E.plan_Cores, E.plan_left, E.mask_All, E.plan_Windows, E.plan_Room, E.weave_match_try, E.ref04_Frame, E.order_Check, E.plan_Find, E.ffd_First, E.mask_Has, E.ref08_Check, E.ref16_Find, E.ref04_Ticks, E.order_Kind, E.plan_split, E.plan_pieces, E.plan_has, E.mask_Count, E.plan_Wholes, E.mask_frame, E.weave_match_push, E.plan_find, E.slices_Clone_api_Piece_api_Piece, E.ffd_first, E.math_bits_OnesCount64, E.slices_BinarySearchFunc_api_Place_api_Place_int, E.plan_find_1, E.cmp_Compare_int, E.cmp_isNaN_int, trivial⟩
theorem tabOk0 : TabOk Try.prog G R0 := TabOk.of ents
theorem C.law21_awake : EntOk Try.prog G F.law21_awake (.ext X.ok) := X.ok_sim (const_sim hmix tabOk0 (n := 1000) (by kernel_rfl))
theorem tabOk : TabOk Try.prog G R := TabOk.of (l := tab) (⟨C.law21_awake, ents⟩)
end Go.Am


/- Blocks, by their numbers: loads and stores as what they do to a block's cells. -/
set_option linter.unusedVariables false
namespace Go.Am

def ldW : Option AObj → Nat → Option Value
  | some (.cells c _), o => c[o]?
  | _, _ => none
def ldA : Option AObj → Nat → Nat → Option Value
  | some (.cells c _), o, sz => if o + sz ≤ c.length then some (.agg ((c.drop o).take sz).toArray) else none
  | _, _, _ => none
def stB (m : Mem) (b : Nat) : Option AObj → Nat → List Value → Option Mem
  | some (.cells c (some u)), o, vs => if o + vs.length ≤ c.length ∧ oneCells vs = true then some (m.set b (some (.cells (writeL c o vs) (some u)))) else none
  | _, _, _ => none

theorem ldW_c {c : List Value} {own : Option Nat} {o : Nat} : ldW (some (.cells c own)) o = c[o]? := rfl
theorem ldA_c {c : List Value} {own : Option Nat} {o sz : Nat} : ldA (some (.cells c own)) o sz = if o + sz ≤ c.length then some (.agg ((c.drop o).take sz).toArray) else none := rfl
theorem stB_c {m : Mem} {b u o : Nat} {c vs : List Value} : stB m b (some (.cells c (some u))) o vs = if o + vs.length ≤ c.length ∧ oneCells vs = true then some (m.set b (some (.cells (writeL c o vs) (some u)))) else none := rfl

theorem load_w {m : Mem} {sz b o : Nat} : aLoad false sz m (.pointer (some ⟨b, o, none⟩)) = ldW (m.blk b) o := by
  simp only [aLoad, Bool.false_eq_true, if_false]
  unfold ldW
  split <;> simp_all
theorem load_a {m : Mem} {sz b o : Nat} : aLoad true sz m (.pointer (some ⟨b, o, none⟩)) = ldA (m.blk b) o sz := by
  simp only [aLoad, if_true]
  unfold ldA
  split <;> simp_all
theorem store_b {m : Mem} {sz b o : Nat} {v : Value} : aStore sz m (.pointer (some ⟨b, o, none⟩)) v = if v.cells.size = sz then stB m b (m.blk b) o v.cells.toList else none := by
  simp only [aStore]
  split
  · unfold aWrite stB
    split <;> simp_all
  · rfl
theorem idxS_b {u b o n c : Nat} {k : IntKind} {i : Int} : aIdxS u (.slice (some ⟨b, o, none⟩) n c) (.int k i) = if 0 ≤ i ∧ i < n then some (.pointer (some ⟨b, o + i.toNat * u, none⟩)) else none := rfl
theorem set_blk {m : Mem} {b k : Nat} {o : Option AObj} : (m.set b o).blk k = if k = b then o else m.blk k := rfl
theorem new_blk {m : Mem} {k : Nat} {o : AObj} : (m.new o).blk k = if k = m.next then some o else m.blk k := rfl
theorem set_next {m : Mem} {b : Nat} {o : Option AObj} : (m.set b o).next = m.next := rfl
theorem new_next {m : Mem} {o : AObj} : (m.new o).next = m.next + 1 := rfl
theorem len_s {a : Option Addr} {n c : Nat} : aLen (.slice a n c) = some (.int .i64 n) := rfl
theorem toArr_one {v : Value} : (#[v] : Array Value).toList = [v] := rfl
theorem size_one {v : Value} : (#[v] : Array Value).size = 1 := rfl
theorem toList_toArr {l : List Value} : l.toArray.toList = l := rfl
theorem size_toArr {l : List Value} : l.toArray.size = l.length := by simp

/-- What is at these blocks may have changed; all else is as it was. -/
structure Upd (m m' : Mem) (fp : List Nat) : Prop where
  next : m.next ≤ m'.next
  same : ∀ b, b < m.next → b ∉ fp → m'.blk b = m.blk b

theorem Upd.refl (m : Mem) (fp : List Nat) : Upd m m fp := ⟨Nat.le_refl _, fun _ _ _ => rfl⟩
theorem Upd.trans {a b c : Mem} {fp fq fr : List Nat} (h : Upd a b fp) (k : Upd b c fq) (h1 : ∀ x ∈ fp, x ∈ fr) (h2 : ∀ x ∈ fq, x ∈ fr ∨ a.next ≤ x) : Upd a c fr :=
  ⟨Nat.le_trans h.next k.next, fun x hx hn => by
    rw [k.same x (Nat.lt_of_lt_of_le hx h.next) (fun hm => by rcases h2 x hm with h3 | h3; exact hn h3; omega), h.same x hx (fun hm => hn (h1 x hm))]⟩
theorem Ext.upd {m m' : Mem} (h : Ext m m') {fp : List Nat} : Upd m m' fp := ⟨h.next, fun b hb _ => h.same b hb⟩
theorem Upd.ext {m m' : Mem} (h : Upd m m' []) : Ext m m' := ⟨h.next, fun b hb => h.same b hb (by simp)⟩
theorem Upd.set {m : Mem} {b : Nat} {o : Option AObj} {fp : List Nat} (h : b ∈ fp) : Upd m (m.set b o) fp :=
  ⟨Nat.le_refl _, fun x hx hn => by rw [set_blk, if_neg (fun e => hn (by rw [e]; exact h))]⟩
/-- Only blocks from some number on have changed. -/
theorem Upd.ext_of {m0 m m' : Mem} {fp : List Nat} (h0 : Ext m0 m) (h : Upd m m' fp) (hf : ∀ x ∈ fp, m0.next ≤ x) : Ext m0 m' :=
  ⟨Nat.le_trans h0.next h.next, fun b hb => by
    rw [h.same b (Nat.lt_of_lt_of_le hb h0.next) (fun hm => by have := hf b hm; omega), h0.same b hb]⟩
set_option linter.defProp false in
/-- All rules for blocks. -/
def ruB := And.intro @load_w (And.intro @load_a (And.intro @store_b (And.intro @idxS_b (And.intro @set_blk (And.intro @new_blk (And.intro @set_next (And.intro @new_next (And.intro @len_s (And.intro @ldW_c (And.intro @ldA_c (And.intro @stB_c (And.intro @toArr_one (And.intro @size_one (And.intro @toList_toArr (And.intro @size_toArr (And.intro @List.length_cons.{0} (And.intro @List.length_nil.{0} (And.intro @List.getElem?_cons_zero.{0} (And.intro @List.getElem?_cons_succ.{0} (And.intro @Nat.zero_add (@Nat.add_zero)))))))))))))))))))))
end Go.Am


/- More of slices that grow: whole slices put behind. -/
set_option linter.unusedVariables false
namespace Go.Am

theorem Sl.src {m : Mem} {u k : Nat} {xs : List Value} {x : Value} (h : Sl m u k xs x) : aSrc u k m x = some xs ∧ sliceLen x = some k := by
  cases h with
  | nil h hc => subst h; subst hc; exact ⟨rfl, rfl⟩
  | «at» hc h =>
    refine ⟨?_, rfl⟩
    simp only [aSrc]
    split
    · rename_i e; subst e
      have := aCells_len h
      rw [Nat.zero_mul] at this
      rw [List.eq_nil_of_length_eq_zero this]
    · rw [if_pos (Nat.le_refl _)]; exact h

/-- All of a slice behind one's own. -/
theorem Own.appAll {m0 m : Mem} {u n k by_ : Nat} {cs xs : List Value} {v x : Value} (h : Own m0 m u n cs v) (hx : Ext m0 m) (hs : Sl m u k xs x) (h1 : oneCells xs = true) (hby : (n + k) * by_ ≤ 2 ^ 47) (hn : n + k < 2 ^ 62) (hfull : ∀ a p q, v = .slice a p q → p = q) :
    ∃ v' m', aApp none u by_ m v x = some (v', m') ∧ Own m0 m' u (n + k) (cs ++ xs) v' ∧ Ext m0 m' := by
  obtain ⟨hsrc, hlen⟩ := hs.src
  have hxl := hs.length
  cases h with
  | nil h hc =>
    subst h; subst hc
    by_cases hk : k = 0
    · subst hk
      refine ⟨.slice none 0 0, m, by simp [aApp, hlen, hsrc], .nil rfl ?_, hx⟩
      rw [Nat.zero_mul] at hxl
      rw [List.eq_nil_of_length_eq_zero hxl]; rfl
    · refine ⟨.slice (some ⟨m.next, 0, none⟩) k k, m.new (.cells xs (some u)), ?_, ?_, hx.trans Ext.new⟩
      · simp only [aApp, hlen, Option.bind_some, hsrc, hk, if_false]
        rw [if_pos ⟨by simpa using hby, by simpa using hn, h1⟩]
        rfl
      · rw [Nat.zero_add, List.nil_append]
        exact .at (all := xs) hx.next (by simp [Mem.new]) (Nat.le_refl _) (by simp [Mem.new]) hxl (by rw [← hxl, List.take_length]) h1
  | @«at» b c all hb hb2 hnc hm hl hcs hone =>
    by_cases hk : k = 0
    · subst hk
      rw [Nat.zero_mul] at hxl
      have hxs := List.eq_nil_of_length_eq_zero hxl
      subst hxs
      refine ⟨.slice (some ⟨b, 0, none⟩) n c, m, ?_, by rw [List.append_nil]; exact .at hb hb2 hnc hm hl hcs hone, hx⟩
      simp only [aApp, hlen, Option.bind_some, hsrc, if_true]
      rw [if_pos ⟨hnc, by rw [hm]; rfl⟩]
    · by_cases hroom : n + k ≤ c
      · have hle : n * u + k * u ≤ c * u := by rw [← Nat.add_mul]; exact Nat.mul_le_mul_right _ hroom
        refine ⟨.slice (some ⟨b, 0, none⟩) (n + k) c, m.set b (some (.cells (writeL all (n * u) xs) (some u))), ?_, ?_, hx.set hb⟩
        · simp only [aApp, hlen, Option.bind_some, hsrc, hk, if_false, Nat.zero_add]
          rw [if_pos hroom]
          unfold aWrite
          rw [hm]
          simp only
          rw [if_pos ⟨by omega, h1⟩]; rfl
        · refine .at (all := writeL all (n * u) xs) hb (by simpa [Mem.set] using hb2) hroom (by simp [Mem.set]) ?_ ?_ (oneCells_append hone h1)
          · unfold writeL; simp; omega
          · unfold writeL
            rw [Nat.add_mul, List.append_assoc, List.take_append]
            have e : (all.take (n * u)).length = n * u := by simp; omega
            rw [e, List.take_of_length_le (by omega), show n * u + k * u - n * u = xs.length by omega, List.take_left, hcs]
      · have hcn : n = c := hfull _ _ _ rfl
        subst hcn
        have hall : all.take (n * u) = all := by rw [← hl, List.take_length]
        rw [hall] at hcs
        subst hcs
        refine ⟨.slice (some ⟨m.next, 0, none⟩) (n + k) (n + k), (m.set b none).new (.cells (all ++ xs) (some u)), ?_, ?_, (hx.set hb).trans Ext.new⟩
        · simp only [aApp, hlen, Option.bind_some, hsrc, hk, if_false, Nat.zero_add]
          rw [if_neg hroom, hm]
          simp only [List.drop_zero, hall]
          rw [if_pos ⟨hby, hn, h1, hone, Nat.le_refl _, by omega, .inr ⟨by first | rfl | trivial, .inr (by first | rfl | trivial)⟩⟩]
          simp only [Option.isSome_some, true_and, hl, if_true, place]
          rfl
        · refine .at (all := all ++ xs) (by have := hx.next; omega) (by simp [Mem.new, Mem.set]) (Nat.le_refl _) (by simp [Mem.new, Mem.set]) (by simp [hl, hxl, Nat.add_mul]) ?_ (oneCells_append hone h1)
          rw [Nat.add_mul, List.take_of_length_le (by simp; omega)]

/-- A slice, copied: what stands behind an empty one. -/
theorem app_copy {m : Mem} {u k by_ : Nat} {xs : List Value} {x : Value} (hs : Sl (m.new (.cells [] (some u))) u k xs x) (h1 : oneCells xs = true) (hby : k * by_ ≤ 2 ^ 47) (hn : k < 2 ^ 62) :
    ∃ v' m', aApp none u by_ (m.new (.cells [] (some u))) (.slice (some ⟨m.next, 0, none⟩) 0 0) x = some (v', m') ∧ Own m m' u k xs v' ∧ Ext m m' := by
  have ho : Own m (m.new (.cells [] (some u))) u 0 [] (.slice (some ⟨m.next, 0, none⟩) 0 0) :=
    .at (all := []) (Nat.le_refl _) (by simp [Mem.new]) (Nat.le_refl _) (by simp [Mem.new]) (by simp) (by simp) rfl
  have := ho.appAll (by_ := by_) Ext.new hs h1 (by simpa using hby) (by simpa using hn) (by intro a p q h; cases h; rfl)
  simpa using this

/-- A slice whose block is none of some. -/
def SlOff (fp : List Nat) : Value → Prop
  | .slice (some a) _ _ => a.block ∉ fp
  | _ => True

theorem Sl.upd {m m' : Mem} {u n : Nat} {cs : List Value} {v : Value} {fp : List Nat} (h : Sl m u n cs v) (hb : SlLt m v) (ho : SlOff fp v) (hx : Upd m m' fp) : Sl m' u n cs v := by
  cases h with
  | nil h hc => exact .nil h hc
  | «at» hc h =>
    refine .at hc ?_
    unfold aCells at h ⊢
    rw [hx.same _ hb ho]; exact h

theorem SlLt.upd {m m' : Mem} {v : Value} {fp : List Nat} (h : SlLt m v) (hx : Upd m m' fp) : SlLt m' v := by
  unfold SlLt at *
  split <;> simp_all
  exact Nat.lt_of_lt_of_le h hx.next

theorem Own.lt {m0 m : Mem} {u n : Nat} {cs : List Value} {v : Value} (h : Own m0 m u n cs v) : SlLt m v := by
  cases h with
  | nil h hc => trivial
  | «at» hb hb2 hn hm hl hcs h1 => exact hb2
theorem Own.off {m0 m : Mem} {u n : Nat} {cs : List Value} {v : Value} {fp : List Nat} (h : Own m0 m u n cs v) (hf : ∀ x ∈ fp, x < m0.next) : SlOff fp v := by
  cases h with
  | nil h hc => trivial
  | «at» hb hb2 hn hm hl hcs h1 => intro hm; have := hf _ hm; simp only at this; omega

/-- One more behind one's own, where the new block's number is given. -/
theorem Own.appAt {m0 m : Mem} {u n by_ q : Nat} {cs xs : List Value} {v x : Value} (h : Own m0 m u n cs v) (hx : Ext m0 m) (hs : Sl m u 1 xs x) (h1 : oneCells xs = true) (hby : (n + 1) * by_ ≤ 2 ^ 47) (hn : n + 1 < 2 ^ 62) (hq : m0.next ≤ q) (hq2 : q < m.next) (ho : SlOff [q] v) :
    ∃ v' m', aApp (some q) u by_ m v x = some (v', m') ∧ Own m0 m' u (n + 1) (cs ++ xs) v' ∧ Ext m0 m' := by
  obtain ⟨hsrc, hlen⟩ := hs.src
  have hxl := hs.length
  cases h with
  | nil h hc =>
    subst h; subst hc
    refine ⟨.slice (some ⟨q, 0, none⟩) 1 1, m.set q (some (.cells xs (some u))), ?_, ?_, hx.set hq⟩
    · simp only [aApp, hlen, Option.bind_some, hsrc, Nat.one_ne_zero, if_false]
      rw [if_pos ⟨by simpa using hby, by simp, h1⟩]
      rfl
    · rw [Nat.zero_add, List.nil_append]
      exact .at (all := xs) hq (by simpa [Mem.set] using hq2) (Nat.le_refl _) (by simp [Mem.set]) hxl (by rw [← hxl, List.take_length]) h1
  | @«at» b c all hb hb2 hnc hm hl hcs hone =>
    have hbq : b ≠ q := by intro e; subst e; simp [SlOff] at ho
    by_cases hroom : n + 1 ≤ c
    · have hle : n * u + 1 * u ≤ c * u := by rw [← Nat.add_mul]; exact Nat.mul_le_mul_right _ hroom
      refine ⟨.slice (some ⟨b, 0, none⟩) (n + 1) c, m.set b (some (.cells (writeL all (n * u) xs) (some u))), ?_, ?_, hx.set hb⟩
      · simp only [aApp, hlen, Option.bind_some, hsrc, Nat.one_ne_zero, if_false, Nat.zero_add]
        rw [if_pos hroom]
        unfold aWrite
        rw [hm]
        simp only
        rw [if_pos ⟨by omega, h1⟩]; rfl
      · refine .at (all := writeL all (n * u) xs) hb (by simpa [Mem.set] using hb2) hroom (by simp [Mem.set]) ?_ ?_ (oneCells_append hone h1)
        · unfold writeL; simp; omega
        · unfold writeL
          rw [Nat.add_mul, List.append_assoc, List.take_append]
          have e : (all.take (n * u)).length = n * u := by simp; omega
          rw [e, List.take_of_length_le (by omega), show n * u + 1 * u - n * u = xs.length by omega, List.take_left, hcs]
    · have hcn : n = c := by omega
      subst hcn
      have hall : all.take (n * u) = all := by rw [← hl, List.take_length]
      rw [hall] at hcs
      subst hcs
      refine ⟨.slice (some ⟨q, 0, none⟩) (n + 1) (n + 1), (m.set b none).set q (some (.cells (all ++ xs) (some u))), ?_, ?_, (hx.set hb).set hq⟩
      · simp only [aApp, hlen, Option.bind_some, hsrc, Nat.one_ne_zero, if_false, Nat.zero_add]
        rw [if_neg hroom, hm]
        simp only [List.drop_zero, hall]
        rw [if_pos ⟨hby, hn, h1, hone, Nat.le_refl _, by omega, .inr ⟨by first | rfl | trivial, .inr (by first | rfl | trivial)⟩⟩]
        simp only [Option.isSome_some, true_and, hl, if_true, place]
      · refine .at (all := all ++ xs) hq (by simpa [Mem.set] using hq2) (Nat.le_refl _) (by simp [Mem.set]) (by simp [hl, hxl, Nat.add_mul]) ?_ (oneCells_append hone h1)
        rw [Nat.add_mul, List.take_of_length_le (by simp; omega)]

/-- What a loop leaves may be told ahead, and used later. -/
theorem WL.mono {R : Nat → Option FEnt} {ks : List Nat} {c : RCode} {e : Env} {m : Mem} {Q Q' : Ex → Env → Mem → Prop} (h : WL R ks c e m Q) (hq : ∀ x e m, Q x e m → Q' x e m) : WL R ks c e m Q' := by
  intro Z hZ
  refine h Z fun e m hz => hZ e m (wp.mono (fun x e' m' hx => ?_) hz)
  exact onNormal.mono (fun _ _ _ h => hq _ _ _ h) (fun e m h => h) hx

theorem watchOk_nil {e : Env} {m m' : Mem} : watchOk e m m' [] = True := (rfl)
theorem watchOk_cons {e : Env} {m m' : Mem} {x : Nat} {r : List Nat} : watchOk e m m' (x :: r) = ((match Env.get e x with | some v => (match blkOf v with | some b => m'.blk b = m.blk b | none => True) | none => False) ∧ watchOk e m m' r) := (rfl)
theorem blkOf_ptr {b o : Nat} : blkOf (.pointer (some ⟨b, o, none⟩)) = some b := (rfl)
theorem blkOf_undef : blkOf undef = none := (rfl)
theorem blkOf_int {k : IntKind} {a : Int} : blkOf (.int k a) = none := (rfl)
attribute [go_sem] watchOk_nil watchOk_cons blkOf_ptr blkOf_undef blkOf_int
theorem load_bump {w : Bool} {u n : Nat} {m : Mem} {p : Value} : aLoad w u (m.bump n) p = aLoad w u m p := (rfl)
theorem blk_bump {n : Nat} {m : Mem} : (m.bump n).blk = m.blk := (rfl)
attribute [go_sem] load_bump blk_bump
theorem Ext.bump {m : Mem} {n : Nat} : Ext m (m.bump n) := ⟨by simp, fun b hb => rfl⟩

/-! ### parts of slices, copies -/

theorem unitOk_own {m : Mem} {b u : Nat} {cs : List Value} (h : m.blk b = some (.cells cs (some u))) : unitOk u m b = true := by unfold unitOk; rw [h]; simp

theorem sub_from {m : Mem} {b o n c u : Nat} {k : IntKind} {i : Nat} (hu : unitOk u m b = true) (h : i ≤ n) (hc : n ≤ c) :
    aSub u m (.slice (some ⟨b, o, none⟩) n c) (some (.int k i)) none none = some (.slice (some ⟨b, o + i * u, none⟩) (n - i) (c - i)) := by
  simp only [aSub, hu, if_true, aBounds, aBound]
  simp [h, cutAt, hc, Int.toNat_natCast]

theorem sub_to {m : Mem} {b o n c u : Nat} {k : IntKind} {i : Nat} (hu : unitOk u m b = true) (h : i ≤ c) :
    aSub u m (.slice (some ⟨b, o, none⟩) n c) none (some (.int k i)) none = some (.slice (some ⟨b, o, none⟩) i c) := by
  simp only [aSub, hu, if_true, aBounds, aBound]
  simp [h, cutAt, Int.toNat_natCast]

theorem make_eq {m : Mem} {u by_ n : Nat} {z : List Value} {k k' : IntKind} (h1 : n < 2 ^ 62) (h2 : n * by_ ≤ 2 ^ 47) (h3 : z.length = u) (h4 : oneCells z = true) :
    aMake none u by_ z m (.int k n) (.int k' n) = some (.slice (some ⟨m.next, 0, none⟩) n n, m.new (.cells (zeros z n) (some u))) := by
  simp only [aMake, place]
  rw [if_pos ⟨by omega, by omega, by omega, by omega, h3, h4⟩, Int.toNat_natCast]

theorem zeros_int {n : Nat} : zeros [.int .i64 0] n = intsZ (List.replicate n 0) := by
  induction n with
  | zero => rfl
  | succ n ih => simp [zeros, ih, intsZ, List.replicate_succ]

/-! ### elements of more than one cell -/

theorem flat_len {α : Type} {f : α → List Value} {u : Nat} (hf : ∀ a, (f a).length = u) : ∀ {l : List α}, (l.flatMap f).length = l.length * u
  | [] => by simp
  | a :: l => by rw [List.flatMap_cons, List.length_append, hf, flat_len hf, List.length_cons, Nat.succ_mul]; omega

theorem flat_drop {α : Type} {f : α → List Value} {u : Nat} (hf : ∀ a, (f a).length = u) : ∀ {l : List α} {i : Nat} (h : i < l.length), ((l.flatMap f).drop (i * u)).take u = f l[i]
  | a :: l, 0, _ => by rw [Nat.zero_mul, List.drop_zero, List.flatMap_cons, ← hf a, List.take_left]; rfl
  | a :: l, i + 1, h => by
    rw [List.flatMap_cons, show (i + 1) * u = (f a).length + i * u by rw [hf, Nat.succ_mul]; omega, ← List.drop_drop, List.drop_left, flat_drop hf (by simpa using h)]; rfl

/-- What is read of the i-th element. -/
theorem Sl.elem {α : Type} {f : α → List Value} {m : Mem} {u : Nat} {l : List α} {v : Value} (h : Sl m u l.length (l.flatMap f) v) (hf : ∀ a, (f a).length = u) {k : IntKind} {i : Nat} (hi : i < l.length) :
    ∃ b o, aIdxS u v (.int k i) = some (.pointer (some ⟨b, o, none⟩)) ∧ aLoad true u m (.pointer (some ⟨b, o, none⟩)) = some (.agg (f l[i]).toArray) ∧
      (∀ j, j < u → aLoad false 1 m (.pointer (some ⟨b, o + j, none⟩)) = (f l[i])[j]?) ∧ (SlLt m v → b < m.next) := by
  have hb : ∃ b o, aIdxS u v (.int k i) = some (.pointer (some ⟨b, o, none⟩)) ∧ (SlLt m v → b < m.next) := by
    cases h with
    | nil h hc => omega
    | @«at» b o c hc h =>
      refine ⟨b, o + i * u, ?_, fun h => h⟩
      simp only [aIdxS]; rw [if_pos (by omega), Int.toNat_natCast]
  obtain ⟨b, o, h1, h4⟩ := hb
  obtain ⟨b', o', h1', h2, h3⟩ := h.cell (k := k) hi
  rw [h1] at h1'
  cases h1'
  refine ⟨b, o, h1, by rw [h3, flat_drop hf hi], fun j hj => ?_, h4⟩
  rw [h2 j hj, ← flat_drop hf hi, List.getElem?_take, List.getElem?_drop, if_pos hj]

/-- A block that is there. -/
structure Bk (m : Mem) (b : Nat) (cs : List Value) (u : Nat) : Prop where
  at_ : m.blk b = some (.cells cs (some u))
  lt : b < m.next
theorem Bk.new {m : Mem} {cs : List Value} {u : Nat} : Bk (m.new (.cells cs (some u))) m.next cs u := ⟨by simp [Mem.new], by simp [Mem.new]⟩
theorem Bk.ne {m : Mem} {b u : Nat} {cs : List Value} (h : Bk m b cs u) : (b = m.next) = False := eq_false (Nat.ne_of_lt h.lt)
theorem Bk.keep {m m' : Mem} {b u : Nat} {cs : List Value} (h : Bk m b cs u) (hx : Ext m m') : Bk m' b cs u := ⟨by rw [hx.same _ h.lt]; exact h.at_, Nat.lt_of_lt_of_le h.lt hx.next⟩
theorem Bk.upd {m m' : Mem} {b u : Nat} {cs : List Value} {fp : List Nat} (h : Bk m b cs u) (hx : Upd m m' fp) (hn : b ∉ fp) : Bk m' b cs u := ⟨by rw [hx.same _ h.lt hn]; exact h.at_, Nat.lt_of_lt_of_le h.lt hx.next⟩
end Go.Am


/- Counting the bits of a word by halves, as math/bits does: what it comes to. -/
namespace Go.Am

/-- How many of the first n bits are set. -/
def popN : Nat → Nat → Nat
  | 0, _ => 0
  | n + 1, x => x % 2 + popN n (x / 2)

theorem and_split (a b : Nat) : a &&& b = ((a % 256) &&& (b % 256)) + 256 * ((a / 256) &&& (b / 256)) := by
  have h1 : (a &&& b) % 256 = (a % 256) &&& (b % 256) := by
    have := Nat.and_mod_two_pow (a := a) (b := b) (n := 8)
    simpa using this
  have h2 : (a &&& b) / 256 = (a / 256) &&& (b / 256) := by
    have := Nat.and_div_two_pow (a := a) (b := b) (n := 8)
    simpa using this
  rw [← h1, ← h2]; omega

def rep (m : Nat) : Nat → Nat
  | 0 => 0
  | n + 1 => m + 256 * rep m n

def halves (s m n x : Nat) : Nat := ((x / 2 ^ s) &&& rep m n) + (x &&& rep m n)

theorem halves_step {s m n d x : Nat} (hd : d < 256) (hm : m < 256) (hs : s < 8) (hlow : ∀ c, c < 2 ^ s → ∀ d, d < 256 → ((d / 2 ^ s + 2 ^ (8 - s) * c) &&& m) = (d / 2 ^ s) &&& m) :
    halves s m (n + 1) (d + 256 * x) = halves s m 1 d + 256 * halves s m n x := by
  have e256 : (256 : Nat) = 2 ^ s * 2 ^ (8 - s) := by rw [← Nat.pow_add, show s + (8 - s) = 8 by omega]
  have hp : 0 < 2 ^ s := Nat.pow_pos (by omega)
  have hq : 0 < 2 ^ (8 - s) := Nat.pow_pos (by omega)
  have hdq : d / 2 ^ s < 2 ^ (8 - s) := by
    rw [Nat.div_lt_iff_lt_mul hp, Nat.mul_comm, ← e256]; exact hd
  have hdiv : (d + 256 * x) / 2 ^ s = (d / 2 ^ s + 2 ^ (8 - s) * (x % 2 ^ s)) + 256 * (x / 2 ^ s) := by
    have hx : x = x % 2 ^ s + 2 ^ s * (x / 2 ^ s) := (Nat.mod_add_div x (2 ^ s)).symm
    have : d + 256 * x = d + 2 ^ s * (2 ^ (8 - s) * x) := by rw [← Nat.mul_assoc, ← e256]
    rw [this, Nat.add_mul_div_left _ _ hp]
    conv => lhs; rw [hx]
    rw [Nat.mul_add, ← Nat.mul_assoc, Nat.mul_comm (2 ^ (8 - s)) (2 ^ s), ← e256]; omega
  have hlo : d / 2 ^ s + 2 ^ (8 - s) * (x % 2 ^ s) < 256 := by
    have : x % 2 ^ s < 2 ^ s := Nat.mod_lt _ hp
    have h2 : 2 ^ (8 - s) * (x % 2 ^ s) + 2 ^ (8 - s) ≤ 256 := by
      rw [e256, Nat.mul_comm (2 ^ s), ← Nat.mul_succ]; exact Nat.mul_le_mul_left _ this
    omega
  unfold halves
  simp only [rep, Nat.mul_zero, Nat.add_zero]
  rw [hdiv, and_split (_ + 256 * (x / 2 ^ s)), and_split (d + 256 * x)]
  rw [Nat.add_mul_mod_self_left, Nat.add_mul_mod_self_left, Nat.mod_eq_of_lt hlo, Nat.mod_eq_of_lt hm, Nat.add_mul_mod_self_left, Nat.mod_eq_of_lt hd]
  rw [Nat.add_mul_div_left _ _ (by omega), Nat.add_mul_div_left _ _ (by omega), Nat.add_mul_div_left _ _ (by omega), Nat.div_eq_of_lt hlo, Nat.div_eq_of_lt hm, Nat.div_eq_of_lt hd]
  simp only [Nat.zero_add]
  rw [hlow _ (Nat.mod_lt _ hp) _ hd]
  omega

/-- The third step: one sum, then the mask. -/
def thirds (n x : Nat) : Nat := (x / 16 + x) &&& rep 15 n

theorem thirds_step {n d x : Nat} (hd : d % 16 ≤ 4 ∧ d / 16 ≤ 4) (hx : x % 16 ≤ 4) : thirds (n + 1) (d + 256 * x) = (d / 16 + d % 16) + 256 * thirds n x := by
  unfold thirds
  simp only [rep]
  have h1 : (d + 256 * x) / 16 + (d + 256 * x) = (d / 16 + 16 * (x % 16) + d) + 256 * (x / 16 + x) := by omega
  have h2 : d / 16 + 16 * (x % 16) + d < 256 := by omega
  rw [h1, and_split, Nat.add_mul_mod_self_left, Nat.mod_eq_of_lt h2, Nat.add_mul_div_left _ _ (by omega), Nat.div_eq_of_lt h2]
  rw [show (15 + 256 * rep 15 n) % 256 = 15 by omega, show (15 + 256 * rep 15 n) / 256 = rep 15 n by omega]
  have h3 : (d / 16 + 16 * (x % 16) + d) &&& 15 = (d / 16 + 16 * (x % 16) + d) % 16 := Nat.and_two_pow_sub_one_eq_mod _ 4
  rw [h3, Nat.zero_add]
  omega

/-- The bytes of a number, each counted. -/
def counted : Nat → Nat → Nat
  | 0, _ => 0
  | n + 1, x => popN 8 (x % 256) + 256 * counted n (x / 256)

theorem byte_fact : ∀ d, d < 256 → halves 2 51 1 (halves 1 85 1 d) / 16 + halves 2 51 1 (halves 1 85 1 d) % 16 = popN 8 d ∧ halves 1 85 1 d < 256 ∧
    halves 2 51 1 (halves 1 85 1 d) < 256 ∧ halves 2 51 1 (halves 1 85 1 d) % 16 ≤ 4 ∧ halves 2 51 1 (halves 1 85 1 d) / 16 ≤ 4 := by decide +kernel

theorem low1 : ∀ c, c < 2 ^ 1 → ∀ d, d < 256 → ((d / 2 ^ 1 + 2 ^ (8 - 1) * c) &&& 85) = (d / 2 ^ 1) &&& 85 := by decide +kernel
theorem low2 : ∀ c, c < 2 ^ 2 → ∀ d, d < 256 → ((d / 2 ^ 2 + 2 ^ (8 - 2) * c) &&& 51) = (d / 2 ^ 2) &&& 51 := by decide +kernel

theorem bytes_all : ∀ (n x : Nat), thirds n (halves 2 51 n (halves 1 85 n x)) = counted n x ∧ (0 < n → halves 2 51 n (halves 1 85 n x) % 16 ≤ 4)
  | 0, x => by simp [thirds, halves, rep, counted]
  | n + 1, x => by
    have hd : x % 256 < 256 := Nat.mod_lt _ (by omega)
    obtain ⟨f1, f2, f3, f4, f5⟩ := byte_fact _ hd
    have hx : x = x % 256 + 256 * (x / 256) := by omega
    obtain ⟨i1, i2⟩ := bytes_all n (x / 256)
    have h1 := halves_step (s := 1) (m := 85) (n := n) (x := x / 256) hd (by omega) (by omega) low1
    have h2 := halves_step (s := 2) (m := 51) (n := n) (x := halves 1 85 n (x / 256)) f2 (by omega) (by omega) low2
    rw [← hx] at h1
    rw [h1, h2]
    have hm : halves 2 51 n (halves 1 85 n (x / 256)) % 16 ≤ 4 := by
      cases n with
      | zero => simp [halves, rep]
      | succ n => exact i2 (by omega)
    refine ⟨?_, fun _ => by omega⟩
    rw [thirds_step ⟨f4, f5⟩ hm, i1, f1]
    rfl

theorem popN_le : ∀ (n x : Nat), popN n x ≤ n
  | 0, _ => Nat.le_refl _
  | n + 1, x => by have := popN_le n (x / 2); simp only [popN]; omega

theorem popN_add : ∀ (a b x : Nat), popN (a + b) x = popN a x + popN b (x / 2 ^ a)
  | 0, b, x => by simp [popN]
  | a + 1, b, x => by
    rw [show a + 1 + b = (a + b) + 1 by omega]
    simp only [popN]
    rw [popN_add a b (x / 2), Nat.div_div_eq_div_mul, Nat.pow_succ, Nat.mul_comm 2]
    omega

theorem popN_mod : ∀ (n x : Nat), popN n (x % 2 ^ n) = popN n x
  | 0, _ => rfl
  | n + 1, x => by
    simp only [popN]
    have h1 : x % 2 ^ (n + 1) % 2 = x % 2 := Nat.mod_mod_of_dvd _ ⟨2 ^ n, by rw [Nat.pow_succ, Nat.mul_comm]⟩
    have h2 : x % 2 ^ (n + 1) / 2 = x / 2 % 2 ^ n := by rw [Nat.pow_succ, Nat.mul_comm, Nat.mod_mul_right_div_self]
    rw [h1, h2, popN_mod n]

theorem pop_bytes (x : Nat) : popN 64 x = popN 8 (x % 256) + (popN 8 (x / 256 % 256) + (popN 8 (x / 65536 % 256) + (popN 8 (x / 16777216 % 256) + (popN 8 (x / 4294967296 % 256) + (popN 8 (x / 1099511627776 % 256) + (popN 8 (x / 281474976710656 % 256) + popN 8 (x / 72057594037927936 % 256))))))) := by
  have m : ∀ y, popN 8 (y % 256) = popN 8 y := fun y => popN_mod 8 y
  rw [m, m, m, m, m, m, m, m]
  have h (b y : Nat) : popN (8 + b) y = popN 8 y + popN b (y / 256) := popN_add 8 b y
  have h1 := h 56 x
  have h2 := h 48 (x / 256)
  have h3 := h 40 (x / 65536)
  have h4 := h 32 (x / 16777216)
  have h5 := h 24 (x / 4294967296)
  have h6 := h 16 (x / 1099511627776)
  have h7 := h 8 (x / 281474976710656)
  rw [Nat.div_div_eq_div_mul] at h2 h3 h4 h5 h6 h7
  rw [h1, h2, h3, h4, h5, h6, h7]

theorem sum_nums {c0 c1 c2 c3 c4 c5 c6 c7 y1 y2 : Nat} (p0 : c0 ≤ 8) (p1 : c1 ≤ 8) (p2 : c2 ≤ 8) (p3 : c3 ≤ 8) (p4 : c4 ≤ 8) (p5 : c5 ≤ 8) (p6 : c6 ≤ 8) (p7 : c7 ≤ 8)
    (h1 : y1 = (c0 + 256 * c1 + 65536 * c2 + 16777216 * c3 + 4294967296 * c4 + 1099511627776 * c5 + 281474976710656 * c6 + 72057594037927936 * c7) + (c1 + 256 * c2 + 65536 * c3 + 16777216 * c4 + 4294967296 * c5 + 1099511627776 * c6 + 281474976710656 * c7))
    (h2 : y2 = y1 + y1 / 65536) : (y2 + y2 / 4294967296) % 128 = c0 + c1 + c2 + c3 + c4 + c5 + c6 + c7 ∧ y1 < 18446744073709551616 ∧ y2 < 18446744073709551616 ∧ y2 + y2 / 4294967296 < 18446744073709551616 := by
  have a2 : y1 / 65536 = (c2 + c3) + 256 * (c3 + c4) + 65536 * (c4 + c5) + 16777216 * (c5 + c6) + 4294967296 * (c6 + c7) + 1099511627776 * c7 := by omega
  rw [a2] at h2
  have a3 : y2 / 4294967296 = (c4 + c5 + c6 + c7) + 256 * (c5 + c6 + c7) + 65536 * (c6 + c7) + 16777216 * c7 := by omega
  rw [a3]
  refine ⟨?_, ?_, ?_, ?_⟩
  · clear a2 a3; subst h1; subst h2; omega
  · omega
  · omega
  · omega

def pop (x : BitVec 64) : Nat := popN 64 x.toNat

theorem rep85 : rep 85 8 = 6148914691236517205 := by decide
theorem rep51 : rep 51 8 = 3689348814741910323 := by decide
theorem rep15 : rep 15 8 = 1085102592571150095 := by decide

theorem pop1 (x : BitVec 64) : ((x >>> 1 &&& 6148914691236517205#64) + (x &&& 6148914691236517205#64)).toNat = halves 1 85 8 x.toNat := by
  unfold halves
  rw [rep85]
  have h1 : (x.toNat / 2 ^ 1) &&& 6148914691236517205 ≤ 6148914691236517205 := Nat.and_le_right
  have h2 : x.toNat &&& 6148914691236517205 ≤ 6148914691236517205 := Nat.and_le_right
  rw [BitVec.toNat_add, BitVec.toNat_and, BitVec.toNat_and, BitVec.toNat_ushiftRight, Nat.shiftRight_eq_div_pow]
  exact Nat.mod_eq_of_lt (by simp only [BitVec.toNat_ofNat, Nat.reducePow, Nat.reduceMod] at *; omega)

theorem pop2 (x : BitVec 64) : ((x >>> 2 &&& 3689348814741910323#64) + (x &&& 3689348814741910323#64)).toNat = halves 2 51 8 x.toNat := by
  unfold halves
  rw [rep51]
  have h1 : (x.toNat / 2 ^ 2) &&& 3689348814741910323 ≤ 3689348814741910323 := Nat.and_le_right
  have h2 : x.toNat &&& 3689348814741910323 ≤ 3689348814741910323 := Nat.and_le_right
  rw [BitVec.toNat_add, BitVec.toNat_and, BitVec.toNat_and, BitVec.toNat_ushiftRight, Nat.shiftRight_eq_div_pow]
  exact Nat.mod_eq_of_lt (by simp only [BitVec.toNat_ofNat, Nat.reducePow, Nat.reduceMod] at *; omega)

theorem pop3 (x : BitVec 64) (hx : x.toNat ≤ 2 * rep 51 8) : ((x >>> 4 + x) &&& 1085102592571150095#64).toNat = thirds 8 x.toNat := by
  unfold thirds
  rw [rep15]
  rw [rep51] at hx
  rw [BitVec.toNat_and, BitVec.toNat_add, BitVec.toNat_ushiftRight, Nat.shiftRight_eq_div_pow, Nat.mod_eq_of_lt (by omega)]
  rfl

theorem add_shr (x : BitVec 64) (k q : Nat) (hq : 2 ^ k = q) (h : x.toNat + x.toNat / q < 18446744073709551616) : (x + x >>> k).toNat = x.toNat + x.toNat / q := by
  subst hq
  rw [BitVec.toNat_add, BitVec.toNat_ushiftRight, Nat.shiftRight_eq_div_pow]
  exact Nat.mod_eq_of_lt h

theorem counted8 (y : Nat) : counted 8 y = popN 8 (y % 256) + 256 * (popN 8 (y / 256 % 256) + 256 * (popN 8 (y / 65536 % 256) + 256 * (popN 8 (y / 16777216 % 256) + 256 * (popN 8 (y / 4294967296 % 256) + 256 * (popN 8 (y / 1099511627776 % 256) + 256 * (popN 8 (y / 281474976710656 % 256) + 256 * popN 8 (y / 72057594037927936 % 256))))))) := by
  simp only [counted, Nat.div_div_eq_div_mul, Nat.reduceMul, Nat.mul_zero, Nat.add_zero]

theorem final_nums {c0 c1 c2 c3 c4 c5 c6 c7 : Nat} {c d e f : BitVec 64} (p0 : c0 ≤ 8) (p1 : c1 ≤ 8) (p2 : c2 ≤ 8) (p3 : c3 ≤ 8) (p4 : c4 ≤ 8) (p5 : c5 ≤ 8) (p6 : c6 ≤ 8) (p7 : c7 ≤ 8)
    (h4 : c.toNat = c0 + 256 * (c1 + 256 * (c2 + 256 * (c3 + 256 * (c4 + 256 * (c5 + 256 * (c6 + 256 * c7)))))))
    (hd : d = c + c >>> 8) (he : e = d + d >>> 16) (hf : f = e + e >>> 32) : f.toNat % 128 = c0 + (c1 + (c2 + (c3 + (c4 + (c5 + (c6 + c7)))))) := by
  obtain ⟨cn, hcn⟩ : ∃ n, n = c.toNat := ⟨_, rfl⟩
  obtain ⟨y1, hy1⟩ : ∃ n, n = cn + cn / 256 := ⟨_, rfl⟩
  obtain ⟨y2, hy2⟩ : ∃ n, n = y1 + y1 / 65536 := ⟨_, rfl⟩
  obtain ⟨y3, hy3⟩ : ∃ n, n = y2 + y2 / 4294967296 := ⟨_, rfl⟩
  have e0 : y1 = (c0 + 256 * c1 + 65536 * c2 + 16777216 * c3 + 4294967296 * c4 + 1099511627776 * c5 + 281474976710656 * c6 + 72057594037927936 * c7) + (c1 + 256 * c2 + 65536 * c3 + 16777216 * c4 + 4294967296 * c5 + 1099511627776 * c6 + 281474976710656 * c7) := by omega
  obtain ⟨s1, s2, s3, s4⟩ := sum_nums p0 p1 p2 p3 p4 p5 p6 p7 e0 hy2
  have hd2 : d.toNat = y1 := by
    have := add_shr c 8 256 rfl (by rw [← hcn, ← hy1]; exact s2)
    rw [← hd, ← hcn, ← hy1] at this; exact this
  have he2 : e.toNat = y2 := by
    have := add_shr d 16 65536 rfl (by rw [hd2, ← hy2]; exact s3)
    rw [← he, hd2, ← hy2] at this; exact this
  have hf2 : f.toNat = y3 := by
    have := add_shr e 32 4294967296 rfl (by rw [he2]; exact s4)
    rw [← hf, he2, ← hy3] at this; exact this
  rw [hf2, hy3, s1]
  simp only [Nat.add_assoc]

attribute [local irreducible] popN counted halves thirds rep

/-- What math/bits computes: the number of the bits. -/
theorem pop_word (x : BitVec 64) (a b c d e f : BitVec 64) (ha : a = (x >>> 1 &&& 6148914691236517205#64) + (x &&& 6148914691236517205#64)) (hb : b = (a >>> 2 &&& 3689348814741910323#64) + (a &&& 3689348814741910323#64))
    (hc : c = (b >>> 4 + b) &&& 1085102592571150095#64) (hd : d = c + c >>> 8) (he : e = d + d >>> 16) (hf : f = e + e >>> 32) : f.toNat % 128 = pop x := by
  have h1 : a.toNat = halves 1 85 8 x.toNat := by rw [ha]; exact pop1 x
  have h2 : b.toNat = halves 2 51 8 a.toNat := by rw [hb]; exact pop2 a
  have h3 : c.toNat = thirds 8 b.toNat := by
    rw [hc]; refine pop3 b ?_
    rw [h2]; unfold halves
    have h4 : (a.toNat / 2 ^ 2) &&& rep 51 8 ≤ rep 51 8 := Nat.and_le_right
    have h5 : a.toNat &&& rep 51 8 ≤ rep 51 8 := Nat.and_le_right
    omega
  have h4 : c.toNat = counted 8 x.toNat := by rw [h3, h2, h1]; exact (bytes_all 8 x.toNat).1
  rw [counted8] at h4
  unfold pop
  rw [pop_bytes]
  have p := fun y => popN_le 8 y
  exact final_nums (p _) (p _) (p _) (p _) (p _) (p _) (p _) (p _) h4 hd he hf
end Go.Am


/- Words as sets of numbers below 64: plain facts. -/
set_option linter.unusedVariables false
namespace Go.Am

theorem word_ext {x y : BitVec 64} (h : ∀ i, i < 64 → x.getLsbD i = y.getLsbD i) : x = y := BitVec.eq_of_getLsbD_eq fun i hi => h i hi

/-- The numbers below n. -/
def allB (n : Nat) : BitVec 64 := BitVec.ofNat 64 (2 ^ n - 1)

theorem allB_bit (n i : Nat) : (allB n).getLsbD i = (decide (i < 64) && decide (i < n)) := by
  unfold allB
  rw [BitVec.getLsbD_ofNat, Nat.testBit_two_pow_sub_one]

theorem allB_64 : allB 64 = 18446744073709551615#64 := by decide

theorem allB_shl {n : Nat} (h : n < 64) : (1#64 <<< n) - 1#64 = allB n := by
  unfold allB
  apply BitVec.eq_of_toNat_eq
  have h1 : 2 ^ n < 2 ^ 64 := Nat.pow_lt_pow_right (by omega) h
  have h0 : 0 < 2 ^ n := Nat.pow_pos (by omega)
  rw [BitVec.toNat_sub, BitVec.toNat_shiftLeft, BitVec.toNat_ofNat, Nat.shiftLeft_eq, BitVec.toNat_ofNat]
  simp only [Nat.reducePow, Nat.reduceMod, Nat.one_mul] at *
  rw [Nat.mod_eq_of_lt h1, Nat.mod_eq_of_lt (by omega : 2 ^ n - 1 < _)]
  omega

/-- One more. -/
def setB (x : BitVec 64) (t : Nat) : BitVec 64 := x ||| (1#64 <<< t)

theorem one_bit {t i : Nat} (ht : t < 64) : (1#64 <<< t).getLsbD i = decide (i = t) := by
  rw [BitVec.getLsbD_shiftLeft]
  by_cases h : i = t
  · subst h; simp [ht]
  · by_cases h2 : i < t
    · simp [h, h2]
    · have : i - t ≠ 0 := by omega
      simp [h, this]

theorem setB_bit {x : BitVec 64} {t i : Nat} (ht : t < 64) : (setB x t).getLsbD i = (x.getLsbD i || decide (i = t)) := by
  unfold setB
  rw [BitVec.getLsbD_or, one_bit ht]

theorem setB_add {x : BitVec 64} {t : Nat} (ht : t < 64) (h : x.getLsbD t = false) : x + (1#64 <<< t) = setB x t := by
  unfold setB
  refine BitVec.add_eq_or_of_and_eq_zero _ _ (word_ext fun i hi => ?_)
  rw [BitVec.getLsbD_and, one_bit ht]
  by_cases e : i = t
  · subst e; simp [h]
  · simp [e]

theorem setB_same {x : BitVec 64} {t : Nat} (ht : t < 64) (h : x.getLsbD t = true) : setB x t = x := by
  refine word_ext fun i hi => ?_
  rw [setB_bit ht]
  by_cases e : i = t
  · subst e; simp [h]
  · simp [e]

/-- Whether a number is in a word. -/
def inB (x : BitVec 64) (t : Int) : Bool := decide (0 ≤ t) && decide (t < 64) && x.getLsbD t.toNat

theorem shr_bit {x : BitVec 64} {t : Nat} : (x >>> t &&& 1#64) = (if x.getLsbD t then 1#64 else 0#64) := by
  refine word_ext fun i hi => ?_
  rw [BitVec.getLsbD_and, BitVec.getLsbD_ushiftRight]
  by_cases e : i = 0
  · subst e
    cases x.getLsbD t <;> simp
  · split <;> simp [e]

theorem umod_bit {x : BitVec 64} : x % 2#64 = x &&& 1#64 := by
  apply BitVec.eq_of_toNat_eq
  rw [BitVec.toNat_umod, BitVec.toNat_and]
  exact (Nat.and_two_pow_sub_one_eq_mod x.toNat 1).symm

def withB (x : BitVec 64) (t : Int) : BitVec 64 := if 0 ≤ t ∧ t < 64 then setB x t.toNat else x

theorem withB_bit {x : BitVec 64} {t : Int} {i : Nat} (hi : i < 64) : (withB x t).getLsbD i = (x.getLsbD i || decide ((i : Int) = t)) := by
  unfold withB
  split
  · rw [setB_bit (by omega)]
    congr 1
    rw [Bool.eq_iff_iff]; simp only [decide_eq_true_eq]; omega
  · have : ¬ (i : Int) = t := by omega
    simp [this]
end Go.Am


/- MaskW over the table of weave (relayset.py). -/
set_option linter.unusedVariables false
set_option linter.unusedSimpArgs false
namespace Go.Am
variable {m : Mem}

def fr (f : Int) : Int := min (max f 0) 64

theorem mask_frame_spec {f : Int} : WC R F.mask_frame [.int .i64 f] m fun v m' => v = .int .i64 (fr f) ∧ m' = m := by
  refine WC.of R.mask_frame rfl ?_
  simp only [RC.mask_frame, go_sem]
  congr 1
  unfold fr
  split <;> split <;> omega

theorem mask_All_spec {f : Int} : WC R F.mask_All [.int .i64 f] m fun v m' => v = u64 (allB (fr f).toNat) ∧ m' = m := by
  refine WC.of R.mask_All rfl ?_
  simp only [RC.mask_All, go_sem]
  refine gC.of mask_frame_spec ?_
  rintro _ _ ⟨rfl, rfl⟩
  simp only [go_sem]
  have hf : 0 ≤ fr f ∧ fr f ≤ 64 := by unfold fr; omega
  refine gT.of (fun h => ?_) (fun h => ?_)
  · simp only [go_sem]; simp at h; rw [h]; rw [← allB_64]; rfl
  · simp only [go_sem]; simp at h; refine ⟨hf.1, ?_⟩; rw [allB_shl (by omega)]

theorem inB_of {x : BitVec 64} {t : Int} (h0 : 0 ≤ t) (h1 : t < 64) : inB x t = x.getLsbD t.toNat := by unfold inB; simp [h0, h1]
theorem inB_not {x : BitVec 64} {t : Int} (h : ¬ (0 ≤ t ∧ t < 64)) : inB x t = false := by
  unfold inB
  by_cases h0 : 0 ≤ t
  · have : ¬ t < 64 := fun h1 => h ⟨h0, h1⟩
    simp [this]
  · simp [h0]

theorem bit_eq {x : BitVec 64} {n : Nat} : decide (x >>> n &&& 1#64 = 1#64) = x.getLsbD n := by
  rw [shr_bit]; cases x.getLsbD n <;> decide

theorem mask_Has_spec {x : BitVec 64} {t : Int} : WC R F.mask_Has [u64 x, .int .i64 t] m fun v m' => v = .bool (inB x t) ∧ m' = m := by
  refine WC.of R.mask_Has rfl ?_
  simp only [RC.mask_Has, go_sem]
  refine gT.of (fun h => ?_) (fun h => ?_)
  · simp only [go_sem, h]
    refine gT.of (fun h2 => ?_) (fun h2 => ?_)
    · simp only [go_sem, h, h2]
      simp only [decide_eq_true_eq] at h h2
      exact ⟨h, by rw [bit_eq, inB_of h h2]⟩
    · simp only [go_sem, h, h2]
      simp only [decide_eq_true_eq, decide_eq_false_iff_not] at h h2
      rw [inB_not (by omega)]
  · simp only [go_sem, h]
    simp only [decide_eq_false_iff_not] at h
    rw [inB_not (by omega)]

theorem ofInt_nat {t : Int} (h : 0 ≤ t) (h1 : t < 18446744073709551616) : (BitVec.ofInt 64 t).toNat = t.toNat := by
  rw [BitVec.toNat_ofInt]; congr 1; exact Int.emod_eq_of_lt h h1

theorem ref04_Has_spec {x : BitVec 64} {t : Int} : WC R F.ref04_Has [u64 x, .int .i64 t] m fun v m' => v = .bool (inB x t) ∧ m' = m := by
  refine WC.of R.ref04_Has rfl ?_
  simp only [RC.ref04_Has, go_sem]
  refine gT.of (fun h => ?_) (fun h => ?_)
  · simp only [go_sem, h]
    simp only [decide_eq_true_eq] at h
    rw [inB_not (by omega)]
  · simp only [go_sem, h]
    refine gT.of (fun h2 => ?_) (fun h2 => ?_)
    · simp only [go_sem, h, h2]
      simp only [decide_eq_true_eq, decide_eq_false_iff_not] at h h2
      rw [inB_not (by omega)]
    · simp only [go_sem, h, h2]
      simp only [decide_eq_true_eq, decide_eq_false_iff_not] at h h2
      refine ⟨by decide, ?_⟩
      rw [umod_bit, ofInt_nat (by omega) (by omega), bit_eq, inB_of (by omega) (by omega)]

theorem and127 {n : Nat} : aBin .and (.int .i64 (IntKind.wrap .i64 n)) (.int .i64 127) = some (.int .i64 (n % 128 : Nat)) := by
  rw [bin_and]
  have h1 : BitVec.ofInt 64 (IntKind.wrap .i64 n) = BitVec.ofNat 64 n := by
    apply BitVec.eq_of_toNat_eq
    rw [BitVec.toNat_ofInt, BitVec.toNat_ofNat]
    simp only [IntKind.wrap, IntKind.bits, IntKind.signed, Bool.true_and, decide_eq_true_eq, Nat.reducePow, Int.reducePow, Nat.reduceSub, ge_iff_le]
    split <;> omega
  have h2 : BitVec.ofInt 64 127 = BitVec.ofNat 64 127 := by decide
  have h3 : (BitVec.ofNat 64 n &&& BitVec.ofNat 64 127).toNat = n % 128 := by
    rw [BitVec.toNat_and, BitVec.toNat_ofNat, BitVec.toNat_ofNat]
    have := Nat.and_two_pow_sub_one_eq_mod (n % 2 ^ 64) 7
    rw [show (127 % 2 ^ 64 : Nat) = 2 ^ 7 - 1 by decide, this]
    omega
  show some (Value.int .i64 (IntKind.i64.wrap ((BitVec.ofInt 64 (IntKind.wrap .i64 n) &&& BitVec.ofInt 64 127).toNat : Int))) = _
  rw [h1, h2, h3, wrap_i64 (by omega) (by omega)]

theorem ones_spec {x : BitVec 64} : WC R F.math_bits_OnesCount64 [u64 x] m fun v m' => v = .int .i64 (pop x) ∧ m' = m := by
  refine WC.of R.math_bits_OnesCount64 rfl ?_
  simp only [RC.math_bits_OnesCount64, go_sem, BitVec.toNat_ofNat, Nat.reducePow, Nat.reduceMod]
  rw [and127, pop_word x _ _ _ _ _ _ rfl rfl rfl rfl rfl rfl, Got.some]
  simp only [go_sem]

theorem mask_Count_spec {x : BitVec 64} : WC R F.mask_Count [u64 x] m fun v m' => v = .int .i64 (pop x) ∧ m' = m := by
  refine WC.of R.mask_Count rfl ?_
  simp only [RC.mask_Count, go_sem]
  refine gC.of ones_spec ?_
  rintro _ _ ⟨rfl, rfl⟩
  simp only [go_sem]

theorem ref04_With_spec {x : BitVec 64} {t : Int} : WC R F.ref04_With [u64 x, .int .i64 t] m fun v m' => v = u64 (withB x t) ∧ m' = m := by
  refine WC.of R.ref04_With rfl ?_
  simp only [RC.ref04_With, go_sem]
  refine gC.of ref04_Has_spec ?_
  rintro _ _ ⟨rfl, rfl⟩
  simp only [go_sem]
  refine gT.of (fun h => ?_) (fun h => ?_)
  · simp only [go_sem, h]
    unfold withB
    split
    · rename_i h2
      rw [inB_of h2.1 h2.2] at h
      rw [setB_same (by omega) h]
    · rfl
  · simp only [go_sem, h]
    refine gT.of (fun h2 => ?_) (fun h2 => ?_)
    · simp only [go_sem, h, h2]
      simp only [decide_eq_true_eq] at h2
      rw [withB, if_neg (by omega)]
    · simp only [go_sem, h, h2]
      refine gT.of (fun h3 => ?_) (fun h3 => ?_)
      · simp only [go_sem, h, h2, h3]
        simp only [decide_eq_true_eq] at h3
        rw [withB, if_neg (by omega)]
      · simp only [go_sem, h, h2, h3]
        simp only [decide_eq_false_iff_not] at h2 h3
        rw [inB_of (by omega) (by omega)] at h
        rw [ofInt_nat (by omega) (by omega), setB_add (by omega) h, withB, if_pos (by omega)]

end Go.Am


/- Functions of the library that are told by a contract alone. -/
namespace Go.Am

end Go.Am


/- The lowest bit of a word. -/
set_option linter.unusedVariables false
namespace Go.Am

end Go.Am


/- MaskW2 over the table of weave (relayset.py). -/
set_option linter.unusedVariables false
set_option linter.unusedSimpArgs false
namespace Go.Am
variable {m : Mem}

def ints (l : List Nat) : List Value := l.map fun (t : Nat) => Value.int .i64 (t : Int)

/-- The numbers of a word below n, rising. -/
def tks (x : BitVec 64) (n : Nat) : List Nat := (List.range n).filter fun i => x.getLsbD i

theorem tks_succ {x : BitVec 64} {n : Nat} : tks x (n + 1) = tks x n ++ (if x.getLsbD n then [n] else []) := by
  unfold tks
  rw [List.range_succ, List.filter_append]
  congr 1
  cases h : x.getLsbD n <;> simp [List.filter, h]

theorem tks_len {x : BitVec 64} {n : Nat} : (tks x n).length ≤ n := by
  unfold tks
  exact Nat.le_trans (List.length_filter_le _ _) (by simp)

theorem Own.empty {m m1 : Mem} {u : Nat} (hx : Ext m m1) : Own m (m1.new (.cells [] (some u))) u 0 [] (.slice (some ⟨m1.next, 0, none⟩) 0 0) :=
  .at (all := []) hx.next (by simp [Mem.new]) (Nat.le_refl _) (by simp [Mem.new]) (by simp) (by simp) rfl

theorem ref04_Ticks_spec {x : BitVec 64} : WC R F.ref04_Ticks [u64 x] m fun v m' => Own m m' 1 (tks x 64).length (ints (tks x 64)) v ∧ Ext m m' := by
  refine WC.of R.ref04_Ticks rfl ?_
  simp only [RC.ref04_Ticks, RB.ref04_Ticks_1, go_sem]
  refine WL.of (fun l e m' => ∃ (i : Nat) (v : Value), i ≤ 64 ∧ l = 64 - i ∧ e = [(0, u64 x), (3, v), (4, .int .i64 i)] ∧ Own m m' 1 (tks x i).length (ints (tks x i)) v ∧ Ext m m') 64
    ⟨0, _, by omega, by omega, by simp only [go_sem] <;> rfl, Own.empty (Ext.refl m), Ext.new⟩ ?_
  rintro _ _ m1 ⟨i, v, hi, rfl, rfl, ho, hx⟩
  simp only [go_sem]
  refine gT.of (fun h => ?_) (fun h => ?_)
  · simp only [go_sem, h]
    simp only [decide_eq_true_eq] at h
    refine gC.of ref04_Has_spec ?_
    rintro _ m_ ⟨rfl, hm_⟩
    replace hm_ := hm_.symm
    subst hm_
    simp only [go_sem]
    have hb : inB x (i : Int) = x.getLsbD i := by rw [inB_of (by omega) (by omega), Int.toNat_natCast]
    rw [hb]
    refine gT.of (fun h2 => ?_) (fun h2 => ?_)
    · simp only [go_sem, h2]
      obtain ⟨v', m2, e1, e2, e3⟩ := ho.app (by_ := 8) (es := [.int .i64 i]) hx (by omega) rfl rfl (by have := tks_len (x := x) (n := i); omega) (by have := tks_len (x := x) (n := i); omega)
      rw [e1, Got.some]
      simp only [go_sem]
      refine ⟨_, ?_, i + 1, v', by omega, rfl, ?_, ?_, e3⟩
      · omega
      · rw [wrap_i64 (by omega) (by omega)]; rfl
      · rw [tks_succ, if_pos h2]; simpa [ints] using e2
    · simp only [go_sem, h2]
      refine ⟨_, ?_, i + 1, v, by omega, rfl, ?_, ?_, hx⟩
      · omega
      · rw [wrap_i64 (by omega) (by omega)]; rfl
      · rw [tks_succ, if_neg (by simp [h2])]; simpa using ho
  · simp only [go_sem, h]
    simp only [decide_eq_false_iff_not] at h
    have : i = 64 := by omega
    subst this
    exact ⟨ho, hx⟩

theorem ref04_Count_spec {x : BitVec 64} : WC R F.ref04_Count [u64 x] m fun v m' => v = .int .i64 (tks x 64).length ∧ Ext m m' := by
  refine WC.of R.ref04_Count rfl ?_
  simp only [RC.ref04_Count, go_sem]
  refine gC.of ref04_Ticks_spec ?_
  rintro v m1 ⟨ho, hx⟩
  simp only [go_sem, ho.sl.len]
  exact hx

end Go.Am


/- MaskW3 over the table of weave (relayset.py). -/
set_option linter.unusedVariables false
set_option linter.unusedSimpArgs false
namespace Go.Am
variable {m : Mem}

end Go.Am


/- MaskRank over the table of weave (relayset.py). -/
set_option linter.unusedVariables false
set_option linter.unusedSimpArgs false
namespace Go.Am
variable {m : Mem}

end Go.Am


/- MaskW4 over the table of weave (relayset.py). -/
set_option linter.unusedVariables false
set_option linter.unusedSimpArgs false
namespace Go.Am
variable {m : Mem}

theorem ints_get {l : List Nat} {i : Nat} (h : i < l.length) : (ints l)[i]? = some (.int .i64 (l[i] : Nat)) := by
  unfold ints; rw [List.getElem?_map, List.getElem?_eq_getElem h]; rfl

end Go.Am


/- PlanD over the table of weave (relayset.py). -/
set_option linter.unusedVariables false
set_option linter.unusedSimpArgs false
namespace Go.Am
abbrev pt (b : Nat) : Value := .pointer (some ⟨b, 0, none⟩)
abbrev Pc := Int × BitVec 64
structure Pl where
  unit : Int
  share : Int
  core : Int
  pieces : List Pc
structure PlanD where
  frame : Int
  cores : BitVec 32
  places : List Pl

def pcV (p : Pc) : List Value := [.int .i64 p.1, u64 p.2]
theorem pcV_len (p : Pc) : (pcV p).length = 2 := rfl

/-- Pieces. -/
def PcV (m : Mem) (ps : List Pc) (v : Value) : Prop := Sl m 2 ps.length (ps.flatMap pcV) v ∧ SlLt m v
theorem PcV.keep {m m' : Mem} {ps : List Pc} {v : Value} (h : PcV m ps v) (hx : Ext m m') : PcV m' ps v := ⟨h.1.keep h.2 hx, h.2.keep hx⟩

def plV (x : Pl) (pv : Value) : List Value := [.int .i64 x.unit, .int .i64 x.share, .int .i64 x.core, pv]
/-- A place. -/
def PlV (m : Mem) (x : Pl) (v : Value) : Prop := ∃ pv, v = .agg (plV x pv).toArray ∧ PcV m x.pieces pv
theorem PlV.keep {m m' : Mem} {x : Pl} {v : Value} (h : PlV m x v) (hx : Ext m m') : PlV m' x v := let ⟨pv, a, b⟩ := h; ⟨pv, a, b.keep hx⟩

/-- Places. -/
def PlsV (m : Mem) (l : List Pl) (v : Value) : Prop := ∃ cs, Sl m 4 l.length cs v ∧ SlLt m v ∧ ∀ (i : Nat) (h : i < l.length), ∃ pv, (cs.drop (i * 4)).take 4 = plV l[i] pv ∧ PcV m l[i].pieces pv
theorem PlsV.keep {m m' : Mem} {l : List Pl} {v : Value} (h : PlsV m l v) (hx : Ext m m') : PlsV m' l v := by
  obtain ⟨cs, a, b, c⟩ := h
  refine ⟨cs, a.keep b hx, b.keep hx, fun i hi => ?_⟩
  obtain ⟨pv, d, e⟩ := c i hi
  exact ⟨pv, d, e.keep hx⟩

def planV (p : PlanD) (pv : Value) : List Value := [.int .i64 p.frame, u32 p.cores, pv]
/-- A plan. -/
def PlanV (m : Mem) (p : PlanD) (v : Value) : Prop := ∃ pv, v = .agg (planV p pv).toArray ∧ PlsV m p.places pv
theorem PlanV.keep {m m' : Mem} {p : PlanD} {v : Value} (h : PlanV m p v) (hx : Ext m m') : PlanV m' p v := let ⟨pv, a, b⟩ := h; ⟨pv, a, b.keep hx⟩

theorem PlsV.one {m : Mem} {l : List Pl} {v : Value} (h : PlsV m l v) : v.oneCell' = true := let ⟨_, a, _⟩ := h; a.one
theorem PcV.one {m : Mem} {l : List Pc} {v : Value} (h : PcV m l v) : v.oneCell' = true := h.1.one
theorem PlsV.cells {m : Mem} {l : List Pl} {v : Value} (h : PlsV m l v) : v.cells = #[v] := let ⟨_, a, _⟩ := h; a.cells
theorem PcV.cells {m : Mem} {l : List Pc} {v : Value} (h : PcV m l v) : v.cells = #[v] := h.1.cells

theorem PlsV.len {m : Mem} {l : List Pl} {v : Value} (h : PlsV m l v) : aLen v = some (.int .i64 l.length) := let ⟨_, a, _⟩ := h; a.len
theorem PcV.len {m : Mem} {l : List Pc} {v : Value} (h : PcV m l v) : aLen v = some (.int .i64 l.length) := h.1.len

/-- What is read of a place. -/
theorem PlsV.elem {m : Mem} {l : List Pl} {v : Value} (h : PlsV m l v) {i : Nat} (hi : i < l.length) : ∃ b o pv, aIdxS 4 v (.int .i64 i) = some (.pointer (some ⟨b, o, none⟩)) ∧
    aLoad true 4 m (.pointer (some ⟨b, o, none⟩)) = some (.agg (plV l[i] pv).toArray) ∧ (∀ j, j < 4 → aLoad false 1 m (.pointer (some ⟨b, o + j, none⟩)) = (plV l[i] pv)[j]?) ∧ PcV m l[i].pieces pv ∧ b < m.next := by
  obtain ⟨cs, a, b, c⟩ := h
  obtain ⟨pv, d, e⟩ := c i hi
  have hlt : ∃ b o, aIdxS 4 v (.int .i64 i) = some (.pointer (some ⟨b, o, none⟩)) ∧ b < m.next := by
    cases a with
    | nil h hc => omega
    | @«at» b' o c hc h =>
      refine ⟨b', o + i * 4, ?_, b⟩
      simp only [aIdxS]; rw [if_pos (by omega), Int.toNat_natCast]
  obtain ⟨b', o', h1, h4⟩ := hlt
  obtain ⟨b'', o'', h1', h2, h3⟩ := a.cell (k := .i64) hi
  rw [h1] at h1'
  cases h1'
  refine ⟨b', o', pv, h1, by rw [h3, d], fun j hj => ?_, e, h4⟩
  rw [h2 j hj, ← d, List.getElem?_take, List.getElem?_drop, if_pos hj]

/-- What is read of a piece. -/
theorem PcV.elem {m : Mem} {l : List Pc} {v : Value} (h : PcV m l v) {i : Nat} (hi : i < l.length) : ∃ b o, aIdxS 2 v (.int .i64 i) = some (.pointer (some ⟨b, o, none⟩)) ∧
    aLoad true 2 m (.pointer (some ⟨b, o, none⟩)) = some (.agg (pcV l[i]).toArray) ∧ (∀ j, j < 2 → aLoad false 1 m (.pointer (some ⟨b, o + j, none⟩)) = (pcV l[i])[j]?) ∧ b < m.next := by
  obtain ⟨b, o, a1, a2, a3, a4⟩ := h.1.elem pcV_len (k := .i64) hi
  exact ⟨b, o, a1, a2, a3, a4 h.2⟩

/-! ### as arguments -/

theorem pcs_read {m : Mem} {v : Value} (h : Rd m (.sl [.int .i64, .int .u64]) v) : ∃ l : List Pc, PcV m l v := by
  obtain ⟨l, h1, h2, -⟩ := Rd.slice (f := pcV) (fun cs hc => by
    obtain ⟨c, r, rfl, g1, g2⟩ := hc.one
    obtain ⟨d, r, rfl, g3, g4⟩ := g2.one
    cases g4.none
    obtain ⟨a, rfl, -⟩ := g1.i64
    obtain ⟨b, rfl⟩ := g3.u64
    exact ⟨(a, b), rfl⟩) h
  exact ⟨l, h1, h2⟩

theorem rd_u32 {m : Mem} {v : Value} (h : Rd m (.int .u32) v) : ∃ x : BitVec 32, v = Go.Am.u32 x := by
  simp only [Rd] at h
  obtain ⟨n, rfl, hw⟩ := h
  have : IntKind.u32.min = 0 := by decide
  have : IntKind.u32.max = 4294967295 := by decide
  simp only [Lit.wf, Bool.and_eq_true, decide_eq_true_eq] at hw
  refine ⟨BitVec.ofNat 32 n.toNat, ?_⟩
  unfold Go.Am.u32
  rw [BitVec.toNat_ofNat, Nat.mod_eq_of_lt (by omega)]
  congr 1; omega

theorem list_choice {α : Type} {P : Nat → α → Prop} : ∀ {n : Nat}, (∀ i, i < n → ∃ a, P i a) → ∃ l : List α, l.length = n ∧ ∀ (i : Nat) (h : i < l.length), P i l[i]
  | 0, _ => ⟨[], rfl, by simp⟩
  | n + 1, h => by
    obtain ⟨l, h1, h2⟩ := list_choice (n := n) fun i hi => h i (by omega)
    obtain ⟨a, ha⟩ := h n (by omega)
    refine ⟨l ++ [a], by simp [h1], fun i hi => ?_⟩
    by_cases e : i < l.length
    · rw [List.getElem_append_left e]; exact h2 i e
    · have : i = n := by simp at hi; omega
      subst this
      rw [List.getElem_append_right (by omega)]; simpa using ha

abbrev pcSh : List Sh := [.int .i64, .int .u64]
abbrev plSh : List Sh := [.int .i64, .int .i64, .int .i64, .sl pcSh]
abbrev planSh : List Sh := [.int .i64, .int .u32, .sl plSh]

theorem pl_read {m : Mem} {cs : List Value} (h : RdL m plSh cs) : ∃ (x : Pl) (pv : Value), cs = plV x pv ∧ PcV m x.pieces pv ∧ (-9223372036854775808 ≤ x.unit ∧ x.unit ≤ 9223372036854775807) ∧ (-9223372036854775808 ≤ x.share ∧ x.share ≤ 9223372036854775807) ∧ (-9223372036854775808 ≤ x.core ∧ x.core ≤ 9223372036854775807) := by
  obtain ⟨a, r, rfl, h1, k1⟩ := h.one
  obtain ⟨b, r, rfl, h2, k2⟩ := k1.one
  obtain ⟨c, r, rfl, h3, k3⟩ := k2.one
  obtain ⟨d, r, rfl, h4, k4⟩ := k3.one
  cases k4.none
  obtain ⟨u, rfl, b1⟩ := h1.i64; obtain ⟨s, rfl, b2⟩ := h2.i64; obtain ⟨c, rfl, b3⟩ := h3.i64
  obtain ⟨l, hl⟩ := pcs_read h4
  exact ⟨⟨u, s, c, l⟩, d, rfl, hl, b1, b2, b3⟩

theorem pls_read {m : Mem} {v : Value} (h : Rd m (.sl plSh) v) : ∃ l : List Pl, PlsV m l v ∧ ∀ x ∈ l, (-9223372036854775808 ≤ x.unit ∧ x.unit ≤ 9223372036854775807) ∧ (-9223372036854775808 ≤ x.share ∧ x.share ≤ 9223372036854775807) ∧ (-9223372036854775808 ≤ x.core ∧ x.core ≤ 9223372036854775807) := by
  simp only [Rd] at h
  obtain ⟨n, cs, h1, h2, h3, h4, -⟩ := h
  obtain ⟨l, rfl, hl⟩ := list_choice fun i hi => pl_read (h4 i hi)
  refine ⟨l, ⟨cs, h1, h2, fun i hi => ?_⟩, fun x hx => ?_⟩
  · obtain ⟨pv, a, b, -⟩ := hl i hi
    exact ⟨pv, a, b⟩
  · obtain ⟨i, hi, rfl⟩ := List.getElem_of_mem hx
    obtain ⟨pv, a, b, c⟩ := hl i hi
    exact c

def PlanOk (p : PlanD) : Prop := (-9223372036854775808 ≤ p.frame ∧ p.frame ≤ 9223372036854775807) ∧ ∀ x ∈ p.places, (-9223372036854775808 ≤ x.unit ∧ x.unit ≤ 9223372036854775807) ∧ (-9223372036854775808 ≤ x.share ∧ x.share ≤ 9223372036854775807) ∧ (-9223372036854775808 ≤ x.core ∧ x.core ≤ 9223372036854775807)

theorem plan_read {m : Mem} {v : Value} (h : RdA m (true, planSh) v) : ∃ p : PlanD, PlanV m p v ∧ PlanOk p := by
  obtain ⟨cs, rfl, g⟩ := h.agg
  obtain ⟨a, r, rfl, h1, k1⟩ := g.one
  obtain ⟨b, r, rfl, h2, k2⟩ := k1.one
  obtain ⟨c, r, rfl, h3, k3⟩ := k2.one
  cases k3.none
  obtain ⟨f, rfl, b1⟩ := h1.i64
  obtain ⟨x, rfl⟩ := rd_u32 h2
  obtain ⟨l, hl, hb⟩ := pls_read h3
  exact ⟨⟨f, x, l⟩, ⟨c, rfl, hl⟩, b1, hb⟩
end Go.Am


/- PlanW over the table of weave (relayset.py). -/
set_option linter.unusedVariables false
set_option linter.unusedSimpArgs false
namespace Go.Am
variable {m : Mem}

/-- Is a core in a plan? -/
def hasC (p : PlanD) (c : Int) : Bool := decide (0 ≤ c) && decide (c < 16) && p.cores.getLsbD c.toNat

theorem bit32 {x : BitVec 32} {i : Nat} : (decide (x >>> i &&& 1#32 = 1#32)) = x.getLsbD i := by
  rw [Bool.eq_iff_iff, decide_eq_true_eq]
  constructor
  · intro h
    have := congrArg (fun z => z.getLsbD 0) h
    simpa using this
  · intro h
    apply BitVec.eq_of_getLsbD_eq
    intro j hj
    rw [BitVec.getLsbD_and, BitVec.getLsbD_ushiftRight]
    by_cases e : j = 0
    · subst e; simp [h]
    · simp [e]

theorem has_spec {p : PlanD} {v : Value} {c : Int} (hv : PlanV m p v) : WC R F.plan_has [v, .int .i64 c] m fun r m' => r = .bool (hasC p c) ∧ Ext m m' := by
  refine WC.of R.plan_has rfl ?_
  obtain ⟨pv, rfl, hp⟩ := hv
  simp only [RC.plan_has, planV, go_sem, hp.one]
  have hx : Ext m (m.new (.cells [.int .i64 p.frame, u32 p.cores, pv] (some 3))) := Ext.new
  have hb : Bk (m.new (.cells [.int .i64 p.frame, u32 p.cores, pv] (some 3))) m.next [.int .i64 p.frame, u32 p.cores, pv] 3 := Bk.new
  generalize m.new (.cells [.int .i64 p.frame, u32 p.cores, pv] (some 3)) = m1 at hx hb ⊢
  unfold hasC
  refine gT.of (fun h1 => ?_) (fun h1 => ?_)
  · simp only [go_sem, h1]
    refine gT.of (fun h2 => ?_) (fun h2 => ?_)
    · simp only [decide_eq_true_eq] at h1
      simp only [go_sem, h1, h2, ruB, hb.at_, bit32]
      exact hx
    · simp only [go_sem, h1, h2]
      exact hx
  · simp only [go_sem, h1]
    exact hx

theorem split_spec {x : Pl} {v : Value} (hv : PlV m x v) : WC R F.plan_split [v] m fun r m' => r = .bool (decide (0 < x.pieces.length)) ∧ Ext m m' := by
  refine WC.of R.plan_split rfl ?_
  obtain ⟨pv, rfl, hp⟩ := hv
  simp only [RC.plan_split, plV, go_sem, hp.one]
  have hx : Ext m (m.new (.cells [.int .i64 x.unit, .int .i64 x.share, .int .i64 x.core, pv] (some 4))) := Ext.new
  have hb : Bk (m.new (.cells [.int .i64 x.unit, .int .i64 x.share, .int .i64 x.core, pv] (some 4))) m.next [.int .i64 x.unit, .int .i64 x.share, .int .i64 x.core, pv] 4 := Bk.new
  generalize m.new (.cells [.int .i64 x.unit, .int .i64 x.share, .int .i64 x.core, pv] (some 4)) = m1 at hx hb ⊢
  simp only [ruB, hb.at_, go_sem, hp.len]
  exact ⟨by congr 2; simp, hx⟩

/-- A core's windows. -/
def winPc (c : Int) (a : BitVec 64) (ps : List Pc) : BitVec 64 := ps.foldl (fun a y => if y.1 = c then a ||| y.2 else a) a
def winW (l : List Pl) (c : Int) : BitVec 64 := l.foldl (fun a x => winPc c a x.pieces) 0#64

theorem foldl_take {α β : Type} {f : β → α → β} {b : β} {l : List α} {i : Nat} (h : i < l.length) : (l.take (i + 1)).foldl f b = f ((l.take i).foldl f b) l[i] := by
  rw [List.take_succ_eq_append_getElem h, List.foldl_append]; rfl

theorem Windows_spec {p : PlanD} {v : Value} {c : Int} (hv : PlanV m p v) (hl : p.places.length < 1000000) (hp1 : ∀ x ∈ p.places, x.pieces.length < 1000000) : WC R F.plan_Windows [v, .int .i64 c] m fun r m' => r = u64 (winW p.places c) ∧ Ext m m' := by
  refine WC.of R.plan_Windows rfl ?_
  obtain ⟨pv, rfl, hp⟩ := hv
  simp only [RC.plan_Windows, planV, go_sem, hp.one]
  have hx : Ext m (m.new (.cells [.int .i64 p.frame, u32 p.cores, pv] (some 3))) := Ext.new
  have hb : Bk (m.new (.cells [.int .i64 p.frame, u32 p.cores, pv] (some 3))) m.next [.int .i64 p.frame, u32 p.cores, pv] 3 := Bk.new
  generalize m.new (.cells [.int .i64 p.frame, u32 p.cores, pv] (some 3)) = m1 at hx hb ⊢
  have hp1' := hp.keep hx
  simp only [go_sem, ruB, hb.at_, hp1'.len]
  refine WL.of (fun n e m' => ∃ i : Nat, i ≤ p.places.length ∧ n = p.places.length - i ∧ e = [(1, .int .i64 c), (5, u64 (winW (p.places.take i) c)), (11, pv), (12, .int .i64 p.places.length), (13, .int .i64 i)] ∧ Ext m1 m') p.places.length
    ⟨0, by omega, by omega, by simp only [go_sem] <;> rfl, Ext.refl _⟩ ?_
  rintro _ _ m2 ⟨i, hi, rfl, rfl, hx2⟩
  have e1 : i < 1000000 → IntKind.wrap .i64 ((i : Int) + 1) = ((i + 1 : Nat) : Int) := fun _ => by rw [wrap_i64 (by omega) (by omega)]; rfl
  have hp2 := hp1'.keep hx2
  simp only [RB.plan_Windows_2, go_sem]
  refine gT.of (fun h1 => ?_) (fun h1 => ?_)
  · simp only [decide_eq_true_eq] at h1
    have hil : i < p.places.length := by omega
    obtain ⟨b, o, qv, a1, a2, a3, a4, a5⟩ := hp2.elem hil
    have hmem : p.places[i] ∈ p.places := List.getElem_mem hil
    have hpl := hp1 _ hmem
    have hfold : winW (p.places.take (i + 1)) c = winPc c (winW (p.places.take i) c) p.places[i].pieces := foldl_take hil
    generalize p.places[i] = x at *
    simp only [plV] at a2
    simp only [go_sem, a1, a2, ruB, a4.one, a4.len, Nat.reduceLeDiff]
    have hx3 : Ext m2 (m2.new (.cells [.int .i64 x.unit, .int .i64 x.share, .int .i64 x.core, qv] (some 4))) := Ext.new
    have hb3 : Bk (m2.new (.cells [.int .i64 x.unit, .int .i64 x.share, .int .i64 x.core, qv] (some 4))) m2.next [.int .i64 x.unit, .int .i64 x.share, .int .i64 x.core, qv] 4 := Bk.new
    generalize m2.new (.cells [.int .i64 x.unit, .int .i64 x.share, .int .i64 x.core, qv] (some 4)) = m3 at hx3 hb3 ⊢
    have q3 := a4.keep hx3
    refine WL.of (fun n e m' => ∃ j : Nat, j ≤ x.pieces.length ∧ n = x.pieces.length - j ∧ e = [(1, .int .i64 c), (5, u64 (winPc c (winW (p.places.take i) c) (x.pieces.take j))), (11, pv), (12, .int .i64 p.places.length), (13, .int .i64 i), (18, qv), (19, .int .i64 x.pieces.length), (20, .int .i64 j)] ∧ Ext m3 m') x.pieces.length
      ⟨0, by omega, by omega, by simp only [go_sem] <;> rfl, Ext.refl _⟩ ?_
    rintro _ _ m4 ⟨j, hj, rfl, rfl, hx4⟩
    have e2 : j < 1000000 → IntKind.wrap .i64 ((j : Int) + 1) = ((j + 1 : Nat) : Int) := fun _ => by rw [wrap_i64 (by omega) (by omega)]; rfl
    have q4 := q3.keep hx4
    simp only [RB.plan_Windows_1, go_sem]
    refine gT.of (fun h2 => ?_) (fun h2 => ?_)
    · simp only [decide_eq_true_eq] at h2
      have hjl : j < x.pieces.length := by omega
      obtain ⟨b', o', c1, c2, c3, c4⟩ := q4.elem hjl
      have hf2 : winPc c (winW (p.places.take i) c) (x.pieces.take (j + 1)) = (if x.pieces[j].1 = c then winPc c (winW (p.places.take i) c) (x.pieces.take j) ||| x.pieces[j].2 else winPc c (winW (p.places.take i) c) (x.pieces.take j)) := foldl_take hjl
      generalize x.pieces[j] = y at *
      simp only [pcV] at c2
      simp only [go_sem, c1, c2, ruB]
      have hx5 : Ext m4 (m4.new (.cells [.int .i64 y.1, u64 y.2] (some 2))) := Ext.new
      have hb5 : Bk (m4.new (.cells [.int .i64 y.1, u64 y.2] (some 2))) m4.next [.int .i64 y.1, u64 y.2] 2 := Bk.new
      generalize m4.new (.cells [.int .i64 y.1, u64 y.2] (some 2)) = m5 at hx5 hb5 ⊢
      try simp only [ruB, hb5.at_, go_sem]
      refine gT.of (fun h3 => ?_) (fun h3 => ?_)
      · simp only [beq_iff_eq] at h3
        simp only [go_sem, ruB, hb5.at_, e2 (by omega)]
        refine ⟨x.pieces.length - (j + 1), by omega, j + 1, by omega, rfl, ?_, hx4.trans hx5⟩
        rw [hf2, if_pos h3]
      · simp only [beq_eq_false_iff_ne] at h3
        simp only [go_sem, e2 (by omega)]
        refine ⟨x.pieces.length - (j + 1), by omega, j + 1, by omega, rfl, ?_, hx4.trans hx5⟩
        rw [hf2, if_neg h3]
    · simp only [go_sem, e1 (by omega)]
      simp only [decide_eq_false_iff_not] at h2
      refine ⟨p.places.length - (i + 1), by omega, i + 1, by omega, rfl, ?_, hx2.trans (hx3.trans hx4)⟩
      rw [hfold, List.take_of_length_le (l := x.pieces) (by omega)]
  · simp only [go_sem]
    simp only [decide_eq_false_iff_not] at h1
    rw [List.take_of_length_le (by omega)]
    exact ⟨rfl, hx.trans hx2⟩
end Go.Am


/- OrderUnits over the table of weave (relayset.py). -/
set_option linter.unusedVariables false
set_option linter.unusedSimpArgs false
namespace Go.Am
variable {m : Mem}

def isU (u : Int) : Prop := 1 ≤ u ∧ u ≤ 200 ∨ 1001 ≤ u ∧ u ≤ 1040

theorem Kind_spec {u : Int} : WC R F.order_Kind [.int .i64 u] m fun v m' => ((isU u ∧ v = .tuple #[.int .i64 (if 1000 < u then u - 1000 else u), .bool (decide (1000 < u)), .bool true]) ∨ (¬ isU u ∧ v = .tuple #[.int .i64 0, .bool false, .bool false])) ∧ m' = m := by
  refine WC.of R.order_Kind rfl ?_
  simp only [RC.order_Kind, go_sem]
  repeat' (refine gT.of (fun h => ?_) (fun h => ?_) <;> try simp only [go_sem, *])
  all_goals simp only [decide_eq_true_eq, decide_eq_false_iff_not] at *
  · exact .inl ⟨by unfold isU; omega, by simp [show ¬ 1000 < u by omega]⟩
  · exact .inl ⟨by unfold isU; omega, by rw [wrap_i64 (by omega) (by omega)]; simp [show 1000 < u by omega]⟩
  all_goals (refine .inr ?_; first | exact ⟨by unfold isU; omega, rfl⟩ | (unfold isU; omega) | skip)

theorem Is_spec {u : Int} : WC R F.ref08_Is [.int .i64 u] m fun v m' => (v = .bool true ∧ isU u ∨ v = .bool false ∧ ¬ isU u) ∧ m' = m := by
  refine WC.of R.ref08_Is rfl ?_
  simp only [RC.ref08_Is, go_sem]
  repeat' (refine gT.of (fun h => ?_) (fun h => ?_) <;> try simp only [go_sem, *])
  all_goals simp only [decide_eq_true_eq, decide_eq_false_iff_not] at *
  all_goals (unfold isU; simp; omega)
end Go.Am


/- PlanW2 over the table of weave (relayset.py). -/
set_option linter.unusedVariables false
set_option linter.unusedSimpArgs false
namespace Go.Am
variable {m : Mem}

theorem countP_take {α : Type} {f : α → Bool} {l : List α} {i : Nat} (h : i < l.length) : (l.take (i + 1)).countP f = (l.take i).countP f + (if f l[i] = true then 1 else 0) := by
  rw [List.take_succ_eq_append_getElem h, List.countP_append]
  congr 1
  simp [List.countP_cons]

theorem countP_take_le {α : Type} {f : α → Bool} {l : List α} {i : Nat} : (l.take i).countP f ≤ l.length := Nat.le_trans List.countP_le_length (by simp; omega)

theorem refHas_spec {p : PlanD} {v : Value} {c : Int} (hv : PlanV m p v) : WC R F.ref16_Has [v, .int .i64 c] m fun r m' => r = .bool (hasC p c) ∧ Ext m m' := by
  refine WC.of R.ref16_Has rfl ?_
  obtain ⟨pv, rfl, hp⟩ := hv
  simp only [RC.ref16_Has, planV, go_sem, hp.one]
  have hx : Ext m (m.new (.cells [.int .i64 p.frame, u32 p.cores, pv] (some 3))) := Ext.new
  have hb : Bk (m.new (.cells [.int .i64 p.frame, u32 p.cores, pv] (some 3))) m.next [.int .i64 p.frame, u32 p.cores, pv] 3 := Bk.new
  generalize m.new (.cells [.int .i64 p.frame, u32 p.cores, pv] (some 3)) = m1 at hx hb ⊢
  unfold hasC
  have h64 : ∀ (x : BitVec 32) (i : Nat), i < 64 → (x.setWidth 64).getLsbD i = x.getLsbD i := by intro x i h; simp [BitVec.getLsbD_setWidth, h]
  refine gT.of (fun h1 => ?_) (fun h1 => ?_)
  · simp only [go_sem, h1]
    refine gT.of (fun h2 => ?_) (fun h2 => ?_)
    · have g1 := h1; have g2 := h2
      simp only [decide_eq_true_eq] at h1 h2
      simp only [go_sem, g1, g2, ruB, hb.at_]
      refine gC.of ref04_Has_spec ?_
      rintro _ m_ ⟨rfl, hm_⟩
      replace hm_ := hm_.symm
      subst hm_
      simp only [go_sem]
      rw [inB_of h1 (by omega), h64 _ _ (by omega)]
      refine ⟨?_, hx⟩
      simp [show c < 16 by omega, h1]
    · have g1 := h1; have g2 := h2
      simp only [decide_eq_true_eq, decide_eq_false_iff_not] at h1 h2
      simp only [go_sem, g1, g2]
      simp [show ¬ (c ≤ 15) by omega, show ¬ (c < 16) by omega, h1]
      exact hx
  · simp only [go_sem, h1]
    exact hx

def atB (c t : Int) (y : Pc) : Bool := (decide (c < 0) || decide (y.1 = c)) && inB y.2 t

theorem At_spec {x : Pl} {v : Value} {c t : Int} (hv : PlV m x v) (hl : x.pieces.length < 1000000) : WC R F.ref16_At [v, .int .i64 c, .int .i64 t] m fun r m' => r = .int .i64 (x.pieces.countP (atB c t) : Nat) ∧ Ext m m' := by
  refine WC.of R.ref16_At rfl ?_
  obtain ⟨pv, rfl, hp⟩ := hv
  simp only [RC.ref16_At, plV, go_sem, hp.one]
  have hx : Ext m (m.new (.cells [.int .i64 x.unit, .int .i64 x.share, .int .i64 x.core, pv] (some 4))) := Ext.new
  have hb : Bk (m.new (.cells [.int .i64 x.unit, .int .i64 x.share, .int .i64 x.core, pv] (some 4))) m.next [.int .i64 x.unit, .int .i64 x.share, .int .i64 x.core, pv] 4 := Bk.new
  generalize m.new (.cells [.int .i64 x.unit, .int .i64 x.share, .int .i64 x.core, pv] (some 4)) = m1 at hx hb ⊢
  have q1 := hp.keep hx
  refine WL.of (fun n e m' => ∃ i : Nat, i ≤ x.pieces.length ∧ n = x.pieces.length - i ∧ e = [(1, .int .i64 c), (2, .int .i64 t), (3, pt m.next), (7, .int .i64 ((x.pieces.take i).countP (atB c t) : Nat)), (8, .int .i64 i)] ∧ m' = m1) x.pieces.length
    ⟨0, by omega, by omega, by simp only [go_sem] <;> rfl, rfl⟩ ?_
  rintro _ _ m2 ⟨i, hi, rfl, rfl, rfl⟩
  have e1 : i < 1000000 → IntKind.wrap .i64 ((i : Int) + 1) = ((i + 1 : Nat) : Int) := fun _ => by rw [wrap_i64 (by omega) (by omega)]; rfl
  have e2 := countP_take_le (f := atB c t) (l := x.pieces) (i := i)
  have e3 : IntKind.wrap .i64 (((x.pieces.take i).countP (atB c t) : Nat) + 1 : Int) = (((x.pieces.take i).countP (atB c t) + 1 : Nat) : Int) := by rw [wrap_i64 (by omega) (by omega)]; rfl
  simp only [RB.ref16_At_1, pt, go_sem, ruB, hb.at_, q1.len]
  refine gT.of (fun h1 => ?_) (fun h1 => ?_)
  · simp only [decide_eq_true_eq] at h1
    have hil : i < x.pieces.length := by omega
    obtain ⟨b, o, c1, c2, c3, c4⟩ := q1.elem hil
    have hf := countP_take (f := atB c t) hil
    have c30 := c3 0 (by omega)
    have c31 := c3 1 (by omega)
    simp only [Nat.add_zero, pcV, List.getElem?_cons_zero, List.getElem?_cons_succ] at c30 c31
    generalize x.pieces[i] = y at *
    simp only [go_sem, ruB, hb.at_, q1.len, c1, c30, c31]
    repeat' (refine gT.of (fun h => ?_) (fun h => ?_) <;> try simp only [go_sem, *, ruB, hb.at_, q1.len, c1, c30, c31])
    · have g : atB c t y = inB y.2 t := by simp only [atB, h, Bool.true_or, Bool.true_and]
      rw [g] at hf
      refine gC.of ref04_Has_spec ?_
      rintro _ m_ ⟨rfl, hm_⟩
      replace hm_ := hm_.symm
      subst hm_
      simp only [go_sem]
      refine gT.of (fun h3 => ?_) (fun h3 => ?_)
      · simp only [go_sem, h3, e1 (by omega), e3]
        refine ⟨x.pieces.length - (i + 1), by omega, i + 1, by omega, rfl, ?_⟩
        rw [hf, if_pos h3]
      · simp only [go_sem, h3, e1 (by omega)]
        refine ⟨x.pieces.length - (i + 1), by omega, i + 1, by omega, rfl, ?_⟩
        rw [hf, h3]; rfl
    · rename_i h0
      have g : atB c t y = inB y.2 t := by simp only [atB, h0, beq_iff_eq.1 h, decide_true, Bool.or_true, Bool.true_and]
      rw [g] at hf
      refine gC.of ref04_Has_spec ?_
      rintro _ m_ ⟨rfl, hm_⟩
      replace hm_ := hm_.symm
      subst hm_
      simp only [go_sem]
      refine gT.of (fun h3 => ?_) (fun h3 => ?_)
      · simp only [go_sem, h3, e1 (by omega), e3]
        refine ⟨x.pieces.length - (i + 1), by omega, i + 1, by omega, rfl, ?_⟩
        rw [hf, if_pos h3]
      · simp only [go_sem, h3, e1 (by omega)]
        refine ⟨x.pieces.length - (i + 1), by omega, i + 1, by omega, rfl, ?_⟩
        rw [hf, h3]; rfl
    · rename_i h0
      have g : atB c t y = false := by
        have := beq_eq_false_iff_ne.1 h
        simp only [atB, h0, this, decide_false, Bool.or_false, Bool.false_and]
      rw [g] at hf
      simp only [go_sem, e1 (by omega)]
      refine ⟨x.pieces.length - (i + 1), by omega, i + 1, by omega, rfl, ?_⟩
      rw [hf]; rfl
  · simp only [go_sem]
    simp only [decide_eq_false_iff_not] at h1
    rw [List.take_of_length_le (by omega)]
    exact ⟨rfl, hx⟩
end Go.Am


/- PlanW3 over the table of weave (relayset.py). -/
set_option linter.unusedVariables false
set_option linter.unusedSimpArgs false
namespace Go.Am
variable {m : Mem}

theorem step1 {i : Nat} (h : i < 1000000) : IntKind.wrap .i64 ((i : Int) + 1) = ((i + 1 : Nat) : Int) := by rw [wrap_i64 (by omega) (by omega)]; rfl

def isSp (x : Pl) : Bool := decide (0 < x.pieces.length)
def csP (p : PlanD) (n : Nat) : List Nat := (List.range n).filter fun (i : Nat) => hasC p i

theorem csP_succ {p : PlanD} {n : Nat} : csP p (n + 1) = csP p n ++ (if hasC p n then [n] else []) := by
  unfold csP
  rw [List.range_succ, List.filter_append]
  congr 1
  cases h : hasC p n <;> simp [List.filter, h]
theorem csP_len {p : PlanD} {n : Nat} : (csP p n).length ≤ n := by
  unfold csP
  exact Nat.le_trans (List.length_filter_le _ _) (by simp)

theorem refCores_spec {p : PlanD} {v : Value} (hv : PlanV m p v) : WC R F.ref16_Cores [v] m fun r m' => Own m m' 1 (csP p 16).length (ints (csP p 16)) r ∧ Ext m m' := by
  refine WC.of R.ref16_Cores rfl ?_
  obtain ⟨pv, rfl, hp⟩ := hv
  simp only [RC.ref16_Cores, planV, go_sem, hp.one]
  have hx : Ext m (m.new (.cells [.int .i64 p.frame, u32 p.cores, pv] (some 3))) := Ext.new
  have hb : Bk (m.new (.cells [.int .i64 p.frame, u32 p.cores, pv] (some 3))) m.next [.int .i64 p.frame, u32 p.cores, pv] 3 := Bk.new
  generalize m.new (.cells [.int .i64 p.frame, u32 p.cores, pv] (some 3)) = m1 at hx hb ⊢
  refine WL.of (fun l e m' => ∃ (i : Nat) (v : Value), i ≤ 16 ∧ l = 16 - i ∧ e = [(1, pt m.next), (3, v), (4, .int .i64 i)] ∧ Own m1 m' 1 (csP p i).length (ints (csP p i)) v ∧ Ext m1 m') 16
    ⟨0, _, by omega, by omega, by simp only [go_sem] <;> rfl, Own.empty (Ext.refl m1), Ext.new⟩ ?_
  rintro _ _ m2 ⟨i, v, hi, rfl, rfl, ho, hx2⟩
  have hb2 := hb.keep hx2
  simp only [RB.ref16_Cores_1, pt, go_sem]
  refine gT.of (fun h => ?_) (fun h => ?_)
  · have g := h
    simp only [decide_eq_true_eq] at h
    simp only [go_sem, g, ruB, hb2.at_]
    refine gC.of (refHas_spec (p := p) ⟨pv, rfl, (hp.keep hx).keep hx2⟩) ?_
    rintro _ m3 ⟨rfl, hx3⟩
    simp only [go_sem]
    have ho3 := ho.keep hx3
    refine gT.of (fun h2 => ?_) (fun h2 => ?_)
    · simp only [go_sem, h2]
      obtain ⟨v', m4, e1, e2, e3⟩ := ho3.app (by_ := 8) (es := [.int .i64 i]) (hx2.trans hx3) (by omega) rfl rfl (by have := csP_len (p := p) (n := i); omega) (by have := csP_len (p := p) (n := i); omega)
      rw [e1, Got.some]
      simp only [go_sem, step1 (show i < 1000000 by omega)]
      refine ⟨16 - (i + 1), by omega, i + 1, v', by omega, rfl, rfl, ?_, e3⟩
      rw [csP_succ, if_pos h2]; simpa [ints] using e2
    · simp only [go_sem, h2, step1 (show i < 1000000 by omega)]
      refine ⟨16 - (i + 1), by omega, i + 1, v, by omega, rfl, rfl, ?_, hx2.trans hx3⟩
      rw [csP_succ, if_neg (by simp [h2])]; simpa using ho3
  · simp only [go_sem, h]
    simp only [decide_eq_false_iff_not] at h
    have : i = 16 := by omega
    subst this
    exact ⟨ho.weak hx, hx.trans hx2⟩

theorem Cores_spec {p : PlanD} {v : Value} (hv : PlanV m p v) : WC R F.plan_Cores [v] m fun r m' => Own m m' 1 (csP p 16).length (ints (csP p 16)) r ∧ Ext m m' := by
  refine WC.of R.plan_Cores rfl ?_
  obtain ⟨pv, rfl, hp⟩ := hv
  simp only [RC.plan_Cores, planV, go_sem, hp.one]
  have hx : Ext m (m.new (.cells [.int .i64 p.frame, u32 p.cores, pv] (some 3))) := Ext.new
  have hb : Bk (m.new (.cells [.int .i64 p.frame, u32 p.cores, pv] (some 3))) m.next [.int .i64 p.frame, u32 p.cores, pv] 3 := Bk.new
  generalize m.new (.cells [.int .i64 p.frame, u32 p.cores, pv] (some 3)) = m1 at hx hb ⊢
  refine WL.of (fun l e m' => ∃ (i : Nat) (v : Value), i ≤ 16 ∧ l = 16 - i ∧ e = [(1, pt m.next), (3, v), (5, .int .i64 i)] ∧ Own m1 m' 1 (csP p i).length (ints (csP p i)) v ∧ Ext m1 m') 16
    ⟨0, _, by omega, by omega, by simp only [go_sem] <;> rfl, .nil rfl rfl, Ext.refl _⟩ ?_
  rintro _ _ m2 ⟨i, v, hi, rfl, rfl, ho, hx2⟩
  have hb2 := hb.keep hx2
  simp only [RB.plan_Cores_1, pt, go_sem]
  refine gT.of (fun h => ?_) (fun h => ?_)
  · have g := h
    simp only [decide_eq_true_eq] at h
    simp only [go_sem, g, ruB, hb2.at_]
    refine gC.of (has_spec (p := p) ⟨pv, rfl, (hp.keep hx).keep hx2⟩) ?_
    rintro _ m3 ⟨rfl, hx3⟩
    simp only [go_sem]
    have ho3 := ho.keep hx3
    refine gT.of (fun h2 => ?_) (fun h2 => ?_)
    · simp only [go_sem, h2]
      obtain ⟨v', m4, e1, e2, e3⟩ := ho3.app (by_ := 8) (es := [.int .i64 i]) (hx2.trans hx3) (by omega) rfl rfl (by have := csP_len (p := p) (n := i); omega) (by have := csP_len (p := p) (n := i); omega)
      rw [e1, Got.some]
      simp only [go_sem, step1 (show i < 1000000 by omega)]
      refine ⟨16 - (i + 1), by omega, i + 1, v', by omega, rfl, rfl, ?_, e3⟩
      rw [csP_succ, if_pos h2]; simpa [ints] using e2
    · simp only [go_sem, h2, step1 (show i < 1000000 by omega)]
      refine ⟨16 - (i + 1), by omega, i + 1, v, by omega, rfl, rfl, ?_, hx2.trans hx3⟩
      rw [csP_succ, if_neg (by simp [h2])]; simpa using ho3
  · simp only [go_sem, h]
    simp only [decide_eq_false_iff_not] at h
    have : i = 16 := by omega
    subst this
    exact ⟨ho.weak hx, hx.trans hx2⟩

theorem Splits_spec {p : PlanD} {v : Value} (hv : PlanV m p v) (hl : p.places.length < 1000000) : WC R F.plan_Splits [v] m fun r m' => r = .int .i64 (p.places.countP isSp : Nat) ∧ Ext m m' := by
  refine WC.of R.plan_Splits rfl ?_
  obtain ⟨pv, rfl, hp⟩ := hv
  simp only [RC.plan_Splits, planV, go_sem, hp.one]
  have hx : Ext m (m.new (.cells [.int .i64 p.frame, u32 p.cores, pv] (some 3))) := Ext.new
  have hb : Bk (m.new (.cells [.int .i64 p.frame, u32 p.cores, pv] (some 3))) m.next [.int .i64 p.frame, u32 p.cores, pv] 3 := Bk.new
  generalize m.new (.cells [.int .i64 p.frame, u32 p.cores, pv] (some 3)) = m1 at hx hb ⊢
  simp only [go_sem, ruB, hb.at_, hp.len]
  refine WL.of (fun n e m' => ∃ i : Nat, i ≤ p.places.length ∧ n = p.places.length - i ∧ e = [(3, .int .i64 ((p.places.take i).countP isSp : Nat)), (7, pv), (8, .int .i64 p.places.length), (9, .int .i64 i)] ∧ Ext m1 m') p.places.length
    ⟨0, by omega, by omega, by simp only [go_sem] <;> rfl, Ext.refl _⟩ ?_
  rintro _ _ m2 ⟨i, hi, rfl, rfl, hx2⟩
  have hp2 := (hp.keep hx).keep hx2
  have k1 := countP_take_le (f := isSp) (l := p.places) (i := i)
  simp only [RB.plan_Splits_1, go_sem]
  refine gT.of (fun h1 => ?_) (fun h1 => ?_)
  · simp only [decide_eq_true_eq] at h1
    have hil : i < p.places.length := by omega
    obtain ⟨b, o, qv, a1, a2, a3, a4, a5⟩ := hp2.elem hil
    have hf := countP_take (f := isSp) hil
    generalize p.places[i] = x at *
    simp only [plV] at a2
    simp only [go_sem, a1, a2, ruB, a4.one]
    have hx3 : Ext m2 (m2.new (.cells [.int .i64 x.unit, .int .i64 x.share, .int .i64 x.core, qv] (some 4))) := Ext.new
    have hb3 : Bk (m2.new (.cells [.int .i64 x.unit, .int .i64 x.share, .int .i64 x.core, qv] (some 4))) m2.next [.int .i64 x.unit, .int .i64 x.share, .int .i64 x.core, qv] 4 := Bk.new
    generalize m2.new (.cells [.int .i64 x.unit, .int .i64 x.share, .int .i64 x.core, qv] (some 4)) = m3 at hx3 hb3 ⊢
    refine gC.of (split_spec (x := x) ⟨qv, rfl, a4.keep hx3⟩) ?_
    rintro _ m4 ⟨rfl, hx4⟩
    simp only [go_sem]
    refine gT.of (fun h2 => ?_) (fun h2 => ?_)
    · simp only [go_sem, step1 (show i < 1000000 by omega), step1 (show (p.places.take i).countP isSp < 1000000 by omega)]
      refine ⟨p.places.length - (i + 1), by omega, i + 1, by omega, rfl, ?_, hx2.trans (hx3.trans hx4)⟩
      rw [hf, if_pos (show isSp x = true from h2)]
    · simp only [go_sem, step1 (show i < 1000000 by omega)]
      refine ⟨p.places.length - (i + 1), by omega, i + 1, by omega, rfl, ?_, hx2.trans (hx3.trans hx4)⟩
      rw [hf, show isSp x = false from h2]; rfl
  · simp only [go_sem]
    simp only [decide_eq_false_iff_not] at h1
    rw [List.take_of_length_le (by omega)]
    exact ⟨rfl, hx.trans hx2⟩

theorem refSplits_spec {p : PlanD} {v : Value} (hv : PlanV m p v) (hl : p.places.length < 1000000) : WC R F.ref16_Splits [v] m fun r m' => r = .int .i64 (p.places.countP isSp : Nat) ∧ Ext m m' := by
  refine WC.of R.ref16_Splits rfl ?_
  obtain ⟨pv, rfl, hp⟩ := hv
  simp only [RC.ref16_Splits, planV, go_sem, hp.one]
  have hx : Ext m (m.new (.cells [.int .i64 p.frame, u32 p.cores, pv] (some 3))) := Ext.new
  have hb : Bk (m.new (.cells [.int .i64 p.frame, u32 p.cores, pv] (some 3))) m.next [.int .i64 p.frame, u32 p.cores, pv] 3 := Bk.new
  generalize m.new (.cells [.int .i64 p.frame, u32 p.cores, pv] (some 3)) = m1 at hx hb ⊢
  refine WL.of (fun n e m' => ∃ i : Nat, i ≤ p.places.length ∧ n = p.places.length - i ∧ e = [(1, pt m.next), (3, .int .i64 ((p.places.take i).countP isSp : Nat)), (4, .int .i64 i)] ∧ m' = m1) p.places.length
    ⟨0, by omega, by omega, by simp only [go_sem] <;> rfl, rfl⟩ ?_
  rintro _ _ m2 ⟨i, hi, rfl, rfl, rfl⟩
  have hp2 := hp.keep hx
  have k1 := countP_take_le (f := isSp) (l := p.places) (i := i)
  simp only [RB.ref16_Splits_1, pt, go_sem, ruB, hb.at_, hp.len]
  refine gT.of (fun h1 => ?_) (fun h1 => ?_)
  · simp only [decide_eq_true_eq] at h1
    have hil : i < p.places.length := by omega
    obtain ⟨b, o, qv, a1, a2, a3, a4, a5⟩ := hp2.elem hil
    have hf := countP_take (f := isSp) hil
    have a33 := a3 3 (by omega)
    generalize p.places[i] = x at *
    simp only [plV, List.getElem?_cons_zero, List.getElem?_cons_succ] at a33
    simp only [go_sem, a1, a33, ruB, hb.at_, a4.len]
    refine gT.of (fun h2 => ?_) (fun h2 => ?_)
    · simp only [decide_eq_true_eq] at h2
      simp only [go_sem, step1 (show i < 1000000 by omega), step1 (show (p.places.take i).countP isSp < 1000000 by omega)]
      refine ⟨p.places.length - (i + 1), by omega, i + 1, by omega, rfl, ?_⟩
      rw [hf, if_pos (show isSp x = true by simp only [isSp, decide_eq_true_eq]; omega)]
    · simp only [decide_eq_false_iff_not] at h2
      simp only [go_sem, step1 (show i < 1000000 by omega)]
      refine ⟨p.places.length - (i + 1), by omega, i + 1, by omega, rfl, ?_⟩
      have h3 : isSp x = false := by simp only [isSp, decide_eq_false_iff_not]; omega
      rw [hf, h3]; rfl
  · simp only [go_sem]
    simp only [decide_eq_false_iff_not] at h1
    rw [List.take_of_length_le (by omega)]
    exact ⟨rfl, hx⟩
end Go.Am


/- PlanW4 over the table of weave (relayset.py). -/
set_option linter.unusedVariables false
set_option linter.unusedSimpArgs false
namespace Go.Am
variable {m : Mem}

abbrev Wt := Int × Int
def wtV (w : Wt) : List Value := [.int .i64 w.1, .int .i64 w.2]
theorem wtV_len (w : Wt) : (wtV w).length = 2 := rfl
theorem wts_append {a : List Wt} {w : Wt} : (a ++ [w]).flatMap wtV = a.flatMap wtV ++ [.int .i64 w.1, .int .i64 w.2] := by simp [wtV]

def isWh (c : Int) (x : Pl) : Bool := !isSp x && (x.core == c)
def wtOf (x : Pl) : Wt := (x.unit, x.share)
def whL (l : List Pl) (c : Int) : List Wt := (l.filter (isWh c)).map wtOf

theorem whL_succ {l : List Pl} {c : Int} {i : Nat} (h : i < l.length) : whL (l.take (i + 1)) c = whL (l.take i) c ++ (if isWh c l[i] = true then [wtOf l[i]] else []) := by
  unfold whL
  rw [List.take_succ_eq_append_getElem h, List.filter_append, List.map_append]
  congr 1
  cases hh : isWh c l[i] <;> simp [List.filter, hh]
theorem whL_len {l : List Pl} {c : Int} {i : Nat} : (whL (l.take i) c).length ≤ l.length := by
  unfold whL
  rw [List.length_map]
  exact Nat.le_trans (List.length_filter_le _ _) (by simp; omega)

theorem Wholes_spec {p : PlanD} {v : Value} {c : Int} (hv : PlanV m p v) (hl : p.places.length < 1000000) : WC R F.plan_Wholes [v, .int .i64 c] m fun r m' => Own m m' 2 (whL p.places c).length ((whL p.places c).flatMap wtV) r ∧ Ext m m' := by
  refine WC.of R.plan_Wholes rfl ?_
  obtain ⟨pv, rfl, hp⟩ := hv
  simp only [RC.plan_Wholes, planV, go_sem, hp.one]
  have hx : Ext m (m.new (.cells [.int .i64 p.frame, u32 p.cores, pv] (some 3))) := Ext.new
  have hb : Bk (m.new (.cells [.int .i64 p.frame, u32 p.cores, pv] (some 3))) m.next [.int .i64 p.frame, u32 p.cores, pv] 3 := Bk.new
  generalize m.new (.cells [.int .i64 p.frame, u32 p.cores, pv] (some 3)) = m1 at hx hb ⊢
  simp only [go_sem, ruB, hb.at_, hp.len]
  refine WL.of (fun n e m' => ∃ (i : Nat) (w : Value), i ≤ p.places.length ∧ n = p.places.length - i ∧ e = [(1, .int .i64 c), (5, w), (9, pv), (10, .int .i64 p.places.length), (11, .int .i64 i)] ∧ Own m1 m' 2 (whL (p.places.take i) c).length ((whL (p.places.take i) c).flatMap wtV) w ∧ Ext m1 m') p.places.length
    ⟨0, _, by omega, by omega, by simp only [go_sem] <;> rfl, .nil rfl rfl, Ext.refl _⟩ ?_
  rintro _ _ m2 ⟨i, w, hi, rfl, rfl, ho, hx2⟩
  have hp2 := (hp.keep hx).keep hx2
  have k1 := whL_len (l := p.places) (c := c) (i := i)
  simp only [RB.plan_Wholes_1, go_sem]
  refine gT.of (fun h1 => ?_) (fun h1 => ?_)
  · simp only [decide_eq_true_eq] at h1
    have hil : i < p.places.length := by omega
    obtain ⟨b, o, qv, a1, a2, a3, a4, a5⟩ := hp2.elem hil
    have hf := whL_succ (c := c) hil
    generalize p.places[i] = x at *
    simp only [plV] at a2
    simp only [go_sem, a1, a2, ruB, a4.one]
    have hx3 : Ext m2 (m2.new (.cells [.int .i64 x.unit, .int .i64 x.share, .int .i64 x.core, qv] (some 4))) := Ext.new
    have hb3 : Bk (m2.new (.cells [.int .i64 x.unit, .int .i64 x.share, .int .i64 x.core, qv] (some 4))) m2.next [.int .i64 x.unit, .int .i64 x.share, .int .i64 x.core, qv] 4 := Bk.new
    generalize m2.new (.cells [.int .i64 x.unit, .int .i64 x.share, .int .i64 x.core, qv] (some 4)) = m3 at hx3 hb3 ⊢
    refine gC.of (split_spec (x := x) ⟨qv, rfl, a4.keep hx3⟩) ?_
    rintro _ m4 ⟨rfl, hx4⟩
    simp only [go_sem]
    have hb4 := hb3.keep hx4
    have hx24 : Ext m2 m4 := hx3.trans hx4
    have ho4 := ho.keep hx24
    have s1 := step1 (show i < 1000000 by omega)
    have hd : isSp x = decide (0 < x.pieces.length) := rfl
    refine gT.of (fun h2 => ?_) (fun h2 => ?_)
    · have hd2 : isSp x = false := by rw [hd]; simpa using h2
      simp only [go_sem, h2, ruB, hb4.at_]
      refine gT.of (fun h3 => ?_) (fun h3 => ?_)
      · simp only [go_sem, h3, ruB, hb4.at_]
        obtain ⟨v', m5, e1, e2, e3⟩ := ho4.app (by_ := 16) (es := [.int .i64 x.unit, .int .i64 x.share]) (hx2.trans hx24) (by omega) rfl rfl (by omega) (by omega)
        rw [e1, Got.some]
        simp only [go_sem, s1]
        refine ⟨p.places.length - (i + 1), by omega, i + 1, v', by omega, rfl, rfl, ?_, e3⟩
        rw [hf, if_pos (show isWh c x = true by simp only [isWh, hd2, h3]; rfl), wts_append, List.length_append]; exact e2
      · simp only [go_sem, h3, s1]
        refine ⟨p.places.length - (i + 1), by omega, i + 1, w, by omega, rfl, rfl, ?_, hx2.trans hx24⟩
        rw [hf, if_neg (show ¬ isWh c x = true by simp only [isWh, hd2, h3]; decide), List.append_nil]; exact ho4
    · have hd2 : isSp x = true := by rw [hd]; simpa using h2
      simp only [go_sem, h2, s1]
      refine ⟨p.places.length - (i + 1), by omega, i + 1, w, by omega, rfl, rfl, ?_, hx2.trans hx24⟩
      rw [hf, if_neg (show ¬ isWh c x = true by simp only [isWh, hd2]; simp), List.append_nil]; exact ho4
  · simp only [go_sem]
    simp only [decide_eq_false_iff_not] at h1
    rw [List.take_of_length_le (by omega)] at ho
    exact ⟨ho.weak hx, hx.trans hx2⟩

theorem refWholes_spec {p : PlanD} {v : Value} {c : Int} (hv : PlanV m p v) (hl : p.places.length < 1000000) : WC R F.ref16_Wholes [v, .int .i64 c] m fun r m' => Own m m' 2 (whL p.places c).length ((whL p.places c).flatMap wtV) r ∧ Ext m m' := by
  refine WC.of R.ref16_Wholes rfl ?_
  obtain ⟨pv, rfl, hp⟩ := hv
  simp only [RC.ref16_Wholes, planV, go_sem, hp.one]
  have hx : Ext m (m.new (.cells [.int .i64 p.frame, u32 p.cores, pv] (some 3))) := Ext.new
  have hb : Bk (m.new (.cells [.int .i64 p.frame, u32 p.cores, pv] (some 3))) m.next [.int .i64 p.frame, u32 p.cores, pv] 3 := Bk.new
  generalize m.new (.cells [.int .i64 p.frame, u32 p.cores, pv] (some 3)) = m1 at hx hb ⊢
  refine WL.of (fun n e m' => ∃ (i : Nat) (w : Value), i ≤ p.places.length ∧ n = p.places.length - i ∧ e = [(1, .int .i64 c), (2, pt m.next), (5, w), (6, .int .i64 i)] ∧ Own m1 m' 2 (whL (p.places.take i) c).length ((whL (p.places.take i) c).flatMap wtV) w ∧ Ext m1 m') p.places.length
    ⟨0, _, by omega, by omega, by simp only [go_sem] <;> rfl, Own.empty (Ext.refl m1), Ext.new⟩ ?_
  rintro _ _ m2 ⟨i, w, hi, rfl, rfl, ho, hx2⟩
  have hp2 := (hp.keep hx).keep hx2
  have hb2 := hb.keep hx2
  have k1 := whL_len (l := p.places) (c := c) (i := i)
  simp only [RB.ref16_Wholes_1, pt, go_sem, ruB, hb2.at_, hp2.len]
  refine gT.of (fun h1 => ?_) (fun h1 => ?_)
  · simp only [decide_eq_true_eq] at h1
    have hil : i < p.places.length := by omega
    obtain ⟨b, o, qv, a1, a2, a3, a4, a5⟩ := hp2.elem hil
    have hf := whL_succ (c := c) hil
    generalize p.places[i] = x at *
    simp only [plV] at a2
    simp only [go_sem, ruB, hb2.at_, a1, a2, a4.one]
    have hx3 : Ext m2 (m2.new (.cells [.int .i64 x.unit, .int .i64 x.share, .int .i64 x.core, qv] (some 4))) := Ext.new
    have hb3 : Bk (m2.new (.cells [.int .i64 x.unit, .int .i64 x.share, .int .i64 x.core, qv] (some 4))) m2.next [.int .i64 x.unit, .int .i64 x.share, .int .i64 x.core, qv] 4 := Bk.new
    generalize m2.new (.cells [.int .i64 x.unit, .int .i64 x.share, .int .i64 x.core, qv] (some 4)) = m3 at hx3 hb3 ⊢
    simp only [go_sem, ruB, hb3.at_, a4.len]
    have ho4 := ho.keep hx3
    have s1 := step1 (show i < 1000000 by omega)
    have hd : isSp x = decide (0 < x.pieces.length) := rfl
    refine gT.of (fun h2 => ?_) (fun h2 => ?_)
    · have hd2 : isSp x = false := by rw [hd]; simp only [beq_iff_eq] at h2; simp only [decide_eq_false_iff_not]; omega
      simp only [go_sem, h2, ruB, hb3.at_]
      refine gT.of (fun h3 => ?_) (fun h3 => ?_)
      · simp only [go_sem, h3, ruB, hb3.at_]
        obtain ⟨v', m5, e1, e2, e3⟩ := ho4.app (by_ := 16) (es := [.int .i64 x.unit, .int .i64 x.share]) (hx2.trans hx3) (by omega) rfl rfl (by omega) (by omega)
        rw [e1, Got.some]
        simp only [go_sem, s1]
        refine ⟨p.places.length - (i + 1), by omega, i + 1, v', by omega, rfl, rfl, ?_, e3⟩
        rw [hf, if_pos (show isWh c x = true by simp only [isWh, hd2, h3]; rfl), wts_append, List.length_append]; exact e2
      · simp only [go_sem, h3, s1]
        refine ⟨p.places.length - (i + 1), by omega, i + 1, w, by omega, rfl, rfl, ?_, hx2.trans hx3⟩
        rw [hf, if_neg (show ¬ isWh c x = true by simp only [isWh, hd2, h3]; decide), List.append_nil]; exact ho4
    · have hd2 : isSp x = true := by rw [hd]; simp only [beq_eq_false_iff_ne] at h2; simp only [decide_eq_true_eq]; omega
      simp only [go_sem, h2, s1]
      refine ⟨p.places.length - (i + 1), by omega, i + 1, w, by omega, rfl, rfl, ?_, hx2.trans hx3⟩
      rw [hf, if_neg (show ¬ isWh c x = true by simp only [isWh, hd2]; simp), List.append_nil]; exact ho4
  · simp only [go_sem]
    simp only [decide_eq_false_iff_not] at h1
    rw [List.take_of_length_le (by omega)] at ho
    exact ⟨ho.weak hx, hx.trans hx2⟩

def wtsL (l : List Pl) : List Wt := l.map wtOf
end Go.Am


/- PlanW5 over the table of weave (relayset.py). -/
set_option linter.unusedVariables false
set_option linter.unusedSimpArgs false
namespace Go.Am
variable {m : Mem}

def rwT (l : List Pl) (c t : Int) (w : BitVec 64) : BitVec 64 := l.foldl (fun w x => if 0 < x.pieces.countP (atB c t) then withB w t else w) w
def rwN (l : List Pl) (c : Int) : Nat → BitVec 64
  | 0 => 0#64
  | n + 1 => rwT l c n (rwN l c n)

theorem refWindows_spec {p : PlanD} {v : Value} {c : Int} (hv : PlanV m p v) (hl : p.places.length < 1000000) (hp1 : ∀ x ∈ p.places, x.pieces.length < 1000000) : WC R F.ref16_Windows [v, .int .i64 c] m fun r m' => r = u64 (rwN p.places c 64) ∧ Ext m m' := by
  refine WC.of R.ref16_Windows rfl ?_
  obtain ⟨pv, rfl, hp⟩ := hv
  simp only [RC.ref16_Windows, planV, go_sem, hp.one]
  have hx : Ext m (m.new (.cells [.int .i64 p.frame, u32 p.cores, pv] (some 3))) := Ext.new
  have hb : Bk (m.new (.cells [.int .i64 p.frame, u32 p.cores, pv] (some 3))) m.next [.int .i64 p.frame, u32 p.cores, pv] 3 := Bk.new
  generalize m.new (.cells [.int .i64 p.frame, u32 p.cores, pv] (some 3)) = m1 at hx hb ⊢
  refine WL.of (fun n e m' => ∃ t : Nat, t ≤ 64 ∧ n = 64 - t ∧ e = [(1, .int .i64 c), (2, pt m.next), (5, u64 (rwN p.places c t)), (6, .int .i64 t)] ∧ Ext m1 m') 64
    ⟨0, by omega, by omega, by simp only [go_sem] <;> rfl, Ext.refl _⟩ ?_
  rintro _ _ m2 ⟨t, ht, rfl, rfl, hx2⟩
  simp only [RB.ref16_Windows_2, pt, go_sem]
  refine gT.of (fun h => ?_) (fun h => ?_)
  · simp only [decide_eq_true_eq] at h
    simp only [go_sem]
    refine WL.of (fun n e m' => ∃ i : Nat, i ≤ p.places.length ∧ n = p.places.length - i ∧ e = [(1, .int .i64 c), (2, pt m.next), (5, u64 (rwT (p.places.take i) c t (rwN p.places c t))), (6, .int .i64 t), (7, .int .i64 i)] ∧ Ext m2 m') p.places.length
      ⟨0, by omega, by omega, by simp only [go_sem] <;> rfl, Ext.refl _⟩ ?_
    rintro _ _ m3 ⟨i, hi, rfl, rfl, hx3⟩
    have hp2 := ((hp.keep hx).keep hx2).keep hx3
    have hb2 := (hb.keep hx2).keep hx3
    simp only [RB.ref16_Windows_1, pt, go_sem, ruB, hb2.at_, hp2.len]
    refine gT.of (fun h1 => ?_) (fun h1 => ?_)
    · simp only [decide_eq_true_eq] at h1
      have hil : i < p.places.length := by omega
      obtain ⟨b, o, qv, a1, a2, a3, a4, a5⟩ := hp2.elem hil
      have hmem : p.places[i] ∈ p.places := List.getElem_mem hil
      have hpl := hp1 _ hmem
      have hf : rwT (p.places.take (i + 1)) c t (rwN p.places c t) = (if 0 < p.places[i].pieces.countP (atB c t) then withB (rwT (p.places.take i) c t (rwN p.places c t)) t else rwT (p.places.take i) c t (rwN p.places c t)) := foldl_take hil
      have s1 := step1 (show i < 1000000 by omega)
      generalize p.places[i] = x at *
      simp only [go_sem, ruB, hb2.at_, a1, a2]
      refine gC.of (At_spec (x := x) ⟨qv, rfl, a4⟩ hpl) ?_
      rintro _ m4 ⟨rfl, hx4⟩
      simp only [go_sem]
      refine gT.of (fun h2 => ?_) (fun h2 => ?_)
      · simp only [decide_eq_true_eq] at h2
        simp only [go_sem]
        refine gC.of ref04_With_spec ?_
        rintro _ m_ ⟨rfl, hm_⟩
        replace hm_ := hm_.symm
        subst hm_
        simp only [go_sem]
        simp only [go_sem, s1]
        refine ⟨p.places.length - (i + 1), by omega, i + 1, by omega, rfl, ?_, hx3.trans hx4⟩
        rw [hf, if_pos (by omega)]
      · simp only [decide_eq_false_iff_not] at h2
        simp only [go_sem, s1]
        refine ⟨p.places.length - (i + 1), by omega, i + 1, by omega, rfl, ?_, hx3.trans hx4⟩
        rw [hf, if_neg (by omega)]
    · simp only [go_sem, step1 (show t < 1000000 by omega)]
      simp only [decide_eq_false_iff_not] at h1
      refine ⟨64 - (t + 1), by omega, t + 1, by omega, rfl, ?_, hx2.trans hx3⟩
      rw [List.take_of_length_le (by omega)]; rfl
  · simp only [go_sem]
    simp only [decide_eq_false_iff_not] at h
    have : t = 64 := by omega
    subst this
    exact ⟨rfl, hx.trans hx2⟩

def sumW (l : List Wt) : Int := (l.map (·.2)).sum
theorem sumW_succ {l : List Wt} {i : Nat} (h : i < l.length) : sumW (l.take (i + 1)) = sumW (l.take i) + l[i].2 := by
  unfold sumW
  rw [List.take_succ_eq_append_getElem h, List.map_append, List.sum_append]; simp
theorem sumW_le {l : List Wt} {f : Int} (h : ∀ w ∈ l, 0 ≤ w.2 ∧ w.2 ≤ f) : 0 ≤ sumW l ∧ sumW l ≤ f * l.length := by
  induction l with
  | nil => simp [sumW]
  | cons a t ih =>
    have := ih fun w hw => h w (by simp [hw])
    have h2 := h a (by simp)
    have e : sumW (a :: t) = a.2 + sumW t := by simp [sumW]
    have e2 : f * ((a :: t).length : Nat) = f + f * (t.length : Nat) := by
      rw [List.length_cons, Int.natCast_add, Int.mul_add]; omega
    omega

theorem whL_mem {l : List Pl} {c : Int} {w : Wt} (h : w ∈ whL l c) : ∃ x ∈ l, w = wtOf x := by
  unfold whL at h
  obtain ⟨x, hx, rfl⟩ := List.mem_map.1 h
  exact ⟨x, (List.mem_filter.1 hx).1, rfl⟩
theorem whL_le {l : List Pl} {c : Int} : (whL l c).length ≤ l.length := by
  unfold whL; rw [List.length_map]; exact List.length_filter_le _ _

def ShOk (l : List Pl) : Prop := ∀ x ∈ l, 0 ≤ x.share ∧ x.share ≤ 64
theorem whL_sh {l : List Pl} {c : Int} (h : ShOk l) : ∀ w ∈ whL l c, 0 ≤ w.2 ∧ w.2 ≤ 64 := by
  intro w hw
  obtain ⟨x, hx, rfl⟩ := whL_mem hw
  exact h x hx

theorem sum_take_bounds {l : List Wt} {i : Nat} (h : ∀ w ∈ l, 0 ≤ w.2 ∧ w.2 ≤ 64) (hl : l.length < 1000000) : 0 ≤ sumW (l.take i) ∧ sumW (l.take i) ≤ 64000000 := by
  have := sumW_le (l := l.take i) (f := 64) fun w hw => h w (List.mem_of_mem_take hw)
  have h2 : (l.take i).length ≤ l.length := by simp; omega
  omega

def loadR (p : PlanD) (c : Int) : Int := (tks (rwN p.places c 64) 64).length + sumW (whL p.places c)

theorem refLoad_spec {p : PlanD} {v : Value} {c : Int} (hv : PlanV m p v) (hl : p.places.length < 1000000) (hp1 : ∀ x ∈ p.places, x.pieces.length < 1000000) (hs : ShOk p.places) : WC R F.ref16_Load [v, .int .i64 c] m fun r m' => r = .int .i64 (loadR p c) ∧ Ext m m' := by
  refine WC.of R.ref16_Load rfl ?_
  obtain ⟨pv, rfl, hp⟩ := hv
  simp only [RC.ref16_Load, planV, go_sem, hp.one]
  have hx : Ext m (m.new (.cells [.int .i64 p.frame, u32 p.cores, pv] (some 3))) := Ext.new
  have hb : Bk (m.new (.cells [.int .i64 p.frame, u32 p.cores, pv] (some 3))) m.next [.int .i64 p.frame, u32 p.cores, pv] 3 := Bk.new
  generalize m.new (.cells [.int .i64 p.frame, u32 p.cores, pv] (some 3)) = m1 at hx hb ⊢
  simp only [go_sem, ruB, hb.at_]
  refine gC.of (refWindows_spec (p := p) ⟨pv, rfl, hp.keep hx⟩ hl hp1) ?_
  rintro _ m2 ⟨rfl, hx2⟩
  simp only [go_sem]
  refine gC.of ref04_Count_spec ?_
  rintro _ m3 ⟨rfl, hx3⟩
  simp only [go_sem]
  have hb3 := (hb.keep hx2).keep hx3
  simp only [go_sem, ruB, hb3.at_]
  refine gC.of (refWholes_spec (p := p) ⟨pv, rfl, ((hp.keep hx).keep hx2).keep hx3⟩ hl) ?_
  rintro w m4 ⟨ho, hx4⟩
  simp only [go_sem]
  have hsl := ho.sl
  have hw := whL_sh (c := c) hs
  have hwl : (whL p.places c).length < 1000000 := Nat.lt_of_le_of_lt whL_le hl
  have htk := tks_len (x := rwN p.places c 64) (n := 64)
  unfold loadR
  generalize whL p.places c = W at *
  generalize (tks (rwN p.places c 64) 64).length = T at *
  refine WL.of (fun n e m' => ∃ i : Nat, i ≤ W.length ∧ n = W.length - i ∧ e = [(5, .int .i64 (T + sumW (W.take i))), (6, w), (7, .int .i64 i)] ∧ m' = m4) W.length
    ⟨0, by omega, by omega, by simp only [go_sem, sumW, List.take_zero, List.map_nil, List.sum_nil, Int.add_zero] <;> rfl, rfl⟩ ?_
  rintro _ _ m5 ⟨i, hi, rfl, rfl, rfl⟩
  simp only [RB.ref16_Load_1, go_sem, hsl.len]
  refine gT.of (fun h1 => ?_) (fun h1 => ?_)
  · simp only [decide_eq_true_eq] at h1
    have hil : i < W.length := by omega
    obtain ⟨b, o, a1, a2, a3, a4⟩ := hsl.elem wtV_len (k := .i64) hil
    have a31 := a3 1 (by omega)
    have hf := sumW_succ hil
    have b1 := sum_take_bounds (i := i) hw hwl
    have b2 := hw _ (List.getElem_mem hil)
    simp only [wtV, List.getElem?_cons_zero, List.getElem?_cons_succ] at a31
    simp only [go_sem, a1, a31, step1 (show i < 1000000 by omega)]
    refine ⟨W.length - (i + 1), by omega, i + 1, by omega, rfl, ?_⟩
    rw [hf, wrap_i64 (by omega) (by omega)]
    simp only [Int.add_assoc]
  · simp only [go_sem]
    simp only [decide_eq_false_iff_not] at h1
    rw [List.take_of_length_le (by omega)]
    exact ⟨rfl, hx.trans (hx2.trans (hx3.trans hx4))⟩
end Go.Am


/- PlanW6 over the table of weave (relayset.py). -/
set_option linter.unusedVariables false
set_option linter.unusedSimpArgs false
namespace Go.Am
variable {m : Mem}

def leftP (p : PlanD) (c : Int) : Int := p.frame - (pop (winW p.places c) : Int) - sumW (whL p.places c)
theorem pop_le (x : BitVec 64) : pop x ≤ 64 := popN_le 64 _

/-- What is asked ahead of any reading of a plan. -/
structure PlanR (p : PlanD) : Prop where
  len : p.places.length < 1000000
  pcs : ∀ x ∈ p.places, x.pieces.length < 1000000
  sh : ShOk p.places
  fr : 0 ≤ p.frame ∧ p.frame ≤ 64

theorem left_spec {p : PlanD} {v : Value} {c : Int} (hv : PlanV m p v) (hr : PlanR p) : WC R F.plan_left [v, .int .i64 c] m fun r m' => r = .int .i64 (leftP p c) ∧ Ext m m' := by
  refine WC.of R.plan_left rfl ?_
  obtain ⟨pv, rfl, hp⟩ := hv
  obtain ⟨hl, hp1, hs, hfr⟩ := hr
  simp only [RC.plan_left, planV, go_sem, hp.one]
  have hx : Ext m (m.new (.cells [.int .i64 p.frame, u32 p.cores, pv] (some 3))) := Ext.new
  have hb : Bk (m.new (.cells [.int .i64 p.frame, u32 p.cores, pv] (some 3))) m.next [.int .i64 p.frame, u32 p.cores, pv] 3 := Bk.new
  generalize m.new (.cells [.int .i64 p.frame, u32 p.cores, pv] (some 3)) = m1 at hx hb ⊢
  simp only [go_sem, ruB, hb.at_]
  refine gC.of (Windows_spec (p := p) ⟨pv, rfl, hp.keep hx⟩ hl hp1) ?_
  rintro _ m2 ⟨rfl, hx2⟩
  simp only [go_sem]
  have hb2 := hb.keep hx2
  try simp only [go_sem, ruB, hb.at_, hb2.at_]
  refine gC.of mask_Count_spec ?_
  rintro _ m_ ⟨rfl, hm_⟩
  replace hm_ := hm_.symm
  subst hm_
  simp only [go_sem]
  try simp only [go_sem, ruB, hb.at_, hb2.at_]
  have hpop := pop_le (winW p.places c)
  refine gC.of (Wholes_spec (p := p) ⟨pv, rfl, (hp.keep hx).keep hx2⟩ hl) ?_
  rintro w m4 ⟨ho, hx4⟩
  simp only [go_sem, ho.sl.len]
  have hsl := ho.sl
  have hlt := ho.lt
  have hw := whL_sh (c := c) hs
  have hwl : (whL p.places c).length < 1000000 := Nat.lt_of_le_of_lt whL_le hl
  have hwr : IntKind.wrap .i64 (p.frame - (pop (winW p.places c) : Nat)) = p.frame - (pop (winW p.places c) : Nat) := by rw [wrap_i64 (by omega) (by omega)]
  rw [hwr]
  unfold leftP
  generalize whL p.places c = W at *
  have hT : ∃ T : Int, T = p.frame - (pop (winW p.places c) : Nat) ∧ -64 ≤ T ∧ T ≤ 64 := ⟨_, rfl, by omega, by omega⟩
  obtain ⟨T, hT, hT1, hT2⟩ := hT
  rw [← hT]
  refine WL.of (fun n e m' => ∃ i : Nat, i ≤ W.length ∧ n = W.length - i ∧ e = [(5, .int .i64 (T - sumW (W.take i))), (17, w), (18, .int .i64 W.length), (19, .int .i64 i)] ∧ Ext m4 m') W.length
    ⟨0, by omega, by omega, by simp only [go_sem, sumW, List.take_zero, List.map_nil, List.sum_nil, Int.sub_zero] <;> rfl, Ext.refl _⟩ ?_
  rintro _ _ m5 ⟨i, hi, rfl, rfl, hx5⟩
  simp only [RB.plan_left_1, go_sem]
  refine gT.of (fun h1 => ?_) (fun h1 => ?_)
  · simp only [decide_eq_true_eq] at h1
    have hil : i < W.length := by omega
    obtain ⟨b, o, a1, a2, a3, a4⟩ := (hsl.keep hlt hx5).elem wtV_len (k := .i64) hil
    have hf := sumW_succ hil
    have b1 := sum_take_bounds (i := i) hw hwl
    have b2 := hw _ (List.getElem_mem hil)
    generalize W[i] = z at *
    simp only [wtV] at a2
    simp only [go_sem, a1, a2, ruB]
    have hx6 : Ext m5 (m5.new (.cells [.int .i64 z.1, .int .i64 z.2] (some 2))) := Ext.new
    have hb6 : Bk (m5.new (.cells [.int .i64 z.1, .int .i64 z.2] (some 2))) m5.next [.int .i64 z.1, .int .i64 z.2] 2 := Bk.new
    generalize m5.new (.cells [.int .i64 z.1, .int .i64 z.2] (some 2)) = m6 at hx6 hb6 ⊢
    simp only [go_sem, ruB, hb6.at_, step1 (show i < 1000000 by omega)]
    refine ⟨W.length - (i + 1), by omega, i + 1, by omega, rfl, ?_, hx5.trans hx6⟩
    rw [hf, wrap_i64 (by omega) (by omega)]
    simp only [Int.sub_sub]
  · simp only [go_sem]
    simp only [decide_eq_false_iff_not] at h1
    rw [List.take_of_length_le (by omega)]
    exact ⟨rfl, hx.trans (hx2.trans (hx4.trans hx5))⟩

def roomP (p : PlanD) (c : Int) : Int := if hasC p c = true then max 0 (leftP p c) else 0
def roomR (p : PlanD) (c : Int) : Int := if hasC p c = true then p.frame - loadR p c else 0

theorem Room_spec {p : PlanD} {v : Value} {c : Int} (hv : PlanV m p v) (hr : PlanR p) : WC R F.plan_Room [v, .int .i64 c] m fun r m' => r = .int .i64 (roomP p c) ∧ Ext m m' := by
  refine WC.of R.plan_Room rfl ?_
  obtain ⟨pv, rfl, hp⟩ := hv
  simp only [RC.plan_Room, planV, go_sem, hp.one]
  have hx : Ext m (m.new (.cells [.int .i64 p.frame, u32 p.cores, pv] (some 3))) := Ext.new
  have hb : Bk (m.new (.cells [.int .i64 p.frame, u32 p.cores, pv] (some 3))) m.next [.int .i64 p.frame, u32 p.cores, pv] 3 := Bk.new
  generalize m.new (.cells [.int .i64 p.frame, u32 p.cores, pv] (some 3)) = m1 at hx hb ⊢
  simp only [go_sem, ruB, hb.at_]
  refine gC.of (has_spec (p := p) ⟨pv, rfl, hp.keep hx⟩) ?_
  rintro _ m2 ⟨rfl, hx2⟩
  simp only [go_sem]
  unfold roomP
  have hb2 := hb.keep hx2
  refine gT.of (fun h => ?_) (fun h => ?_)
  · have h0 : hasC p c = false := by simpa using h
    simp only [go_sem, h0]
    exact hx.trans hx2
  · have h0 : hasC p c = true := by simpa using h
    simp only [go_sem, ruB, hb2.at_, h0]
    refine gC.of (left_spec (p := p) ⟨pv, rfl, (hp.keep hx).keep hx2⟩ hr) ?_
    rintro _ m3 ⟨rfl, hx3⟩
    simp only [go_sem]
    refine ⟨?_, hx.trans (hx2.trans hx3)⟩
    congr 1
    split <;> omega

theorem loadR_le {p : PlanD} {c : Int} (hr : PlanR p) : 0 ≤ loadR p c ∧ loadR p c ≤ 64000064 := by
  have h1 := sumW_le (whL_sh (c := c) hr.sh)
  have h2 : (whL p.places c).length < 1000000 := Nat.lt_of_le_of_lt whL_le hr.len
  have h3 := tks_len (x := rwN p.places c 64) (n := 64)
  unfold loadR
  omega

theorem refRoom_spec {p : PlanD} {v : Value} {c : Int} (hv : PlanV m p v) (hr : PlanR p) : WC R F.ref16_Room [v, .int .i64 c] m fun r m' => r = .int .i64 (roomR p c) ∧ Ext m m' := by
  refine WC.of R.ref16_Room rfl ?_
  obtain ⟨pv, rfl, hp⟩ := hv
  have hle := loadR_le (c := c) hr
  have hfr := hr.fr
  simp only [RC.ref16_Room, planV, go_sem, hp.one]
  have hx : Ext m (m.new (.cells [.int .i64 p.frame, u32 p.cores, pv] (some 3))) := Ext.new
  have hb : Bk (m.new (.cells [.int .i64 p.frame, u32 p.cores, pv] (some 3))) m.next [.int .i64 p.frame, u32 p.cores, pv] 3 := Bk.new
  generalize m.new (.cells [.int .i64 p.frame, u32 p.cores, pv] (some 3)) = m1 at hx hb ⊢
  simp only [go_sem, ruB, hb.at_]
  refine gC.of (refHas_spec (p := p) ⟨pv, rfl, hp.keep hx⟩) ?_
  rintro _ m2 ⟨rfl, hx2⟩
  simp only [go_sem]
  unfold roomR
  have hb2 := hb.keep hx2
  refine gT.of (fun h => ?_) (fun h => ?_)
  · have h0 : hasC p c = false := by simpa using h
    simp only [go_sem, h0]
    exact hx.trans hx2
  · have h0 : hasC p c = true := by simpa using h
    simp only [go_sem, ruB, hb2.at_, h0]
    refine gC.of (refLoad_spec (p := p) ⟨pv, rfl, (hp.keep hx).keep hx2⟩ hr.len hr.pcs hr.sh) ?_
    rintro _ m4 ⟨rfl, hx4⟩
    simp only [go_sem]
    have hb4 := hb2.keep hx4
    try simp only [go_sem, ruB, hb2.at_, hb4.at_]
    refine ⟨?_, hx.trans (hx2.trans hx4)⟩
    rw [wrap_i64 (by omega) (by omega), h0]; rfl
end Go.Am


/- PlanW7 over the table of weave (relayset.py). -/
set_option linter.unusedVariables false
set_option linter.unusedSimpArgs false
namespace Go.Am
variable {m : Mem}

def sumI (l : List Int) : Int := l.sum
theorem sumI_succ {l : List Int} {i : Nat} (h : i < l.length) : sumI (l.take (i + 1)) = sumI (l.take i) + l[i] := by
  unfold sumI
  rw [List.take_succ_eq_append_getElem h, List.sum_append]; simp
theorem sumI_le {l : List Int} {a b : Int} (ha : a ≤ 0) (hb : 0 ≤ b) (h : ∀ w ∈ l, a ≤ w ∧ w ≤ b) {i : Nat} : a * l.length ≤ sumI (l.take i) ∧ sumI (l.take i) ≤ b * l.length := by
  induction l generalizing i with
  | nil => simp [sumI]
  | cons x t ih =>
    have h2 := h x (by simp)
    have e1 : a * ((x :: t).length : Nat) = a + a * (t.length : Nat) := by rw [List.length_cons, Int.natCast_add, Int.mul_add]; omega
    have e2 : b * ((x :: t).length : Nat) = b + b * (t.length : Nat) := by rw [List.length_cons, Int.natCast_add, Int.mul_add]; omega
    rw [e1, e2]
    cases i with
    | zero =>
      have q := ih (fun w hw => h w (by simp [hw])) (i := 0)
      simp only [List.take_zero, sumI, List.sum_nil] at *
      omega
    | succ i =>
      have q := ih (fun w hw => h w (by simp [hw])) (i := i)
      have e : sumI ((x :: t).take (i + 1)) = x + sumI (t.take i) := by simp [sumI]
      omega

def freeP (p : PlanD) : Int := sumI ((csP p 16).map fun (c : Nat) => roomP p c)
def rL (p : PlanD) : List Int := (List.range 16).map fun (c : Nat) => roomR p c
theorem rL_len {p : PlanD} : (rL p).length = 16 := by simp [rL]
theorem rL_get {p : PlanD} {i : Nat} (h : i < (rL p).length) : (rL p)[i] = roomR p i := by simp [rL]
def freeR (p : PlanD) : Int := sumI (rL p)

theorem roomP_le {p : PlanD} {c : Int} (hr : PlanR p) : 0 ≤ roomP p c ∧ roomP p c ≤ 64 := by
  have h1 := sumW_le (whL_sh (c := c) hr.sh)
  have := hr.fr
  unfold roomP leftP
  split <;> omega
theorem roomR_le {p : PlanD} {c : Int} (hr : PlanR p) : -64000064 ≤ roomR p c ∧ roomR p c ≤ 64000064 := by
  have h1 := loadR_le (c := c) hr
  have := hr.fr
  unfold roomR
  split <;> omega

theorem refFree_spec {p : PlanD} {v : Value} (hv : PlanV m p v) (hr : PlanR p) : WC R F.ref16_Free [v] m fun r m' => r = .int .i64 (freeR p) ∧ Ext m m' := by
  refine WC.of R.ref16_Free rfl ?_
  obtain ⟨pv, rfl, hp⟩ := hv
  simp only [RC.ref16_Free, planV, go_sem, hp.one]
  have hx : Ext m (m.new (.cells [.int .i64 p.frame, u32 p.cores, pv] (some 3))) := Ext.new
  have hb : Bk (m.new (.cells [.int .i64 p.frame, u32 p.cores, pv] (some 3))) m.next [.int .i64 p.frame, u32 p.cores, pv] 3 := Bk.new
  generalize m.new (.cells [.int .i64 p.frame, u32 p.cores, pv] (some 3)) = m1 at hx hb ⊢
  unfold freeR
  have hk : ∀ y ∈ rL p, -64000064 ≤ y ∧ y ≤ 64000064 := by
    intro y hy
    obtain ⟨c, -, rfl⟩ := List.mem_map.1 hy
    exact roomR_le hr
  refine WL.of (fun n e m' => ∃ i : Nat, i ≤ 16 ∧ n = 16 - i ∧ e = [(1, pt m.next), (3, .int .i64 (sumI ((rL p).take i))), (4, .int .i64 i)] ∧ Ext m1 m') 16
    ⟨0, by omega, by omega, by simp only [go_sem, sumI, List.take_zero, List.sum_nil] <;> rfl, Ext.refl _⟩ ?_
  rintro _ _ m3 ⟨i, hi, rfl, rfl, hx3⟩
  have hb3 := hb.keep hx3
  simp only [RB.ref16_Free_1, pt, go_sem]
  refine gT.of (fun h1 => ?_) (fun h1 => ?_)
  · simp only [decide_eq_true_eq] at h1
    have hf := sumI_succ (l := rL p) (i := i) (by rw [rL_len]; omega)
    rw [rL_get] at hf
    have b1 := sumI_le (by omega : (-64000064 : Int) ≤ 0) (by omega) hk (i := i)
    rw [rL_len] at b1
    have b2 := roomR_le (c := i) hr
    try simp only [go_sem, ruB, hb3.at_]
    refine gC.of (refRoom_spec (p := p) (c := i) ⟨pv, rfl, (hp.keep hx).keep hx3⟩ hr) ?_
    rintro _ m4 ⟨rfl, hx4⟩
    simp only [go_sem]
    try simp only [go_sem, ruB, step1 (show i < 1000000 by omega)]
    refine ⟨16 - (i + 1), by omega, i + 1, by omega, rfl, ?_, hx3.trans hx4⟩
    rw [hf, wrap_i64 (by omega) (by omega)]
  · try simp only [go_sem, ruB]
    simp only [decide_eq_false_iff_not] at h1
    rw [List.take_of_length_le (by rw [rL_len]; omega)]
    exact ⟨rfl, hx.trans hx3⟩

def lightP (p : PlanD) : Bool := (p.places.take 300).all (fun x => decide (x.pieces.length ≤ 20)) && decide (p.places.length ≤ 60)

theorem Light_spec {p : PlanD} {v : Value} (hv : PlanV m p v) : WC R F.law16_Light [v] m fun r m' => r = .bool (lightP p) ∧ Ext m m' := by
  refine WC.of R.law16_Light rfl ?_
  obtain ⟨pv, rfl, hp⟩ := hv
  simp only [RC.law16_Light, planV, go_sem, hp.one]
  have hx : Ext m (m.new (.cells [.int .i64 p.frame, u32 p.cores, pv] (some 3))) := Ext.new
  have hb : Bk (m.new (.cells [.int .i64 p.frame, u32 p.cores, pv] (some 3))) m.next [.int .i64 p.frame, u32 p.cores, pv] 3 := Bk.new
  generalize m.new (.cells [.int .i64 p.frame, u32 p.cores, pv] (some 3)) = m1 at hx hb ⊢
  have hp1 := hp.keep hx
  refine WL.of (fun n e m' => ∃ i : Nat, i ≤ p.places.length ∧ i ≤ 300 ∧ n = 300 - i ∧ e = [(1, pt m.next), (3, .int .i64 i)] ∧ (∀ x ∈ p.places.take i, x.pieces.length ≤ 20) ∧ m' = m1) 300
    ⟨0, by omega, by omega, by omega, by simp only [go_sem] <;> rfl, by simp, rfl⟩ ?_
  rintro _ _ m3 ⟨i, hi, hi3, rfl, rfl, hall, rfl⟩
  have out : i = p.places.length ∨ i = 300 → lightP p = decide (p.places.length ≤ 60) := by
    intro h
    unfold lightP
    have : p.places.take 300 = p.places.take i := by
      rcases h with h | h
      · rw [List.take_of_length_le (by omega), List.take_of_length_le (by omega)]
      · rw [h]
    rw [this, List.all_eq_true.2 fun x hx => by simpa using hall x hx, Bool.true_and]
  simp only [RB.law16_Light_1, pt, go_sem, ruB, hb.at_, hp1.len]
  refine gT.of (fun h1' => ?_) (fun h1' => ?_) <;> (have h1 := h1'; try simp only [decide_eq_true_eq, decide_eq_false_iff_not, beq_iff_eq, bne_iff_ne, beq_eq_false_iff_ne, ne_eq, Bool.not_eq_true', Bool.not_eq_false', bne_eq_false_iff_eq, Int.not_lt, Int.not_le] at h1)
  · have hil : i < p.places.length := by omega
    try simp only [go_sem, ruB, h1']
    refine gT.of (fun h2' => ?_) (fun h2' => ?_) <;> (have h2 := h2'; try simp only [decide_eq_true_eq, decide_eq_false_iff_not, beq_iff_eq, bne_iff_ne, beq_eq_false_iff_ne, ne_eq, Bool.not_eq_true', Bool.not_eq_false', bne_eq_false_iff_eq, Int.not_lt, Int.not_le] at h2)
    · obtain ⟨b, o, qv, a1, a2, a3, a4, a5⟩ := hp1.elem hil
      have a33 := a3 3 (by omega)
      have hm : p.places[i] ∈ p.places.take 300 := by
        rw [List.mem_take_iff_getElem]
        exact ⟨i, by omega, rfl⟩
      have hsn : p.places.take (i + 1) = p.places.take i ++ [p.places[i]] := List.take_succ_eq_append_getElem hil
      generalize p.places[i] = x at *
      simp only [plV, List.getElem?_cons_zero, List.getElem?_cons_succ] at a33
      try simp only [go_sem, ruB, hb.at_, a1, a33, a4.len, h1', h2']
      refine gT.of (fun h3 => ?_) (fun h3 => ?_)
      · simp only [decide_eq_true_eq] at h3
        have : lightP p = false := by
          unfold lightP
          rw [Bool.and_eq_false_iff]
          left
          rw [List.all_eq_false]
          exact ⟨x, hm, by simp; omega⟩
        try simp only [go_sem, ruB, this]
        exact hx
      · simp only [decide_eq_false_iff_not] at h3
        try simp only [go_sem, ruB, step1 (show i < 1000000 by omega)]
        refine ⟨300 - (i + 1), by omega, i + 1, by omega, by omega, rfl, rfl, ?_⟩
        rw [hsn]
        intro y hy
        rcases List.mem_append.1 hy with hy | hy
        · exact hall y hy
        · rw [List.mem_singleton.1 hy]; omega
    · try simp only [go_sem, ruB, hb.at_, hp1.len, h1', h2']
      rw [out (.inr (by omega))]
      exact ⟨by rw [show (decide ((p.places.length : Int) ≤ 60)) = decide (p.places.length ≤ 60) from decide_eq_decide.2 (by omega)], hx⟩
  · try simp only [go_sem, ruB, hb.at_, hp1.len, h1']
    rw [out (.inl (by omega))]
    exact ⟨by rw [show (decide ((p.places.length : Int) ≤ 60)) = decide (p.places.length ≤ 60) from decide_eq_decide.2 (by omega)], hx⟩
end Go.Am


/- PlanW8 over the table of weave (relayset.py). -/
set_option linter.unusedVariables false
set_option linter.unusedSimpArgs false
namespace Go.Am
open Classical
variable {m : Mem}

def cntA (x : Pl) (t : Nat) : Nat := x.pieces.countP (atB (-1) t)
def sumA (x : Pl) : Nat → Nat
  | 0 => 0
  | n + 1 => sumA x n + cntA x n
def pcOk (p : PlanD) (ps : List Pc) (i : Nat) : Prop := ∃ h : i < ps.length, hasC p ps[i].1 = true ∧ (∀ h : 0 < i, (ps[i - 1]'(by omega)).1 < ps[i].1) ∧ ps[i].2 ≠ 0#64
def refPlaceP (p : PlanD) (x : Pl) : Prop :=
  isU x.unit ∧ 1 ≤ x.share ∧ x.share ≤ p.frame ∧ (x.pieces.length = 0 → hasC p x.core = true) ∧
  (x.pieces.length ≠ 0 → (∀ i, i < x.pieces.length → pcOk p x.pieces i) ∧ (∀ t, t < 64 → cntA x t ≤ 1 ∧ (0 < cntA x t → (t : Int) < p.frame)) ∧ 2 ≤ x.pieces.length ∧ x.core = 0 ∧ (sumA x 64 : Int) = x.share)

theorem sub1 {i : Nat} (h : 0 < i) (h2 : i < 1000000) : IntKind.wrap .i64 ((i : Int) - 1) = ((i - 1 : Nat) : Int) := by rw [wrap_i64 (by omega) (by omega)]; omega

theorem sumA_le {x : Pl} {n : Nat} (h : ∀ t, t < n → cntA x t ≤ 1) : sumA x n ≤ n := by
  induction n with
  | zero => simp [sumA]
  | succ n ih =>
    have := ih fun t ht => h t (by omega)
    have := h n (by omega)
    simp only [sumA]; omega

theorem refPlace_spec {p : PlanD} {x : Pl} {v w : Value} (hv : PlanV m p v) (hw : PlV m x w) (hl : x.pieces.length < 1000000) : WC R F.ref16_place [v, w] m fun r m' => r = .bool (decide (refPlaceP p x)) ∧ Ext m m' := by
  refine WC.of R.ref16_place rfl ?_
  obtain ⟨pv, rfl, hp⟩ := hv
  obtain ⟨qv, rfl, hq⟩ := hw
  simp only [RC.ref16_place, planV, plV, go_sem, hp.one, hq.one]
  have hx : Ext m (m.new (.cells [.int .i64 p.frame, u32 p.cores, pv] (some 3))) := Ext.new
  have hb : Bk (m.new (.cells [.int .i64 p.frame, u32 p.cores, pv] (some 3))) m.next [.int .i64 p.frame, u32 p.cores, pv] 3 := Bk.new
  generalize m.new (.cells [.int .i64 p.frame, u32 p.cores, pv] (some 3)) = m1 at hx hb ⊢
  have hx2 : Ext m1 (m1.new (.cells [.int .i64 x.unit, .int .i64 x.share, .int .i64 x.core, qv] (some 4))) := Ext.new
  have hb2 : Bk (m1.new (.cells [.int .i64 x.unit, .int .i64 x.share, .int .i64 x.core, qv] (some 4))) m1.next [.int .i64 x.unit, .int .i64 x.share, .int .i64 x.core, qv] 4 := Bk.new
  generalize m1.new (.cells [.int .i64 x.unit, .int .i64 x.share, .int .i64 x.core, qv] (some 4)) = m2 at hx2 hb2 ⊢
  have hb := hb.keep hx2
  have hp := (hp.keep hx).keep hx2
  have hq := (hq.keep hx).keep hx2
  try simp only [go_sem, ruB, hb2.at_]
  have fin : ∀ {P : Prop} {b : Bool}, (b = true ↔ P) → (Value.bool b = Value.bool (decide P)) := by
    intro P b h; congr 1; rw [Bool.eq_iff_iff, decide_eq_true_eq]; exact h
  have no : ∀ {P : Prop}, ¬ P → (Value.bool false = Value.bool (decide P)) := fun h => by rw [decide_eq_false h]
  refine gC.of Is_spec ?_
  rintro _ m_ ⟨hu, hm_⟩
  replace hm_ := hm_.symm
  subst hm_
  rcases hu with ⟨rfl, hu⟩ | ⟨rfl, hu⟩
  · try simp only [go_sem, ruB, hb2.at_]
    refine gT.of (fun h1' => ?_) (fun h1' => ?_) <;> (have h1 := h1'; try simp only [decide_eq_true_eq, decide_eq_false_iff_not, beq_iff_eq, bne_iff_ne, beq_eq_false_iff_ne, ne_eq, Bool.not_eq_true', Bool.not_eq_false', bne_eq_false_iff_eq, Int.not_lt, Int.not_le] at h1)
    · try simp only [go_sem, ruB, hb2.at_, h1']
      exact ⟨no fun h => by have := h.2.1; omega, hx.trans hx2⟩
    · try simp only [go_sem, ruB, hb2.at_, hb.at_, h1']
      refine gT.of (fun h2' => ?_) (fun h2' => ?_) <;> (have h2 := h2'; try simp only [decide_eq_true_eq, decide_eq_false_iff_not, beq_iff_eq, bne_iff_ne, beq_eq_false_iff_ne, ne_eq, Bool.not_eq_true', Bool.not_eq_false', bne_eq_false_iff_eq, Int.not_lt, Int.not_le] at h2)
      · try simp only [go_sem, ruB, h2']
        exact ⟨no fun h => by have := h.2.2.1; omega, hx.trans hx2⟩
      · try simp only [go_sem, ruB, h2', hb2.at_, hq.len]
        refine gT.of (fun h3' => ?_) (fun h3' => ?_) <;> (have h3 := h3'; try simp only [decide_eq_true_eq, decide_eq_false_iff_not, beq_iff_eq, bne_iff_ne, beq_eq_false_iff_ne, ne_eq, Bool.not_eq_true', Bool.not_eq_false', bne_eq_false_iff_eq, Int.not_lt, Int.not_le] at h3)
        · try simp only [go_sem, ruB, h3', hb2.at_, hb.at_]
          refine gC.of (refHas_spec (p := p) ⟨pv, rfl, hp⟩) ?_
          rintro _ m3 ⟨rfl, hx3⟩
          simp only [go_sem]
          refine ⟨fin ⟨fun h => ⟨hu, by omega, by omega, fun _ => h, fun h => by omega⟩, fun h => h.2.2.2.1 (by omega)⟩, hx.trans (hx2.trans hx3)⟩
        · have hne : x.pieces.length ≠ 0 := by omega
          try simp only [go_sem, ruB, h3']
          refine WL.of (fun n e m' => ∃ i : Nat, i ≤ x.pieces.length ∧ n = x.pieces.length - i ∧ e = [(2, pt m.next), (3, pt m1.next), (5, .int .i64 i)] ∧ (∀ j, j < i → pcOk p x.pieces j) ∧ Ext m2 m') x.pieces.length
            ⟨0, by omega, by omega, by simp only [go_sem] <;> rfl, fun j hj => by omega, Ext.refl _⟩ ?_
          rintro _ _ m3 ⟨i, hi, rfl, rfl, hall, hx3⟩
          have hq3 := hq.keep hx3
          have hb3 := hb2.keep hx3
          have hc3 := hb.keep hx3
          simp only [RB.ref16_place_2, pt, go_sem, ruB, hb3.at_, hq3.len]
          refine gT.of (fun h4' => ?_) (fun h4' => ?_) <;> (have h4 := h4'; try simp only [decide_eq_true_eq, decide_eq_false_iff_not, beq_iff_eq, bne_iff_ne, beq_eq_false_iff_ne, ne_eq, Bool.not_eq_true', Bool.not_eq_false', bne_eq_false_iff_eq, Int.not_lt, Int.not_le] at h4)
          · have hil : i < x.pieces.length := by omega
            obtain ⟨b, o, a1, a2, a3, a4⟩ := hq3.elem hil
            have hcase : ∀ P : Prop, ¬ P → (P ↔ False) := fun P h => iff_false_intro h
            have bad : ¬ pcOk p x.pieces i → ¬ refPlaceP p x := fun h h2 => h ((h2.2.2.2.2 hne).1 i hil)
            have hdef : pcOk p x.pieces i ↔ (hasC p x.pieces[i].1 = true ∧ (∀ h : 0 < i, (x.pieces[i - 1]'(by omega)).1 < x.pieces[i].1) ∧ x.pieces[i].2 ≠ 0#64) := ⟨fun ⟨_, h⟩ => h, fun h => ⟨hil, h⟩⟩
            have hprev : ∀ h : 0 < i, ∃ b' o' y, y = (x.pieces[i - 1]'(by omega)) ∧ aIdxS 2 qv (.int .i64 (i - 1 : Nat)) = some (.pointer (some ⟨b', o', none⟩)) ∧ ∀ m', Ext m3 m' → aLoad false 1 m' (.pointer (some ⟨b', o', none⟩)) = some (.int .i64 y.1) := by
              intro h
              obtain ⟨b', o', c1, c2, c3, c4⟩ := hq3.elem (i := i - 1) (by omega)
              refine ⟨b', o', _, rfl, c1, fun m' hm => ?_⟩
              obtain ⟨b2, o2, d1, d2, d3, d4⟩ := (hq3.keep hm).elem (i := i - 1) (by omega)
              rw [c1] at d1; cases d1
              have := d3 0 (by omega)
              simpa [pcV] using this
            generalize hy : x.pieces[i] = y at *
            simp only [pcV] at a2
            try simp only [go_sem, ruB, hb3.at_, hc3.at_, hb3.ne, hc3.ne, a1, a2]
            have hx4 : Ext m3 (m3.new (.cells [.int .i64 y.1, u64 y.2] (some 2))) := Ext.new
            have hb4 : Bk (m3.new (.cells [.int .i64 y.1, u64 y.2] (some 2))) m3.next [.int .i64 y.1, u64 y.2] 2 := Bk.new
            generalize m3.new (.cells [.int .i64 y.1, u64 y.2] (some 2)) = m4 at hx4 hb4 ⊢
            have hb5 := hb3.keep hx4
            have hc5 := hc3.keep hx4
            try simp only [go_sem, ruB, hb4.at_, hb5.at_, hc5.at_]
            refine gC.of (refHas_spec (p := p) ⟨pv, rfl, (hp.keep hx3).keep hx4⟩) ?_
            rintro _ m5 ⟨rfl, hx5⟩
            simp only [go_sem]
            have hb6 := hb5.keep hx5
            have hb7 := hb4.keep hx5
            have hxx : Ext m2 m5 := hx3.trans (hx4.trans hx5)
            try simp only [go_sem, ruB, hb6.at_, hb7.at_, hb4.at_, hb5.at_]
            refine gT.of (fun h5' => ?_) (fun h5' => ?_) <;> (have h5 := h5'; try simp only [decide_eq_true_eq, decide_eq_false_iff_not, beq_iff_eq, bne_iff_ne, beq_eq_false_iff_ne, ne_eq, Bool.not_eq_true', Bool.not_eq_false', bne_eq_false_iff_eq, Int.not_lt, Int.not_le] at h5)
            · try simp only [go_sem, ruB, h5', hb6.at_, hb7.at_]
              exact ⟨no (bad fun h => by rw [hdef] at h; simp [h.1] at h5), hx.trans (hx2.trans hxx)⟩
            · have g5 : hasC p y.1 = true := by simpa using h5'
              have fin2 : (∀ h : 0 < i, (x.pieces[i - 1]'(by omega)).1 < y.1) → y.2 ≠ 0#64 → ∀ j, j < i + 1 → pcOk p x.pieces j := by
                intro q1 q2 j hj
                by_cases e : j = i
                · subst e; exact hdef.2 ⟨g5, q1, q2⟩
                · exact hall j (by omega)
              try simp only [go_sem, ruB, h5', g5, hb6.at_, hb7.at_]
              refine gT.of (fun h6' => ?_) (fun h6' => ?_) <;> (have h6 := h6'; try simp only [decide_eq_true_eq, decide_eq_false_iff_not, beq_iff_eq, bne_iff_ne, beq_eq_false_iff_ne, ne_eq, Bool.not_eq_true', Bool.not_eq_false', bne_eq_false_iff_eq, Int.not_lt, Int.not_le] at h6)
              · obtain ⟨b', o', z, hz, c1, c2⟩ := hprev (by omega)
                have c3 := c2 m5 (hx4.trans hx5)
                try simp only [go_sem, ruB, h6', hb6.at_, hb7.at_, sub1 (show 0 < i by omega) (show i < 1000000 by omega), c1, c3]
                refine gT.of (fun h7' => ?_) (fun h7' => ?_) <;> (have h7 := h7'; try simp only [decide_eq_true_eq, decide_eq_false_iff_not, beq_iff_eq, bne_iff_ne, beq_eq_false_iff_ne, ne_eq, Bool.not_eq_true', Bool.not_eq_false', bne_eq_false_iff_eq, Int.not_lt, Int.not_le] at h7)
                · try simp only [go_sem, ruB, h7']
                  exact ⟨no (bad fun h => by rw [hdef] at h; have := h.2.1 (by omega); rw [← hz] at this; omega), hx.trans (hx2.trans hxx)⟩
                · try simp only [go_sem, ruB, h7', hb7.at_]
                  refine gT.of (fun h8' => ?_) (fun h8' => ?_) <;> (have h8 := h8'; try simp only [decide_eq_true_eq, decide_eq_false_iff_not, beq_iff_eq, bne_iff_ne, beq_eq_false_iff_ne, ne_eq, Bool.not_eq_true', Bool.not_eq_false', bne_eq_false_iff_eq, Int.not_lt, Int.not_le] at h8)
                  · try simp only [go_sem, ruB, h8']
                    exact ⟨no (bad fun h => by rw [hdef] at h; exact h.2.2 h8), hx.trans (hx2.trans hxx)⟩
                  · try simp only [go_sem, ruB, h8', step1 (show i < 1000000 by omega)]
                    refine ⟨x.pieces.length - (i + 1), by omega, i + 1, by omega, rfl, rfl, fin2 (fun h => by rw [← hz]; omega) h8, hxx⟩
              · try simp only [go_sem, ruB, h6', hb7.at_]
                refine gT.of (fun h8' => ?_) (fun h8' => ?_) <;> (have h8 := h8'; try simp only [decide_eq_true_eq, decide_eq_false_iff_not, beq_iff_eq, bne_iff_ne, beq_eq_false_iff_ne, ne_eq, Bool.not_eq_true', Bool.not_eq_false', bne_eq_false_iff_eq, Int.not_lt, Int.not_le] at h8)
                · try simp only [go_sem, ruB, h8']
                  exact ⟨no (bad fun h => by rw [hdef] at h; exact h.2.2 h8), hx.trans (hx2.trans hxx)⟩
                · try simp only [go_sem, ruB, h8', step1 (show i < 1000000 by omega)]
                  refine ⟨x.pieces.length - (i + 1), by omega, i + 1, by omega, rfl, rfl, fin2 (fun h => by omega) h8, hxx⟩
          · have hil : i = x.pieces.length := by omega
            have pcs : ∀ j, j < x.pieces.length → pcOk p x.pieces j := fun j hj => hall j (by omega)
            try simp only [go_sem, ruB]
            refine WL.of (fun n e m' => ∃ t : Nat, t ≤ 64 ∧ n = 64 - t ∧ e = [(2, pt m.next), (3, pt m1.next), (7, .int .i64 (sumA x t : Nat)), (8, .int .i64 t)] ∧ (∀ j, j < t → cntA x j ≤ 1 ∧ (0 < cntA x j → (j : Int) < p.frame)) ∧ Ext m3 m') 64
              ⟨0, by omega, by omega, by simp only [go_sem] <;> rfl, fun j hj => by omega, Ext.refl _⟩ ?_
            rintro _ _ m4 ⟨t, ht, rfl, rfl, hts, hx4⟩
            have hq4 := hq3.keep hx4
            have hb4 := hb3.keep hx4
            have hc4 := hc3.keep hx4
            have hs1 := sumA_le (x := x) (n := t) fun j hj => (hts j hj).1
            have hbad : ¬ (cntA x t ≤ 1 ∧ (0 < cntA x t → (t : Int) < p.frame)) → t < 64 → ¬ refPlaceP p x := fun h h1 h2 => h ((h2.2.2.2.2 hne).2.1 t h1)
            have hX : Ext m m4 := hx.trans (hx2.trans (hx3.trans hx4))
            simp only [RB.ref16_place_1, pt, go_sem]
            refine gT.of (fun h5' => ?_) (fun h5' => ?_) <;> (have h5 := h5'; try simp only [decide_eq_true_eq, decide_eq_false_iff_not, beq_iff_eq, bne_iff_ne, beq_eq_false_iff_ne, ne_eq, Bool.not_eq_true', Bool.not_eq_false', bne_eq_false_iff_eq, Int.not_lt, Int.not_le] at h5)
            · try simp only [go_sem, ruB, hb4.at_]
              refine gC.of (At_spec (x := x) (c := -1) (t := t) ⟨qv, rfl, hq4⟩ hl) ?_
              rintro _ m5 ⟨rfl, hx5⟩
              have hc5 := hc4.keep hx5
              have hc : List.countP (atB (-1) (t : Int)) x.pieces = cntA x t := rfl
              rw [hc]
              try simp only [go_sem, ruB]
              have fin3 : cntA x t ≤ 1 → (0 < cntA x t → (t : Int) < p.frame) → ∀ j, j < t + 1 → cntA x j ≤ 1 ∧ (0 < cntA x j → (j : Int) < p.frame) := by
                intro q1 q2 j hj
                by_cases e : j = t
                · subst e; exact ⟨q1, q2⟩
                · exact hts j (by omega)
              have hsw : cntA x t ≤ 1 → IntKind.wrap .i64 ((sumA x t : Nat) + (cntA x t : Nat) : Int) = ((sumA x (t + 1) : Nat) : Int) := by
                intro h
                rw [wrap_i64 (by omega) (by omega)]; rfl
              refine gT.of (fun h6' => ?_) (fun h6' => ?_) <;> (have h6 := h6'; try simp only [decide_eq_true_eq, decide_eq_false_iff_not, beq_iff_eq, bne_iff_ne, beq_eq_false_iff_ne, ne_eq, Bool.not_eq_true', Bool.not_eq_false', bne_eq_false_iff_eq, Int.not_lt, Int.not_le] at h6)
              · try simp only [go_sem, ruB, h6']
                exact ⟨no (hbad (fun h => by omega) (by omega)), hX.trans hx5⟩
              · try simp only [go_sem, ruB, h6']
                refine gT.of (fun h7' => ?_) (fun h7' => ?_) <;> (have h7 := h7'; try simp only [decide_eq_true_eq, decide_eq_false_iff_not, beq_iff_eq, bne_iff_ne, beq_eq_false_iff_ne, ne_eq, Bool.not_eq_true', Bool.not_eq_false', bne_eq_false_iff_eq, Int.not_lt, Int.not_le] at h7)
                · try simp only [go_sem, ruB, h7', hc5.at_]
                  refine gT.of (fun h8' => ?_) (fun h8' => ?_) <;> (have h8 := h8'; try simp only [decide_eq_true_eq, decide_eq_false_iff_not, beq_iff_eq, bne_iff_ne, beq_eq_false_iff_ne, ne_eq, Bool.not_eq_true', Bool.not_eq_false', bne_eq_false_iff_eq, Int.not_lt, Int.not_le] at h8)
                  · try simp only [go_sem, ruB, h8']
                    exact ⟨no (hbad (fun h => by have := h.2 (by omega); omega) (by omega)), hX.trans hx5⟩
                  · try simp only [go_sem, ruB, h8', step1 (show t < 1000000 by omega), hsw (by omega)]
                    refine ⟨64 - (t + 1), by omega, t + 1, by omega, rfl, rfl, fin3 (by omega) (fun _ => by omega), hx4.trans hx5⟩
                · try simp only [go_sem, ruB, h7', step1 (show t < 1000000 by omega), hsw (by omega)]
                  refine ⟨64 - (t + 1), by omega, t + 1, by omega, rfl, rfl, fin3 (by omega) (fun _ => by omega), hx4.trans hx5⟩
            · have : t = 64 := by omega
              subst this
              try simp only [go_sem, ruB, hb4.at_, hq4.len]
              refine gT.of (fun h6' => ?_) (fun h6' => ?_) <;> (have h6 := h6'; try simp only [decide_eq_true_eq, decide_eq_false_iff_not, beq_iff_eq, bne_iff_ne, beq_eq_false_iff_ne, ne_eq, Bool.not_eq_true', Bool.not_eq_false', bne_eq_false_iff_eq, Int.not_lt, Int.not_le] at h6)
              · try simp only [go_sem, ruB, h6', hb4.at_]
                refine gT.of (fun h7' => ?_) (fun h7' => ?_) <;> (have h7 := h7'; try simp only [decide_eq_true_eq, decide_eq_false_iff_not, beq_iff_eq, bne_iff_ne, beq_eq_false_iff_ne, ne_eq, Bool.not_eq_true', Bool.not_eq_false', bne_eq_false_iff_eq, Int.not_lt, Int.not_le] at h7)
                · try simp only [go_sem, ruB, h7', hb4.at_]
                  refine ⟨fin ?_, hX⟩
                  rw [beq_iff_eq]
                  exact ⟨fun h => ⟨hu, by omega, by omega, fun h => by omega, fun _ => ⟨pcs, hts, by omega, by omega, h⟩⟩, fun h => (h.2.2.2.2 hne).2.2.2.2⟩
                · try simp only [go_sem, ruB, h7']
                  exact ⟨no fun h => by have := (h.2.2.2.2 hne).2.2.2.1; omega, hX⟩
              · try simp only [go_sem, ruB, h6']
                exact ⟨no fun h => by have := (h.2.2.2.2 hne).2.2.1; omega, hX⟩
  · try simp only [go_sem, ruB]
    exact ⟨no fun h => hu h.1, hx.trans hx2⟩
end Go.Am


/- PlanW9 over the table of weave (relayset.py). -/
set_option linter.unusedVariables false
set_option linter.unusedSimpArgs false
namespace Go.Am
open Classical
variable {m : Mem}

theorem fin_iff {P : Prop} {b : Bool} (h : b = true ↔ P) : (Value.bool b = Value.bool (decide P)) := by
  congr 1; rw [Bool.eq_iff_iff, decide_eq_true_eq]; exact h
theorem fin_no {P : Prop} (h : ¬ P) : (Value.bool false = Value.bool (decide P)) := by rw [decide_eq_false h]
theorem fin_yes {P : Prop} (h : P) : (Value.bool true = Value.bool (decide P)) := by rw [decide_eq_true h]

def cntL (l : List Pl) (c t : Int) : Nat := (l.map fun x => x.pieces.countP (atB c t)).sum
theorem cntL_succ {l : List Pl} {c t : Int} {i : Nat} (h : i < l.length) : cntL (l.take (i + 1)) c t = cntL (l.take i) c t + l[i].pieces.countP (atB c t) := by
  unfold cntL
  rw [List.take_succ_eq_append_getElem h, List.map_append, List.sum_append]; simp
theorem cntL_le {l : List Pl} {c t : Int} (h : ∀ x ∈ l, x.pieces.length < 1000000) : ∀ i, cntL (l.take i) c t ≤ 1000000 * i := by
  intro i
  induction i with
  | zero => simp [cntL]
  | succ i ih =>
    by_cases hi : i < l.length
    · rw [cntL_succ hi]
      have := h _ (List.getElem_mem hi)
      have h2 : l[i].pieces.countP (atB c t) ≤ l[i].pieces.length := List.countP_le_length
      omega
    · rw [List.take_of_length_le (by omega)] at *
      omega

def apartR (l : List Pl) : Prop := ∀ c, c < 16 → ∀ t, t < 64 → cntL l (c : Nat) (t : Nat) ≤ 1

theorem apart1_loop {p : PlanD} {pv : Value} {b0 c t : Nat} (hp : PlsV m p.places pv) (hb : Bk m b0 [.int .i64 p.frame, u32 p.cores, pv] 3) (hl : p.places.length < 1000000) (hp1 : ∀ x ∈ p.places, x.pieces.length < 1000000) :
    WL R [1, 3, 4, 5, 6] RB.ref16_apart_1 [(1, pt b0), (3, .int .i64 c), (4, .int .i64 t), (5, .int .i64 0), (6, .int .i64 0)] m fun x e m' =>
      x = .exit 4 ∧ e = [(1, pt b0), (3, .int .i64 c), (4, .int .i64 t), (5, .int .i64 (cntL p.places c t : Nat)), (6, .int .i64 p.places.length), (19, .bool false)] ∧ Ext m m' := by
  refine WL.of (fun n e m' => ∃ i : Nat, i ≤ p.places.length ∧ n = p.places.length - i ∧ e = [(1, pt b0), (3, .int .i64 c), (4, .int .i64 t), (5, .int .i64 (cntL (p.places.take i) c t : Nat)), (6, .int .i64 i)] ∧ Ext m m') p.places.length
    ⟨0, by omega, by omega, by simp only [go_sem] <;> rfl, Ext.refl _⟩ ?_
  rintro _ _ m4 ⟨i, hi, rfl, rfl, hx4⟩
  have hp4 := hp.keep hx4
  have hb4 := hb.keep hx4
  have hle := cntL_le (c := c) (t := t) hp1 i
  simp only [RB.ref16_apart_1, pt, go_sem, ruB, hb4.at_, hp4.len]
  refine gT.of (fun h3' => ?_) (fun h3' => ?_) <;> (have h3 := h3'; try simp only [decide_eq_true_eq, decide_eq_false_iff_not, beq_iff_eq, bne_iff_ne, beq_eq_false_iff_ne, ne_eq, Bool.not_eq_true', Bool.not_eq_false', bne_eq_false_iff_eq, Int.not_lt, Int.not_le] at h3)
  · have hil : i < p.places.length := by omega
    obtain ⟨b, o, qv, a1, a2, a3, a4, a5⟩ := hp4.elem hil
    have hf := cntL_succ (c := c) (t := t) hil
    have hpl := hp1 _ (List.getElem_mem hil)
    have hpl2 : p.places[i].pieces.countP (atB c t) ≤ p.places[i].pieces.length := List.countP_le_length
    generalize p.places[i] = x at *
    try simp only [go_sem, ruB, hb4.at_, a1, a2]
    refine gC.of (At_spec (x := x) ⟨qv, rfl, a4⟩ hpl) ?_
    rintro _ m5 ⟨rfl, hx5⟩
    simp only [go_sem]
    try simp only [go_sem, ruB, step1 (show i < 1000000 by omega)]
    refine ⟨p.places.length - (i + 1), by omega, i + 1, by omega, rfl, ?_, hx4.trans hx5⟩
    rw [hf, wrap_i64 (by omega) (by omega)]; rfl
  · have hi : i = p.places.length := by omega
    subst hi
    rw [List.take_of_length_le (Nat.le_refl _)]
    try simp only [go_sem, ruB, h3']
    exact hx4

theorem apart2_loop {p : PlanD} {pv : Value} {b0 c : Nat} (hp : PlsV m p.places pv) (hb : Bk m b0 [.int .i64 p.frame, u32 p.cores, pv] 3) (hl : p.places.length < 1000000) (hp1 : ∀ x ∈ p.places, x.pieces.length < 1000000) (h16 : c < 16) :
    WL R [1, 3, 4] RB.ref16_apart_2 [(1, pt b0), (3, .int .i64 c), (4, .int .i64 0)] m fun x e m' =>
      (x = .ret ∧ e = [(2, .bool false)] ∧ ¬ apartR p.places ∧ Ext m m') ∨ (x = .exit 2 ∧ e = [(1, pt b0), (3, .int .i64 c), (4, .int .i64 64), (12, .bool false)] ∧ (∀ t, t < 64 → cntL p.places (c : Nat) (t : Nat) ≤ 1) ∧ Ext m m') := by
  refine WL.of (fun n e m' => ∃ t : Nat, t ≤ 64 ∧ n = 64 - t ∧ e = [(1, pt b0), (3, .int .i64 c), (4, .int .i64 t)] ∧ (∀ s, s < t → cntL p.places (c : Nat) (s : Nat) ≤ 1) ∧ Ext m m') 64
    ⟨0, by omega, by omega, by simp only [go_sem] <;> rfl, fun d hd => by omega, Ext.refl _⟩ ?_
  rintro _ _ m3 ⟨t, ht, rfl, rfl, hts, hx3⟩
  simp only [RB.ref16_apart_2, pt, go_sem]
  refine gT.of (fun h2' => ?_) (fun h2' => ?_) <;> (have h2 := h2'; try simp only [decide_eq_true_eq, decide_eq_false_iff_not, beq_iff_eq, bne_iff_ne, beq_eq_false_iff_ne, ne_eq, Bool.not_eq_true', Bool.not_eq_false', bne_eq_false_iff_eq, Int.not_lt, Int.not_le] at h2)
  · try simp only [go_sem, ruB]
    refine WL.mono (apart1_loop (b0 := b0) (c := c) (t := t) (hp.keep hx3) (hb.keep hx3) hl hp1) ?_
    rintro _ _ m4 ⟨rfl, rfl, hx4⟩
    simp only [pt]
    try simp only [go_sem, ruB]
    refine gT.of (fun h4' => ?_) (fun h4' => ?_) <;> (have h4 := h4'; try simp only [decide_eq_true_eq, decide_eq_false_iff_not, beq_iff_eq, bne_iff_ne, beq_eq_false_iff_ne, ne_eq, Bool.not_eq_true', Bool.not_eq_false', bne_eq_false_iff_eq, Int.not_lt, Int.not_le] at h4)
    · try simp only [go_sem, ruB, h4']
      exact .inl ⟨fun h => by have := h c h16 t (by omega); omega, hx3.trans hx4⟩
    · try simp only [go_sem, ruB, h4', step1 (show t < 1000000 by omega)]
      refine ⟨64 - (t + 1), by omega, t + 1, by omega, rfl, rfl, fun s hs => ?_, hx3.trans hx4⟩
      by_cases e : s = t
      · subst e; omega
      · exact hts s (by omega)
  · have : t = 64 := by omega
    subst this
    try simp only [go_sem, ruB, h2']
    exact .inr ⟨hts, hx3⟩

theorem refApart_spec {p : PlanD} {v : Value} (hv : PlanV m p v) (hl : p.places.length < 1000000) (hp1 : ∀ x ∈ p.places, x.pieces.length < 1000000) : WC R F.ref16_apart [v] m fun r m' => r = .bool (decide (apartR p.places)) ∧ Ext m m' := by
  refine WC.of R.ref16_apart rfl ?_
  obtain ⟨pv, rfl, hp⟩ := hv
  simp only [RC.ref16_apart, planV, go_sem, hp.one]
  have hx : Ext m (m.new (.cells [.int .i64 p.frame, u32 p.cores, pv] (some 3))) := Ext.new
  have hb : Bk (m.new (.cells [.int .i64 p.frame, u32 p.cores, pv] (some 3))) m.next [.int .i64 p.frame, u32 p.cores, pv] 3 := Bk.new
  generalize m.new (.cells [.int .i64 p.frame, u32 p.cores, pv] (some 3)) = m1 at hx hb ⊢
  refine WL.of (fun n e m' => ∃ c : Nat, c ≤ 16 ∧ n = 16 - c ∧ e = [(1, pt m.next), (3, .int .i64 c)] ∧ (∀ d, d < c → ∀ t, t < 64 → cntL p.places (d : Nat) (t : Nat) ≤ 1) ∧ Ext m1 m') 16
    ⟨0, by omega, by omega, by simp only [go_sem] <;> rfl, fun d hd => by omega, Ext.refl _⟩ ?_
  rintro _ _ m2 ⟨c, hc, rfl, rfl, hcs, hx2⟩
  simp only [RB.ref16_apart_3, pt, go_sem]
  refine gT.of (fun h1' => ?_) (fun h1' => ?_) <;> (have h1 := h1'; try simp only [decide_eq_true_eq, decide_eq_false_iff_not, beq_iff_eq, bne_iff_ne, beq_eq_false_iff_ne, ne_eq, Bool.not_eq_true', Bool.not_eq_false', bne_eq_false_iff_eq, Int.not_lt, Int.not_le] at h1)
  · try simp only [go_sem, ruB]
    refine WL.mono (apart2_loop (b0 := m.next) (c := c) ((hp.keep hx).keep hx2) (hb.keep hx2) hl hp1 (by omega)) ?_
    rintro _ _ m3 (⟨rfl, rfl, hno, hx3⟩ | ⟨rfl, rfl, hts, hx3⟩)
    · try simp only [go_sem, ruB]
      exact ⟨fin_no hno, hx.trans (hx2.trans hx3)⟩
    · simp only [pt]
      try simp only [go_sem, ruB, step1 (show c < 1000000 by omega)]
      refine ⟨16 - (c + 1), by omega, c + 1, by omega, rfl, rfl, fun d hd => ?_, hx2.trans hx3⟩
      by_cases e : d = c
      · subst e; exact hts
      · exact hcs d (by omega)
  · have : c = 16 := by omega
    subst this
    try simp only [go_sem, ruB]
    exact ⟨fin_yes hcs, hx.trans hx2⟩

def plOk (p : PlanD) (i : Nat) : Prop := ∃ h : i < p.places.length, refPlaceP p p.places[i] ∧ ∀ h : 0 < i, (p.places[i - 1]'(by omega)).unit < p.places[i].unit
def RightP (p : PlanD) : Prop :=
  2 ≤ p.frame ∧ p.frame ≤ 64 ∧ p.cores ≠ 0#32 ∧ p.cores.toNat ≤ 65535 ∧ (∀ i, i < p.places.length → plOk p i) ∧ apartR p.places ∧ p.places.countP isSp < (csP p 16).length ∧
  ∀ c ∈ csP p 16, loadR p (c : Nat) ≤ p.frame

theorem RightP.r {p : PlanD} (h : 2 ≤ p.frame) (h2 : p.frame ≤ 64) (hl : p.places.length < 1000000) (hp1 : ∀ x ∈ p.places, x.pieces.length < 1000000) (ha : ∀ i, i < p.places.length → plOk p i) : PlanR p := by
  refine ⟨hl, hp1, fun x hx => ?_, by omega, h2⟩
  obtain ⟨i, hi, rfl⟩ := List.getElem_of_mem hx
  obtain ⟨_, h, -⟩ := ha i hi
  have := h.2.1; have := h.2.2.1
  omega

theorem PlsV.prev {m : Mem} {l : List Pl} {v : Value} (h : PlsV m l v) {i : Nat} (hi : i < l.length) : ∃ b o, aIdxS 4 v (.int .i64 i) = some (.pointer (some ⟨b, o, none⟩)) ∧ ∀ m', Ext m m' → aLoad false 1 m' (.pointer (some ⟨b, o, none⟩)) = some (.int .i64 l[i].unit) := by
  obtain ⟨b, o, qv, a1, a2, a3, a4, a5⟩ := h.elem hi
  refine ⟨b, o, a1, fun m' hm => ?_⟩
  obtain ⟨b', o', qv', c1, c2, c3, c4, c5⟩ := (h.keep hm).elem hi
  rw [a1] at c1; cases c1
  have := c3 0 (by omega)
  simpa [plV] using this

theorem refRight_spec {p : PlanD} {v : Value} (hv : PlanV m p v) (hl : p.places.length < 1000000) (hp1 : ∀ x ∈ p.places, x.pieces.length < 1000000) : WC R F.ref16_Right [v] m fun r m' => r = .bool (decide (RightP p)) ∧ Ext m m' := by
  refine WC.of R.ref16_Right rfl ?_
  obtain ⟨pv, rfl, hp⟩ := hv
  simp only [RC.ref16_Right, planV, go_sem, hp.one]
  have hx : Ext m (m.new (.cells [.int .i64 p.frame, u32 p.cores, pv] (some 3))) := Ext.new
  have hb : Bk (m.new (.cells [.int .i64 p.frame, u32 p.cores, pv] (some 3))) m.next [.int .i64 p.frame, u32 p.cores, pv] 3 := Bk.new
  generalize m.new (.cells [.int .i64 p.frame, u32 p.cores, pv] (some 3)) = m1 at hx hb ⊢
  try simp only [go_sem, ruB, hb.at_]
  refine gT.of (fun h1' => ?_) (fun h1' => ?_) <;> (have h1 := h1'; try simp only [decide_eq_true_eq, decide_eq_false_iff_not, beq_iff_eq, bne_iff_ne, beq_eq_false_iff_ne, ne_eq, Bool.not_eq_true', Bool.not_eq_false', bne_eq_false_iff_eq, Int.not_lt, Int.not_le] at h1)
  · try simp only [go_sem, ruB, h1']
    exact ⟨fin_no fun h => by have := h.1; omega, hx⟩
  · try simp only [go_sem, ruB, h1', hb.at_]
    refine gT.of (fun h2' => ?_) (fun h2' => ?_) <;> (have h2 := h2'; try simp only [decide_eq_true_eq, decide_eq_false_iff_not, beq_iff_eq, bne_iff_ne, beq_eq_false_iff_ne, ne_eq, Bool.not_eq_true', Bool.not_eq_false', bne_eq_false_iff_eq, Int.not_lt, Int.not_le] at h2)
    · try simp only [go_sem, ruB, h2']
      exact ⟨fin_no fun h => by have := h.2.1; omega, hx⟩
    · try simp only [go_sem, ruB, h2', hb.at_]
      refine gT.of (fun h3' => ?_) (fun h3' => ?_) <;> (have h3 := h3'; try simp only [decide_eq_true_eq, decide_eq_false_iff_not, beq_iff_eq, bne_iff_ne, beq_eq_false_iff_ne, ne_eq, Bool.not_eq_true', Bool.not_eq_false', bne_eq_false_iff_eq, Int.not_lt, Int.not_le] at h3)
      · try simp only [go_sem, ruB, h3']
        exact ⟨fin_no fun h => h.2.2.1 h3, hx⟩
      · try simp only [go_sem, ruB, h3', hb.at_]
        refine gT.of (fun h4' => ?_) (fun h4' => ?_) <;> (have h4 := h4'; try simp only [decide_eq_true_eq, decide_eq_false_iff_not, beq_iff_eq, bne_iff_ne, beq_eq_false_iff_ne, ne_eq, Bool.not_eq_true', Bool.not_eq_false', bne_eq_false_iff_eq, Int.not_lt, Int.not_le] at h4)
        · try simp only [go_sem, ruB, h4']
          exact ⟨fin_no fun h => by have := h.2.2.2.1; simp at h4; omega, hx⟩
        · have hc : p.cores.toNat ≤ 65535 := by simp at h4; omega
          try simp only [go_sem, ruB, h4']
          refine WL.of (fun n e m' => ∃ i : Nat, i ≤ p.places.length ∧ n = p.places.length - i ∧ e = [(1, pt m.next), (3, .int .i64 i)] ∧ (∀ j, j < i → plOk p j) ∧ Ext m1 m') p.places.length
            ⟨0, by omega, by omega, by simp only [go_sem] <;> rfl, fun d hd => by omega, Ext.refl _⟩ ?_
          rintro _ _ m2 ⟨i, hi, rfl, rfl, hall, hx2⟩
          have hp2 := (hp.keep hx).keep hx2
          have hb2 := hb.keep hx2
          simp only [RB.ref16_Right_2, pt, go_sem, ruB, hb2.at_, hp2.len]
          refine gT.of (fun h5' => ?_) (fun h5' => ?_) <;> (have h5 := h5'; try simp only [decide_eq_true_eq, decide_eq_false_iff_not, beq_iff_eq, bne_iff_ne, beq_eq_false_iff_ne, ne_eq, Bool.not_eq_true', Bool.not_eq_false', bne_eq_false_iff_eq, Int.not_lt, Int.not_le] at h5)
          · have hil : i < p.places.length := by omega
            obtain ⟨b, o, qv, a1, a2, a3, a4, a5⟩ := hp2.elem hil
            obtain ⟨b1, o1, d1, d2⟩ := hp2.prev hil
            have hprev : ∀ h : 0 < i, ∃ b' o', aIdxS 4 pv (.int .i64 (i - 1 : Nat)) = some (.pointer (some ⟨b', o', none⟩)) ∧ ∀ m', Ext m2 m' → aLoad false 1 m' (.pointer (some ⟨b', o', none⟩)) = some (.int .i64 (p.places[i - 1]'(by omega)).unit) := fun h => hp2.prev (by omega)
            have bad : ¬ (refPlaceP p p.places[i] ∧ ∀ h : 0 < i, (p.places[i - 1]'(by omega)).unit < p.places[i].unit) → ¬ RightP p := fun h h2 => h (let ⟨_, g⟩ := h2.2.2.2.2.1 i hil; g)
            have good : (refPlaceP p p.places[i] ∧ ∀ h : 0 < i, (p.places[i - 1]'(by omega)).unit < p.places[i].unit) → ∀ j, j < i + 1 → plOk p j := by
              intro h j hj
              by_cases e : j = i
              · subst e; exact ⟨hil, h⟩
              · exact hall j (by omega)
            have hpl := hp1 _ (List.getElem_mem hil)
            rw [a1] at d1; cases d1
            generalize p.places[i] = x at *
            try simp only [go_sem, ruB, hb2.at_, a1, a2]
            refine gC.of (refPlace_spec (p := p) (x := x) ⟨pv, rfl, hp2⟩ ⟨qv, rfl, a4⟩ hpl) ?_
            rintro _ m3 ⟨rfl, hx3⟩
            simp only [go_sem]
            have hb3 := hb2.keep hx3
            try simp only [go_sem, ruB, hb3.at_, hb2.at_]
            refine gT.of (fun h6' => ?_) (fun h6' => ?_) <;> (have h6 := h6'; try simp only [decide_eq_true_eq, decide_eq_false_iff_not, beq_iff_eq, bne_iff_ne, beq_eq_false_iff_ne, ne_eq, Bool.not_eq_true', Bool.not_eq_false', bne_eq_false_iff_eq, Int.not_lt, Int.not_le] at h6)
            · try simp only [go_sem, ruB, h6']
              exact ⟨fin_no (bad fun h => h6 h.1), hx.trans (hx2.trans hx3)⟩
            · have h6 : refPlaceP p x := by simpa using h6'
              try simp only [go_sem, ruB, h6', hb3.at_]
              refine gT.of (fun h7' => ?_) (fun h7' => ?_) <;> (have h7 := h7'; try simp only [decide_eq_true_eq, decide_eq_false_iff_not, beq_iff_eq, bne_iff_ne, beq_eq_false_iff_ne, ne_eq, Bool.not_eq_true', Bool.not_eq_false', bne_eq_false_iff_eq, Int.not_lt, Int.not_le] at h7)
              · obtain ⟨b', o', c1, c2⟩ := hprev (by omega)
                try simp only [go_sem, ruB, h7', hb3.at_, sub1 (show 0 < i by omega) (show i < 1000000 by omega), c1, c2 _ hx3, a1, d2 _ hx3]
                refine gT.of (fun h8' => ?_) (fun h8' => ?_) <;> (have h8 := h8'; try simp only [decide_eq_true_eq, decide_eq_false_iff_not, beq_iff_eq, bne_iff_ne, beq_eq_false_iff_ne, ne_eq, Bool.not_eq_true', Bool.not_eq_false', bne_eq_false_iff_eq, Int.not_lt, Int.not_le] at h8)
                · try simp only [go_sem, ruB, h8']
                  exact ⟨fin_no (bad fun h => by have := h.2 (by omega); omega), hx.trans (hx2.trans hx3)⟩
                · try simp only [go_sem, ruB, h8', step1 (show i < 1000000 by omega)]
                  exact ⟨p.places.length - (i + 1), by omega, i + 1, by omega, rfl, rfl, good ⟨h6, fun h => by omega⟩, hx2.trans hx3⟩
              · try simp only [go_sem, ruB, h7', step1 (show i < 1000000 by omega)]
                exact ⟨p.places.length - (i + 1), by omega, i + 1, by omega, rfl, rfl, good ⟨h6, fun h => by omega⟩, hx2.trans hx3⟩
          · have hi : i = p.places.length := by omega
            subst hi
            have hr := RightP.r (by omega) (by omega) hl hp1 hall
            try simp only [go_sem, ruB, hb2.at_]
            refine gC.of (refApart_spec (p := p) ⟨pv, rfl, hp2⟩ hl hp1) ?_
            rintro _ m3 ⟨rfl, hx3⟩
            simp only [go_sem]
            have hb3 := hb2.keep hx3
            have hp3 := hp2.keep hx3
            try simp only [go_sem, ruB, hb3.at_, hb2.at_]
            refine gT.of (fun h6' => ?_) (fun h6' => ?_) <;> (have h6 := h6'; try simp only [decide_eq_true_eq, decide_eq_false_iff_not, beq_iff_eq, bne_iff_ne, beq_eq_false_iff_ne, ne_eq, Bool.not_eq_true', Bool.not_eq_false', bne_eq_false_iff_eq, Int.not_lt, Int.not_le] at h6)
            · try simp only [go_sem, ruB, h6']
              exact ⟨fin_no fun h => h6 h.2.2.2.2.2.1, hx.trans (hx2.trans hx3)⟩
            · have h6 : apartR p.places := by simpa using h6'
              try simp only [go_sem, ruB, h6', hb3.at_]
              refine gC.of (refSplits_spec (p := p) ⟨pv, rfl, hp3⟩ hl) ?_
              rintro _ m4 ⟨rfl, hx4⟩
              simp only [go_sem]
              have hb4 := hb3.keep hx4
              have hp4 := hp3.keep hx4
              try simp only [go_sem, ruB, hb3.at_, hb4.at_]
              refine gC.of (refCores_spec (p := p) ⟨pv, rfl, hp4⟩) ?_
              rintro w m5 ⟨ho, hx5⟩
              have hb5 := hb4.keep hx5
              have hp5 := hp4.keep hx5
              try simp only [go_sem, ruB, hb4.at_, hb5.at_, ho.sl.len]
              refine gT.of (fun h7' => ?_) (fun h7' => ?_) <;> (have h7 := h7'; try simp only [decide_eq_true_eq, decide_eq_false_iff_not, beq_iff_eq, bne_iff_ne, beq_eq_false_iff_ne, ne_eq, Bool.not_eq_true', Bool.not_eq_false', bne_eq_false_iff_eq, Int.not_lt, Int.not_le] at h7)
              · try simp only [go_sem, ruB, h7']
                exact ⟨fin_no fun h => by have := h.2.2.2.2.2.2.1; omega, hx.trans (hx2.trans (hx3.trans (hx4.trans hx5)))⟩
              · try simp only [go_sem, ruB, h7', hb5.at_]
                refine gC.of (refCores_spec (p := p) ⟨pv, rfl, hp5⟩) ?_
                rintro w2 m6 ⟨ho6, hx6⟩
                have hsl := ho6.sl
                have hlt := ho6.lt
                have hlen := csP_len (p := p) (n := 16)
                try simp only [go_sem, ruB]
                refine WL.of (fun n e m' => ∃ k : Nat, k ≤ (csP p 16).length ∧ n = (csP p 16).length - k ∧ e = [(1, pt m.next), (4, w2), (5, .int .i64 k)] ∧ (∀ c ∈ (csP p 16).take k, loadR p (c : Nat) ≤ p.frame) ∧ Ext m6 m') (csP p 16).length
                  ⟨0, by omega, by omega, by simp only [go_sem] <;> rfl, by simp, Ext.refl _⟩ ?_
                rintro _ _ m7 ⟨k, hk, rfl, rfl, hld, hx7⟩
                have hb7 := (hb5.keep hx6).keep hx7
                have hp7 := (hp5.keep hx6).keep hx7
                have hsl7 := hsl.keep hlt hx7
                simp only [RB.ref16_Right_1, pt, go_sem, hsl7.len]
                refine gT.of (fun h8' => ?_) (fun h8' => ?_) <;> (have h8 := h8'; try simp only [decide_eq_true_eq, decide_eq_false_iff_not, beq_iff_eq, bne_iff_ne, beq_eq_false_iff_ne, ne_eq, Bool.not_eq_true', Bool.not_eq_false', bne_eq_false_iff_eq, Int.not_lt, Int.not_le] at h8)
                · have hkl : k < (csP p 16).length := by omega
                  obtain ⟨q, e1, e2⟩ := hsl7.get (k := .i64) (i := k) hkl
                  rw [ints_get hkl] at e2
                  have hsn : (csP p 16).take (k + 1) = (csP p 16).take k ++ [(csP p 16)[k]] := List.take_succ_eq_append_getElem hkl
                  have hmm : (csP p 16)[k] ∈ csP p 16 := List.getElem_mem hkl
                  generalize (csP p 16)[k] = c at *
                  try simp only [go_sem, ruB, hb7.at_, e1, e2]
                  refine gC.of (refLoad_spec (p := p) (c := c) ⟨pv, rfl, hp7⟩ hl hp1 hr.sh) ?_
                  rintro _ m8 ⟨rfl, hx8⟩
                  simp only [go_sem]
                  have hb8 := hb7.keep hx8
                  try simp only [go_sem, ruB, hb7.at_, hb8.at_]
                  refine gT.of (fun h9' => ?_) (fun h9' => ?_) <;> (have h9 := h9'; try simp only [decide_eq_true_eq, decide_eq_false_iff_not, beq_iff_eq, bne_iff_ne, beq_eq_false_iff_ne, ne_eq, Bool.not_eq_true', Bool.not_eq_false', bne_eq_false_iff_eq, Int.not_lt, Int.not_le] at h9)
                  · try simp only [go_sem, ruB, h9']
                    exact ⟨fin_no fun h => by have := h.2.2.2.2.2.2.2 c hmm; omega, hx.trans (hx2.trans (hx3.trans (hx4.trans (hx5.trans (hx6.trans (hx7.trans hx8))))))⟩
                  · try simp only [go_sem, ruB, h9', step1 (show k < 1000000 by omega)]
                    refine ⟨(csP p 16).length - (k + 1), by omega, k + 1, by omega, rfl, rfl, ?_, hx7.trans hx8⟩
                    intro c' hc'
                    rw [hsn] at hc'
                    rcases List.mem_append.1 hc' with h | h
                    · exact hld c' h
                    · rw [List.mem_singleton.1 h]; omega
                · try simp only [go_sem, ruB]
                  rw [List.take_of_length_le (by omega)] at hld
                  exact ⟨fin_yes ⟨by omega, by omega, h3, hc, hall, h6, by omega, hld⟩, hx.trans (hx2.trans (hx3.trans (hx4.trans (hx5.trans (hx6.trans hx7)))))⟩
end Go.Am


/- PlanM over the table of weave (relayset.py). -/
set_option linter.unusedVariables false
set_option linter.unusedSimpArgs false
namespace Go.Am
open Classical

/-! ### sums -/
def S (f : Nat → Int) : Nat → Int
  | 0 => 0
  | n + 1 => S f n + f n
theorem S_congr {f g : Nat → Int} {n : Nat} (h : ∀ i, i < n → f i = g i) : S f n = S g n := by
  induction n with
  | zero => rfl
  | succ n ih => simp only [S]; rw [ih fun i hi => h i (by omega), h n (by omega)]
theorem S_add {f g : Nat → Int} {n : Nat} : S (fun i => f i + g i) n = S f n + S g n := by
  induction n with
  | zero => rfl
  | succ n ih => simp only [S]; rw [ih]; omega
theorem S_sub {f g : Nat → Int} {n : Nat} : S (fun i => f i - g i) n = S f n - S g n := by
  induction n with
  | zero => rfl
  | succ n ih => simp only [S]; rw [ih]; omega
theorem S_zero {n : Nat} : S (fun _ => 0) n = 0 := by
  induction n with
  | zero => rfl
  | succ n ih => simp only [S]; rw [ih]; rfl
theorem S_swap {f : Nat → Nat → Int} {n k : Nat} : S (fun i => S (fun j => f i j) k) n = S (fun j => S (fun i => f i j) n) k := by
  induction n with
  | zero => simp only [S]; rw [S_zero]
  | succ n ih => simp only [S]; rw [ih, ← S_add]
/-- One of them alone. -/
theorem S_one {n d : Nat} {a : Int} (h : d < n) : S (fun i => if i = d then a else 0) n = a := by
  induction n with
  | zero => omega
  | succ n ih =>
    simp only [S]
    by_cases e : d = n
    · subst e
      rw [if_pos rfl, S_congr (g := fun _ => 0) (fun i hi => if_neg (by omega)), S_zero]; omega
    · rw [ih (by omega), if_neg (by omega)]; omega

theorem sumI_range {f : Nat → Int} {n : Nat} : sumI ((List.range n).map fun c => f c) = S f n := by
  induction n with
  | zero => rfl
  | succ n ih => rw [List.range_succ, List.map_append, S, ← ih]; simp [sumI]

theorem sumI_cores {p : PlanD} {f : Nat → Int} {n : Nat} : sumI ((csP p n).map fun c => f c) = S (fun c => if hasC p c = true then f c else 0) n := by
  induction n with
  | zero => rfl
  | succ n ih =>
    rw [csP_succ, List.map_append, S, ← ih]
    split <;> simp [sumI]

theorem cores_S {p : PlanD} {n : Nat} : ((csP p n).length : Int) = S (fun c => if hasC p c = true then 1 else 0) n := by
  induction n with
  | zero => rfl
  | succ n ih =>
    rw [csP_succ, List.length_append, S, ← ih]
    split <;> simp

/-! ### bits -/
theorem pop_tks (x : BitVec 64) : pop x = (tks x 64).length := by
  have : ∀ (n : Nat) (x : BitVec 64), n ≤ 64 → popN n x.toNat = (tks x n).length := by
    intro n
    induction n with
    | zero => intro x _; rfl
    | succ n ih =>
      intro x hn
      rw [popN_add n 1, ih x (by omega), tks_succ, List.length_append]
      have : x.getLsbD n = x.toNat.testBit n := rfl
      rw [this, Nat.testBit_eq_decide_div_mod_eq]
      simp only [popN, Nat.add_zero, decide_eq_true_eq]
      split <;> simp <;> omega
  exact this 64 x (Nat.le_refl _)

theorem tks_S {x : BitVec 64} {n : Nat} : ((tks x n).length : Int) = S (fun t => if x.getLsbD t = true then 1 else 0) n := by
  induction n with
  | zero => rfl
  | succ n ih =>
    rw [tks_succ, List.length_append, S, ← ih]
    split <;> simp

/-! ### windows -/
theorem winPc_bit {c : Int} {t : Nat} : ∀ {ps : List Pc} {a : BitVec 64}, (winPc c a ps).getLsbD t = (a.getLsbD t || ps.any fun y => decide (y.1 = c) && y.2.getLsbD t)
  | [], a => by simp [winPc]
  | y :: ps, a => by
    have : winPc c a (y :: ps) = winPc c (if y.1 = c then a ||| y.2 else a) ps := rfl
    rw [this, winPc_bit, List.any_cons]
    split
    · rename_i h; rw [BitVec.getLsbD_or]; simp [h, Bool.or_assoc]
    · rename_i h; simp [h]
theorem winW_bit' {c : Int} {t : Nat} : ∀ {l : List Pl} {a : BitVec 64}, (l.foldl (fun a x => winPc c a x.pieces) a).getLsbD t = (a.getLsbD t || l.any fun x => x.pieces.any fun y => decide (y.1 = c) && y.2.getLsbD t)
  | [], a => by simp
  | x :: l, a => by rw [List.foldl_cons, winW_bit', winPc_bit, List.any_cons, Bool.or_assoc]
theorem winW_bit {c : Int} {t : Nat} {l : List Pl} : (winW l c).getLsbD t = l.any fun x => x.pieces.any fun y => decide (y.1 = c) && y.2.getLsbD t := by
  unfold winW; rw [winW_bit']; simp

theorem atB_eq {c t : Nat} (ht : t < 64) (y : Pc) : atB c t y = (decide (y.1 = c) && y.2.getLsbD t) := by
  have : ¬ ((c : Int) < 0) := by omega
  simp only [atB, this, decide_false, Bool.false_or]
  rw [inB_of (by omega) (by omega), Int.toNat_natCast]
theorem atB_all {t : Nat} (ht : t < 64) (y : Pc) : atB (-1) t y = y.2.getLsbD t := by
  simp only [atB, show ((-1 : Int) < 0) by omega, decide_true, Bool.true_or, Bool.true_and]
  rw [inB_of (by omega) (by omega), Int.toNat_natCast]

theorem cntL_cons {x : Pl} {l : List Pl} {c t : Int} : cntL (x :: l) c t = x.pieces.countP (atB c t) + cntL l c t := by simp [cntL]

theorem cntL_pos {l : List Pl} {c t : Nat} (ht : t < 64) : (0 < cntL l c t) ↔ (winW l c).getLsbD t = true := by
  rw [winW_bit]
  induction l with
  | nil => simp [cntL]
  | cons x l ih =>
    rw [cntL_cons, List.any_cons, Bool.or_eq_true, ← ih]
    have : 0 < x.pieces.countP (atB c t) ↔ (x.pieces.any fun y => decide (y.1 = (c : Int)) && y.2.getLsbD t) = true := by
      rw [List.countP_pos_iff, List.any_eq_true]
      simp only [atB_eq ht]
    rw [← this]; omega

theorem rwT_bit {c : Int} {t i : Nat} (hi : i < 64) : ∀ {l : List Pl} {w : BitVec 64}, (rwT l c t w).getLsbD i = (w.getLsbD i || (decide (i = t) && l.any fun x => decide (0 < x.pieces.countP (atB c t))))
  | [], w => by simp [rwT]
  | x :: l, w => by
    have : rwT (x :: l) c t w = rwT l c t (if 0 < x.pieces.countP (atB c t) then withB w t else w) := rfl
    rw [this, rwT_bit hi, List.any_cons]
    split
    · rename_i h
      rw [withB_bit hi]
      have e : decide ((i : Int) = (t : Int)) = decide (i = t) := decide_eq_decide.2 (by omega)
      rw [e]
      simp [h]
      cases w.getLsbD i <;> simp <;> (intro h; intros; exact h)
    · rename_i h; simp [h]
theorem any_cnt {l : List Pl} {c t : Int} : (l.any fun x => decide (0 < x.pieces.countP (atB c t))) = decide (0 < cntL l c t) := by
  induction l with
  | nil => simp [cntL]
  | cons x l ih =>
    rw [List.any_cons, ih, cntL_cons, ← Bool.decide_or]
    exact decide_eq_decide.2 (by omega)
theorem rwN_bit {l : List Pl} {c : Int} {i : Nat} (hi : i < 64) : ∀ {n : Nat}, (rwN l c n).getLsbD i = (decide (i < n) && decide (0 < cntL l c i))
  | 0 => by simp [rwN]
  | n + 1 => by
    simp only [rwN]
    rw [rwT_bit hi, rwN_bit hi, any_cnt]
    by_cases e : i = n
    · subst e; simp
    · have : decide (i < n + 1) = decide (i < n) := decide_eq_decide.2 (by omega)
      rw [this]; simp [e]

/-- Both say the same windows. -/
theorem windows_same {l : List Pl} {c : Nat} : rwN l c 64 = winW l c := by
  refine word_ext fun i hi => ?_
  rw [rwN_bit hi, Bool.eq_iff_iff]
  simp only [hi, decide_true, Bool.true_and, decide_eq_true_eq]
  exact cntL_pos hi

/-! ### what is counted on all cores -/
def plFine (x : Pl) : Prop := (isSp x = true → (∀ y ∈ x.pieces, 0 ≤ y.1 ∧ y.1 < 16) ∧ (sumA x 64 : Int) = x.share) ∧ (isSp x = false → 0 ≤ x.core ∧ x.core < 16)

theorem sumA_S {x : Pl} {n : Nat} : (sumA x n : Int) = S (fun t => (cntA x t : Int)) n := by
  induction n with
  | zero => rfl
  | succ n ih => simp only [sumA, S]; rw [← ih]; omega

theorem pieces_cores {ps : List Pc} {t : Nat} (ht : t < 64) (h : ∀ y ∈ ps, 0 ≤ y.1 ∧ y.1 < 16) : S (fun c => ((ps.countP (atB (c : Nat) t) : Nat) : Int)) 16 = (ps.countP (atB (-1) t) : Nat) := by
  induction ps with
  | nil => simp only [List.countP_nil]; rw [show ((0 : Nat) : Int) = 0 from rfl, S_zero]
  | cons y ps ih =>
    have hy := h y (by simp)
    have e : ∀ c : Nat, (((y :: ps).countP (atB (c : Nat) t) : Nat) : Int) = (ps.countP (atB (c : Nat) t) : Nat) + (if c = y.1.toNat then (if y.2.getLsbD t = true then 1 else 0) else 0 : Int) := by
      intro c
      rw [List.countP_cons, atB_eq ht]
      by_cases h1 : y.1 = (c : Int)
      · have : c = y.1.toNat := by omega
        rw [if_pos this]; simp [h1]; split <;> rfl
      · have : ¬ c = y.1.toNat := by omega
        rw [if_neg this]; simp [h1]
    rw [S_congr (fun c _ => e c), S_add, ih fun z hz => h z (by simp [hz]), S_one (by omega), List.countP_cons, atB_all ht]
    split <;> simp

theorem all_cores {l : List Pl} (h : ∀ x ∈ l, plFine x) : S (fun c => S (fun t => (cntL l (c : Nat) (t : Nat) : Int)) 64 + sumW (whL l (c : Nat))) 16 = sumW (wtsL l) := by
  induction l with
  | nil =>
    have : ∀ c, c < 16 → S (fun t => (cntL [] (c : Nat) (t : Nat) : Int)) 64 + sumW (whL [] (c : Nat)) = (fun _ => (0 : Int)) c := by
      intro c _
      have : S (fun t => (cntL [] (c : Nat) (t : Nat) : Int)) 64 = 0 := by
        rw [S_congr (g := fun _ => 0) (fun t _ => by simp [cntL]), S_zero]
      rw [this]; simp [whL, sumW]
    rw [S_congr this, S_zero]; rfl
  | cons x l ih =>
    have hx := h x (by simp)
    have ih := ih fun y hy => h y (by simp [hy])
    have e1 : ∀ c, c < 16 → S (fun t => (cntL (x :: l) (c : Nat) (t : Nat) : Int)) 64 + sumW (whL (x :: l) (c : Nat)) =
        (S (fun t => ((x.pieces.countP (atB (c : Nat) (t : Nat)) : Nat) : Int)) 64 + (if isWh c x = true then x.share else 0)) + (S (fun t => (cntL l (c : Nat) (t : Nat) : Int)) 64 + sumW (whL l (c : Nat))) := by
      intro c _
      rw [S_congr (g := fun t => ((x.pieces.countP (atB (c : Nat) (t : Nat)) : Nat) : Int) + (cntL l (c : Nat) (t : Nat) : Int)) (fun t _ => by rw [cntL_cons]; omega), S_add]
      have : sumW (whL (x :: l) (c : Nat)) = (if isWh c x = true then x.share else 0) + sumW (whL l (c : Nat)) := by
        unfold whL sumW
        rw [List.filter_cons]
        split <;> simp [wtOf]
      rw [this]; omega
    rw [S_congr e1, S_add, ih, S_add]
    have e2 : sumW (wtsL (x :: l)) = x.share + sumW (wtsL l) := by simp [wtsL, sumW, wtOf]
    rw [e2, S_swap]
    cases hsp : isSp x
    · have hc := hx.2 hsp
      have hnil : x.pieces = [] := by
        simp only [isSp, decide_eq_false_iff_not] at hsp
        exact List.eq_nil_of_length_eq_zero (by omega)
      rw [hnil]
      have z : S (fun t => S (fun c => (([] : List Pc).countP (atB (c : Nat) (t : Nat)) : Nat) : Nat → Int) 16) 64 = 0 := by
        rw [S_congr (g := fun _ => 0) (fun t _ => by simp only [List.countP_nil]; rw [show ((0 : Nat) : Int) = 0 from rfl, S_zero]), S_zero]
      rw [z]
      have w : S (fun c => if isWh c x = true then x.share else 0) 16 = x.share := by
        rw [S_congr (g := fun c => if c = x.core.toNat then x.share else 0) (fun c hc2 => by
          have : isWh c x = decide (c = x.core.toNat) := by
            simp only [isWh, hsp, Bool.not_false, Bool.true_and]
            rw [Bool.eq_iff_iff, beq_iff_eq, decide_eq_true_eq]; omega
          rw [this]; simp), S_one (by omega)]
      rw [w]; omega
    · obtain ⟨h1, h2⟩ := hx.1 hsp
      rw [S_congr (fun t ht => pieces_cores ht h1)]
      have w : S (fun c => if isWh c x = true then x.share else 0) 16 = 0 := by
        rw [S_congr (g := fun _ => 0) (fun c _ => by simp [isWh, hsp]), S_zero]
      rw [w]
      have : S (fun t => ((x.pieces.countP (atB (-1) (t : Nat)) : Nat) : Int)) 64 = x.share := by rw [← h2, sumA_S]; rfl
      rw [this]; omega
end Go.Am
