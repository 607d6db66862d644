/- Parts of the proofs of the statements of this seat: AmTabShed. No conditions. -/
import Derived.Test.YthhadbmbpefagaaShedChoosesPart3
set_option linter.unusedVariables false
set_option linter.unusedSimpArgs false

/- The functions of the layer shed in the form of the abstract machine. Printed by amgen.py. -/
set_option linter.unusedVariables false
namespace Go.Am

@[irreducible] def F.law41_ShedChooses : Nat := 3
@[irreducible] def F.law41_ShedLeast : Nat := 4
@[irreducible] def F.law41_ShedCores : Nat := 5
@[irreducible] def F.law41_awake : Nat := 6
@[irreducible] def F.shed_Choose : Nat := 7
@[irreducible] def F.shed_Cost : Nat := 8
@[irreducible] def F.ref41_Why : Nat := 9
@[irreducible] def F.shed_Check : Nat := 10
@[irreducible] def F.ref41_Sum : Nat := 11
@[irreducible] def F.ref41_Choose : Nat := 12
@[irreducible] def F.ref03_Same : Nat := 13
@[irreducible] def F.ref41_Units : Nat := 14
@[irreducible] def F.law41_chosen : Nat := 15
@[irreducible] def F.shed_Core : Nat := 16
@[irreducible] def F.shed_choose : Nat := 17
@[irreducible] def F.ref08_Check : Nat := 18
@[irreducible] def F.order_Check : Nat := 19
@[irreducible] def F.ref41_best : Nat := 20
@[irreducible] def F.ref41_has : Nat := 21
@[irreducible] def F.order_Total : Nat := 22
@[irreducible] def F.slices_Clone_api_Want_api_Want : Nat := 23
@[irreducible] def F.slices_SortFunc_api_Want_api_Want : Nat := 24
@[irreducible] def F.shed_choose_1 : Nat := 25
@[irreducible] def F.cmp_Compare_int : Nat := 26
@[irreducible] def F.shed_sums : Nat := 27
@[irreducible] def F.ref08_Is : Nat := 28
@[irreducible] def F.order_Kind : Nat := 29
@[irreducible] def F.ref41_Better : Nat := 30
@[irreducible] def F.fixq_Add : Nat := 31
@[irreducible] def F.slices_pdqsortCmpFunc_api_Want : Nat := 32
@[irreducible] def F.math_bits_Len : Nat := 33
@[irreducible] def F.cmp_isNaN_int : Nat := 34
@[irreducible] def F.shed_choice_better : Nat := 35
@[irreducible] def F.slices_insertionSortCmpFunc_api_Want : Nat := 36
@[irreducible] def F.slices_heapSortCmpFunc_api_Want : Nat := 37
@[irreducible] def F.slices_breakPatternsCmpFunc_api_Want : Nat := 38
@[irreducible] def F.slices_choosePivotCmpFunc_api_Want : Nat := 39
@[irreducible] def F.slices_reverseRangeCmpFunc_api_Want : Nat := 40
@[irreducible] def F.slices_partialInsertionSortCmpFunc_api_Want : Nat := 41
@[irreducible] def F.slices_partitionEqualCmpFunc_api_Want : Nat := 42
@[irreducible] def F.slices_partitionCmpFunc_api_Want : Nat := 43
@[irreducible] def F.math_bits_Len32 : Nat := 44
@[irreducible] def F.math_bits_Len64 : Nat := 45
@[irreducible] def F.cmp_Or_int : Nat := 46
@[irreducible] def F.cmp_Compare_uint64 : Nat := 47
@[irreducible] def F.slices_siftDownCmpFunc_api_Want : Nat := 48
@[irreducible] def F.slices_nextPowerOfTwo : Nat := 49
@[irreducible] def F.slices_xorshift_Next : Nat := 50
@[irreducible] def F.slices_medianAdjacentCmpFunc_api_Want : Nat := 51
@[irreducible] def F.slices_medianCmpFunc_api_Want : Nat := 52
@[irreducible] def F.cmp_isNaN_uint64 : Nat := 53
@[irreducible] def F.slices_order2CmpFunc_api_Want : Nat := 54

def RC.law41_ShedChooses : RFn := ⟨3, [.slot 6],
  (.seq (.region [⟨some 6, none, .mov (.c (.bool false))⟩]
    [0, 1, 2])
  (.seq (.seq (.region [⟨some 14, none, .mov (.t 2)⟩,
    ⟨some 15, none, .len (.t 14)⟩,
    ⟨some 16, none, .bin .gtr (.t 15) (.c (.int .i64 80))⟩]
    [0, 1, 2, 16])
  (.cond (.t 16)
    (.seq (.region [⟨some 17, none, .call F.law41_awake []⟩,
      ⟨some 6, none, .mov (.t 17)⟩]
      [6])
    .ret)
    .skip))
  (.seq (.region [⟨some 19, none, .mov (.t 0)⟩,
    ⟨some 20, none, .mov (.t 1)⟩,
    ⟨some 21, none, .mov (.t 2)⟩,
    ⟨some 22, none, .call F.shed_Choose [.t 19, .t 20, .t 21]⟩,
    ⟨some 18, none, .mov (.t 22)⟩,
    ⟨some 23, none, .ext 0 (.t 18)⟩,
    ⟨some 24, none, .ext 1 (.t 18)⟩,
    ⟨some 7, none, .mov (.t 23)⟩,
    ⟨some 8, none, .mov (.t 24)⟩]
    [0, 1, 2, 7, 8])
  (.seq (.region [⟨some 26, none, .mov (.t 0)⟩,
    ⟨some 27, none, .mov (.t 1)⟩,
    ⟨some 28, none, .mov (.t 2)⟩,
    ⟨some 29, none, .call F.shed_Cost [.t 26, .t 27, .t 28]⟩,
    ⟨some 25, none, .mov (.t 29)⟩,
    ⟨some 30, none, .ext 0 (.t 25)⟩,
    ⟨some 31, none, .ext 1 (.t 25)⟩,
    ⟨some 9, none, .mov (.t 30)⟩,
    ⟨some 10, none, .mov (.t 31)⟩]
    [0, 1, 2, 7, 8, 9, 10])
  (.seq (.region [⟨some 32, none, .mov (.t 0)⟩,
    ⟨some 33, none, .mov (.t 2)⟩,
    ⟨some 34, none, .call F.ref41_Why [.t 32, .t 33]⟩,
    ⟨some 11, none, .mov (.t 34)⟩]
    [0, 1, 2, 7, 8, 9, 10, 11])
  (.seq (.seq (.region [⟨some 35, none, .mov (.t 0)⟩,
    ⟨some 36, none, .mov (.t 2)⟩,
    ⟨some 37, none, .call F.shed_Check [.t 35, .t 36]⟩,
    ⟨some 38, none, .mov (.t 11)⟩,
    ⟨some 39, none, .bin .neq (.t 37) (.t 38)⟩,
    ⟨some 40, none, .mov (.t 39)⟩,
    ⟨some 41, some (40, false), .mov (.t 8)⟩,
    ⟨some 42, some (40, false), .mov (.t 10)⟩,
    ⟨some 43, some (40, false), .bin .neq (.t 41) (.t 42)⟩,
    ⟨some 44, none, .pick (.t 40) (.c (.bool true)) (.t 43)⟩]
    [1, 2, 7, 8, 9, 11, 44])
  (.cond (.t 44)
    (.seq (.region [⟨some 6, none, .mov (.c (.bool false))⟩]
      [6])
    .ret)
    .skip))
  (.seq (.seq (.region [⟨some 45, none, .mov (.t 11)⟩,
    ⟨some 46, none, .bin .eql (.t 45) (.c (.int .i64 0))⟩,
    ⟨some 47, none, .mov (.t 46)⟩,
    ⟨some 48, some (47, true), .mov (.t 1)⟩,
    ⟨some 49, some (47, true), .bin .lss (.t 48) (.c (.int .i64 0))⟩,
    ⟨some 50, none, .pick (.t 47) (.t 49) (.c (.bool false))⟩]
    [1, 2, 7, 8, 9, 11, 50])
  (.cond (.t 50)
    (.region [⟨some 11, none, .mov (.c (.int .i64 1))⟩]
      [1, 2, 7, 8, 9, 11])
    .skip))
  (.seq (.seq (.region [⟨some 51, none, .mov (.t 11)⟩,
    ⟨some 52, none, .bin .eql (.t 51) (.c (.int .i64 0))⟩,
    ⟨some 53, none, .mov (.t 52)⟩,
    ⟨some 54, some (53, true), .mov (.t 1)⟩,
    ⟨some 55, some (53, true), .mov (.t 2)⟩,
    ⟨some 56, some (53, true), .call F.ref41_Sum [.t 55]⟩,
    ⟨some 57, some (53, true), .bin .gtr (.t 54) (.t 56)⟩,
    ⟨some 58, none, .pick (.t 53) (.t 57) (.c (.bool false))⟩]
    [1, 2, 7, 8, 9, 11, 58])
  (.cond (.t 58)
    (.region [⟨some 11, none, .mov (.c (.int .i64 12))⟩]
      [1, 2, 7, 8, 9, 11])
    .skip))
  (.seq (.seq (.region [⟨some 59, none, .mov (.t 11)⟩,
    ⟨some 60, none, .bin .neq (.t 59) (.c (.int .i64 0))⟩]
    [1, 2, 7, 8, 9, 11, 60])
  (.cond (.t 60)
    (.seq (.region [⟨some 61, none, .mov (.t 7)⟩,
      ⟨some 62, none, .len (.t 61)⟩,
      ⟨some 63, none, .bin .eql (.t 62) (.c (.int .i64 0))⟩,
      ⟨some 64, none, .mov (.t 63)⟩,
      ⟨some 65, some (64, true), .mov (.t 9)⟩,
      ⟨some 66, some (64, true), .bin .eql (.t 65) (.c (.int .i64 0))⟩,
      ⟨some 67, none, .pick (.t 64) (.t 66) (.c (.bool false))⟩,
      ⟨some 68, none, .mov (.t 67)⟩,
      ⟨some 69, some (68, true), .mov (.t 8)⟩,
      ⟨some 70, some (68, true), .mov (.t 11)⟩,
      ⟨some 71, some (68, true), .bin .eql (.t 69) (.t 70)⟩,
      ⟨some 72, none, .pick (.t 68) (.t 71) (.c (.bool false))⟩,
      ⟨some 73, none, .mov (.t 72)⟩,
      ⟨some 74, some (73, true), .call F.law41_awake []⟩,
      ⟨some 75, none, .pick (.t 73) (.t 74) (.c (.bool false))⟩,
      ⟨some 6, none, .mov (.t 75)⟩]
      [6])
    .ret)
    .skip))
  (.seq (.seq (.region [⟨some 76, none, .mov (.t 2)⟩,
    ⟨some 77, none, .len (.t 76)⟩,
    ⟨some 78, none, .bin .gtr (.t 77) (.c (.int .i64 9))⟩]
    [1, 2, 7, 8, 9, 78])
  (.cond (.t 78)
    (.seq (.region [⟨some 79, none, .mov (.t 8)⟩,
      ⟨some 80, none, .bin .eql (.t 79) (.c (.int .i64 0))⟩,
      ⟨some 81, none, .mov (.t 80)⟩,
      ⟨some 82, some (81, true), .call F.law41_awake []⟩,
      ⟨some 83, none, .pick (.t 81) (.t 82) (.c (.bool false))⟩,
      ⟨some 6, none, .mov (.t 83)⟩]
      [6])
    .ret)
    .skip))
  (.seq (.region [⟨some 85, none, .mov (.t 1)⟩,
    ⟨some 86, none, .mov (.t 2)⟩,
    ⟨some 87, none, .call F.ref41_Choose [.t 85, .t 86]⟩,
    ⟨some 84, none, .mov (.t 87)⟩,
    ⟨some 88, none, .ext 0 (.t 84)⟩,
    ⟨some 89, none, .ext 1 (.t 84)⟩,
    ⟨some 12, none, .mov (.t 88)⟩,
    ⟨some 13, none, .mov (.t 89)⟩]
    [7, 8, 9, 12, 13])
  (.seq (.region [⟨some 90, none, .mov (.t 8)⟩,
    ⟨some 91, none, .bin .eql (.t 90) (.c (.int .i64 0))⟩,
    ⟨some 92, none, .mov (.t 91)⟩,
    ⟨some 93, some (92, true), .mov (.t 13)⟩,
    ⟨some 94, none, .pick (.t 92) (.t 93) (.c (.bool false))⟩,
    ⟨some 95, none, .mov (.t 94)⟩,
    ⟨some 96, some (95, true), .mov (.t 7)⟩,
    ⟨some 97, some (95, true), .mov (.t 12)⟩,
    ⟨some 98, some (95, true), .call F.ref41_Units [.t 97]⟩,
    ⟨some 99, some (95, true), .call F.ref03_Same [.t 96, .t 98]⟩,
    ⟨some 100, none, .pick (.t 95) (.t 99) (.c (.bool false))⟩,
    ⟨some 101, none, .mov (.t 100)⟩,
    ⟨some 102, some (101, true), .mov (.t 9)⟩,
    ⟨some 103, some (101, true), .mov (.t 12)⟩,
    ⟨some 104, some (101, true), .call F.ref41_Sum [.t 103]⟩,
    ⟨some 105, some (101, true), .bin .eql (.t 102) (.t 104)⟩,
    ⟨some 106, none, .pick (.t 101) (.t 105) (.c (.bool false))⟩,
    ⟨some 107, none, .mov (.t 106)⟩,
    ⟨some 108, some (107, true), .call F.law41_awake []⟩,
    ⟨some 109, none, .pick (.t 107) (.t 108) (.c (.bool false))⟩,
    ⟨some 6, none, .mov (.t 109)⟩]
    [6])
  .ret))))))))))))⟩

def RB.law41_ShedLeast_1 : RCode :=
  (.seq (.seq (.region [⟨some 59, none, .mov (.t 11)⟩,
    ⟨some 60, none, .mov (.t 9)⟩,
    ⟨some 61, none, .len (.t 60)⟩,
    ⟨some 62, none, .bin .lss (.t 59) (.t 61)⟩]
    [1, 9, 10, 11, 62])
  (.cond (.t 62)
    .skip
    (.exit 0)))
  (.seq (.block 1
    (.seq (.region [⟨some 65, none, .mov (.t 10)⟩,
      ⟨some 66, none, .mov (.t 9)⟩,
      ⟨some 67, none, .mov (.t 11)⟩,
      ⟨some 68, none, .idxS 2 (.t 66) (.t 67)⟩,
      ⟨some 69, none, .fieldAddr 1 (.t 68)⟩,
      ⟨some 70, none, .load false 1 (.t 69)⟩,
      ⟨some 71, none, .bin .sub (.t 65) (.t 70)⟩,
      ⟨some 72, none, .mov (.t 1)⟩,
      ⟨some 73, none, .bin .geq (.t 71) (.t 72)⟩]
      [1, 9, 10, 11, 73])
    (.cond (.t 73)
      (.seq (.region [⟨some 6, none, .mov (.c (.bool false))⟩]
        [6])
      .ret)
      .skip)) [1, 9, 10, 11])
  (.region [⟨some 63, none, .mov (.t 11)⟩,
    ⟨some 64, none, .bin .add (.t 63) (.c (.int .i64 1))⟩,
    ⟨some 11, none, .mov (.t 64)⟩]
    [1, 9, 10, 11])))
def RC.law41_ShedLeast : RFn := ⟨3, [.slot 6],
  (.seq (.region [⟨some 6, none, .mov (.c (.bool false))⟩]
    [0, 1, 2])
  (.seq (.region [⟨some 13, none, .mov (.t 0)⟩,
    ⟨some 14, none, .mov (.t 1)⟩,
    ⟨some 15, none, .mov (.t 2)⟩,
    ⟨some 16, none, .mov (.t 2)⟩,
    ⟨some 17, none, .len (.t 16)⟩,
    ⟨some 18, none, .minmax false [.t 17, .c (.int .i64 64)]⟩,
    ⟨some 19, none, .sub 2 (.t 15) none (some (.t 18)) none⟩,
    ⟨some 20, none, .call F.shed_Choose [.t 13, .t 14, .t 19]⟩,
    ⟨some 12, none, .mov (.t 20)⟩,
    ⟨some 21, none, .ext 0 (.t 12)⟩,
    ⟨some 22, none, .ext 1 (.t 12)⟩,
    ⟨some 7, none, .mov (.t 21)⟩,
    ⟨some 8, none, .mov (.t 22)⟩]
    [1, 2, 7, 8])
  (.seq (.seq (.region [⟨some 23, none, .mov (.t 8)⟩,
    ⟨some 24, none, .bin .neq (.t 23) (.c (.int .i64 0))⟩]
    [1, 2, 7, 24])
  (.cond (.t 24)
    (.seq (.region [⟨some 25, none, .mov (.t 7)⟩,
      ⟨some 26, none, .len (.t 25)⟩,
      ⟨some 27, none, .bin .eql (.t 26) (.c (.int .i64 0))⟩,
      ⟨some 28, none, .mov (.t 27)⟩,
      ⟨some 29, some (28, true), .call F.law41_awake []⟩,
      ⟨some 30, none, .pick (.t 28) (.t 29) (.c (.bool false))⟩,
      ⟨some 6, none, .mov (.t 30)⟩]
      [6])
    .ret)
    .skip))
  (.seq (.region [⟨some 31, none, .mov (.t 2)⟩,
    ⟨some 32, none, .mov (.t 2)⟩,
    ⟨some 33, none, .len (.t 32)⟩,
    ⟨some 34, none, .minmax false [.t 33, .c (.int .i64 64)]⟩,
    ⟨some 35, none, .sub 2 (.t 31) none (some (.t 34)) none⟩,
    ⟨some 36, none, .mov (.t 7)⟩,
    ⟨some 37, none, .call F.law41_chosen [.t 35, .t 36]⟩,
    ⟨some 9, none, .mov (.t 37)⟩]
    [1, 7, 9])
  (.seq (.region [⟨some 38, none, .mov (.t 9)⟩,
    ⟨some 39, none, .call F.ref41_Sum [.t 38]⟩,
    ⟨some 10, none, .mov (.t 39)⟩]
    [1, 7, 9, 10])
  (.seq (.seq (.region [⟨some 40, none, .mov (.t 9)⟩,
    ⟨some 41, none, .len (.t 40)⟩,
    ⟨some 42, none, .mov (.t 7)⟩,
    ⟨some 43, none, .len (.t 42)⟩,
    ⟨some 44, none, .bin .neq (.t 41) (.t 43)⟩,
    ⟨some 45, none, .mov (.t 44)⟩,
    ⟨some 46, some (45, false), .mov (.t 10)⟩,
    ⟨some 47, some (45, false), .mov (.t 1)⟩,
    ⟨some 48, some (45, false), .bin .lss (.t 46) (.t 47)⟩,
    ⟨some 49, none, .pick (.t 45) (.c (.bool true)) (.t 48)⟩,
    ⟨some 50, none, .mov (.t 49)⟩,
    ⟨some 51, some (50, false), .mov (.t 1)⟩,
    ⟨some 52, some (50, false), .bin .eql (.t 51) (.c (.int .i64 0))⟩,
    ⟨some 53, some (50, false), .mov (.t 52)⟩,
    ⟨some 54, some (53, true), .mov (.t 9)⟩,
    ⟨some 55, some (53, true), .len (.t 54)⟩,
    ⟨some 56, some (53, true), .bin .gtr (.t 55) (.c (.int .i64 0))⟩,
    ⟨some 57, some (50, false), .pick (.t 53) (.t 56) (.c (.bool false))⟩,
    ⟨some 58, none, .pick (.t 50) (.c (.bool true)) (.t 57)⟩]
    [1, 9, 10, 58])
  (.cond (.t 58)
    (.seq (.region [⟨some 6, none, .mov (.c (.bool false))⟩]
      [6])
    .ret)
    .skip))
  (.seq (.seq (.region [⟨some 11, none, .mov (.c (.int .i64 0))⟩]
    [1, 9, 10, 11])
  (.block 0
    (.loop [1, 9, 10, 11] RB.law41_ShedLeast_1) []))
  (.seq (.region [⟨some 74, none, .call F.law41_awake []⟩,
    ⟨some 6, none, .mov (.t 74)⟩]
    [6])
  .ret))))))))⟩

def RC.law41_ShedCores : RFn := ⟨3, [.slot 6],
  (.seq (.region [⟨some 6, none, .mov (.c (.bool false))⟩]
    [0, 1, 2])
  (.seq (.seq (.region [⟨some 14, none, .mov (.t 2)⟩,
    ⟨some 15, none, .len (.t 14)⟩,
    ⟨some 16, none, .bin .gtr (.t 15) (.c (.int .i64 80))⟩]
    [0, 1, 2, 16])
  (.cond (.t 16)
    (.seq (.region [⟨some 17, none, .call F.law41_awake []⟩,
      ⟨some 6, none, .mov (.t 17)⟩]
      [6])
    .ret)
    .skip))
  (.seq (.region [⟨some 19, none, .mov (.t 0)⟩,
    ⟨some 20, none, .mov (.t 1)⟩,
    ⟨some 21, none, .mov (.t 2)⟩,
    ⟨some 22, none, .call F.shed_Core [.t 19, .t 20, .t 21]⟩,
    ⟨some 18, none, .mov (.t 22)⟩,
    ⟨some 23, none, .ext 0 (.t 18)⟩,
    ⟨some 24, none, .ext 1 (.t 18)⟩,
    ⟨some 7, none, .mov (.t 23)⟩,
    ⟨some 8, none, .mov (.t 24)⟩]
    [0, 1, 2, 7, 8])
  (.seq (.region [⟨some 25, none, .mov (.t 0)⟩,
    ⟨some 26, none, .mov (.t 2)⟩,
    ⟨some 27, none, .call F.ref41_Why [.t 25, .t 26]⟩,
    ⟨some 9, none, .mov (.t 27)⟩]
    [0, 1, 2, 7, 8, 9])
  (.seq (.seq (.region [⟨some 28, none, .mov (.t 9)⟩,
    ⟨some 29, none, .bin .eql (.t 28) (.c (.int .i64 0))⟩,
    ⟨some 30, none, .mov (.t 29)⟩,
    ⟨some 31, some (30, true), .mov (.t 1)⟩,
    ⟨some 32, some (30, true), .bin .lss (.t 31) (.c (.int .i64 1))⟩,
    ⟨some 33, some (30, true), .mov (.t 32)⟩,
    ⟨some 34, some (33, false), .mov (.t 1)⟩,
    ⟨some 35, some (33, false), .bin .gtr (.t 34) (.c (.int .i64 16))⟩,
    ⟨some 36, some (30, true), .pick (.t 33) (.c (.bool true)) (.t 35)⟩,
    ⟨some 37, none, .pick (.t 30) (.t 36) (.c (.bool false))⟩]
    [0, 1, 2, 7, 8, 9, 37])
  (.cond (.t 37)
    (.region [⟨some 9, none, .mov (.c (.int .i64 1))⟩]
      [0, 1, 2, 7, 8, 9])
    .skip))
  (.seq (.seq (.region [⟨some 38, none, .mov (.t 9)⟩,
    ⟨some 39, none, .bin .eql (.t 38) (.c (.int .i64 0))⟩,
    ⟨some 40, none, .mov (.t 39)⟩,
    ⟨some 41, some (40, true), .mov (.t 1)⟩,
    ⟨some 42, some (40, true), .bin .eql (.t 41) (.c (.int .i64 1))⟩,
    ⟨some 43, none, .pick (.t 40) (.t 42) (.c (.bool false))⟩]
    [0, 1, 2, 7, 8, 9, 43])
  (.cond (.t 43)
    (.region [⟨some 9, none, .mov (.c (.int .i64 17))⟩]
      [0, 1, 2, 7, 8, 9])
    .skip))
  (.seq (.seq (.region [⟨some 44, none, .mov (.t 9)⟩,
    ⟨some 45, none, .bin .neq (.t 44) (.c (.int .i64 0))⟩]
    [0, 1, 2, 7, 8, 9, 45])
  (.cond (.t 45)
    (.seq (.region [⟨some 46, none, .mov (.t 7)⟩,
      ⟨some 47, none, .len (.t 46)⟩,
      ⟨some 48, none, .bin .eql (.t 47) (.c (.int .i64 0))⟩,
      ⟨some 49, none, .mov (.t 48)⟩,
      ⟨some 50, some (49, true), .mov (.t 8)⟩,
      ⟨some 51, some (49, true), .mov (.t 9)⟩,
      ⟨some 52, some (49, true), .bin .eql (.t 50) (.t 51)⟩,
      ⟨some 53, none, .pick (.t 49) (.t 52) (.c (.bool false))⟩,
      ⟨some 54, none, .mov (.t 53)⟩,
      ⟨some 55, some (54, true), .call F.law41_awake []⟩,
      ⟨some 56, none, .pick (.t 54) (.t 55) (.c (.bool false))⟩,
      ⟨some 6, none, .mov (.t 56)⟩]
      [6])
    .ret)
    .skip))
  (.seq (.region [⟨some 57, none, .mov (.t 2)⟩,
    ⟨some 58, none, .call F.ref41_Sum [.t 57]⟩,
    ⟨some 10, none, .mov (.t 58)⟩]
    [0, 1, 2, 7, 8, 10])
  (.seq (.region [⟨some 60, none, .mov (.t 0)⟩,
    ⟨some 61, none, .mov (.t 10)⟩,
    ⟨some 62, none, .mov (.t 1)⟩,
    ⟨some 63, none, .bin .sub (.t 62) (.c (.int .i64 1))⟩,
    ⟨some 64, none, .mov (.t 0)⟩,
    ⟨some 65, none, .bin .mul (.t 63) (.t 64)⟩,
    ⟨some 66, none, .bin .sub (.t 61) (.t 65)⟩,
    ⟨some 67, none, .minmax true [.c (.int .i64 0), .t 66]⟩,
    ⟨some 68, none, .mov (.t 2)⟩,
    ⟨some 69, none, .call F.shed_Choose [.t 60, .t 67, .t 68]⟩,
    ⟨some 59, none, .mov (.t 69)⟩,
    ⟨some 70, none, .ext 0 (.t 59)⟩,
    ⟨some 71, none, .ext 1 (.t 59)⟩,
    ⟨some 11, none, .mov (.t 70)⟩,
    ⟨some 12, none, .mov (.t 71)⟩]
    [0, 1, 2, 7, 8, 10, 11, 12])
  (.seq (.region [⟨some 72, none, .mov (.t 10)⟩,
    ⟨some 73, none, .mov (.t 2)⟩,
    ⟨some 74, none, .mov (.t 7)⟩,
    ⟨some 75, none, .call F.law41_chosen [.t 73, .t 74]⟩,
    ⟨some 76, none, .call F.ref41_Sum [.t 75]⟩,
    ⟨some 77, none, .bin .sub (.t 72) (.t 76)⟩,
    ⟨some 13, none, .mov (.t 77)⟩]
    [0, 1, 7, 8, 10, 11, 12, 13])
  (.seq (.region [⟨some 78, none, .mov (.t 8)⟩,
    ⟨some 79, none, .bin .eql (.t 78) (.c (.int .i64 0))⟩,
    ⟨some 80, none, .mov (.t 79)⟩,
    ⟨some 81, some (80, true), .mov (.t 12)⟩,
    ⟨some 82, some (80, true), .bin .eql (.t 81) (.c (.int .i64 0))⟩,
    ⟨some 83, none, .pick (.t 80) (.t 82) (.c (.bool false))⟩,
    ⟨some 84, none, .mov (.t 83)⟩,
    ⟨some 85, some (84, true), .mov (.t 7)⟩,
    ⟨some 86, some (84, true), .mov (.t 11)⟩,
    ⟨some 87, some (84, true), .call F.ref03_Same [.t 85, .t 86]⟩,
    ⟨some 88, none, .pick (.t 84) (.t 87) (.c (.bool false))⟩,
    ⟨some 89, none, .mov (.t 88)⟩,
    ⟨some 90, some (89, true), .mov (.t 13)⟩,
    ⟨some 91, some (89, true), .mov (.t 1)⟩,
    ⟨some 92, some (89, true), .bin .sub (.t 91) (.c (.int .i64 1))⟩,
    ⟨some 93, some (89, true), .mov (.t 0)⟩,
    ⟨some 94, some (89, true), .bin .mul (.t 92) (.t 93)⟩,
    ⟨some 95, some (89, true), .bin .leq (.t 90) (.t 94)⟩,
    ⟨some 96, none, .pick (.t 89) (.t 95) (.c (.bool false))⟩,
    ⟨some 97, none, .mov (.t 96)⟩,
    ⟨some 98, some (97, true), .mov (.t 7)⟩,
    ⟨some 99, some (97, true), .len (.t 98)⟩,
    ⟨some 100, some (97, true), .bin .gtr (.t 99) (.c (.int .i64 0))⟩,
    ⟨some 101, some (97, true), .mov (.t 10)⟩,
    ⟨some 102, some (97, true), .mov (.t 1)⟩,
    ⟨some 103, some (97, true), .bin .sub (.t 102) (.c (.int .i64 1))⟩,
    ⟨some 104, some (97, true), .mov (.t 0)⟩,
    ⟨some 105, some (97, true), .bin .mul (.t 103) (.t 104)⟩,
    ⟨some 106, some (97, true), .bin .gtr (.t 101) (.t 105)⟩,
    ⟨some 107, some (97, true), .eq false .bool (.t 100) (.t 106)⟩,
    ⟨some 108, none, .pick (.t 97) (.t 107) (.c (.bool false))⟩,
    ⟨some 109, none, .mov (.t 108)⟩,
    ⟨some 110, some (109, true), .call F.law41_awake []⟩,
    ⟨some 111, none, .pick (.t 109) (.t 110) (.c (.bool false))⟩,
    ⟨some 6, none, .mov (.t 111)⟩]
    [6])
  .ret)))))))))))⟩

def RC.law41_awake : RFn := ⟨0, [.slot 0],
  (.seq (.region [⟨some 0, none, .mov (.c (.bool false))⟩]
    [])
  (.seq (.region [⟨some 8, none, .build [(.int .i64 0), (.int .i64 0)] [(0, 1, .c (.int .i64 1)), (1, 1, .c (.int .i64 5))]⟩,
    ⟨some 9, none, .build [(.int .i64 0), (.int .i64 0)] [(0, 1, .c (.int .i64 2)), (1, 1, .c (.int .i64 3))]⟩,
    ⟨some 10, none, .build [(.int .i64 0), (.int .i64 0)] [(0, 1, .c (.int .i64 3)), (1, 1, .c (.int .i64 3))]⟩,
    ⟨some 11, none, .build [(.int .i64 0), (.int .i64 0)] [(0, 1, .c (.int .i64 4)), (1, 1, .c (.int .i64 2))]⟩,
    ⟨some 12, none, .bslice [(.int .i64 0), (.int .i64 0), (.int .i64 0), (.int .i64 0), (.int .i64 0), (.int .i64 0), (.int .i64 0), (.int .i64 0)] [(0, 2, .t 8), (2, 2, .t 9), (4, 2, .t 10), (6, 2, .t 11)] 4 2⟩,
    ⟨some 1, none, .mov (.t 12)⟩]
    [1])
  (.seq (.region [⟨some 14, none, .mov (.t 1)⟩,
    ⟨some 15, none, .call F.shed_Choose [.c (.int .i64 8), .c (.int .i64 5), .t 14]⟩,
    ⟨some 13, none, .mov (.t 15)⟩,
    ⟨some 16, none, .ext 0 (.t 13)⟩,
    ⟨some 17, none, .ext 1 (.t 13)⟩,
    ⟨some 2, none, .mov (.t 16)⟩,
    ⟨some 3, none, .mov (.t 17)⟩]
    [1, 2, 3])
  (.seq (.region [⟨some 19, none, .mov (.t 1)⟩,
    ⟨some 20, none, .call F.shed_Choose [.c (.int .i64 8), .c (.int .i64 6), .t 19]⟩,
    ⟨some 18, none, .mov (.t 20)⟩,
    ⟨some 21, none, .ext 0 (.t 18)⟩,
    ⟨some 22, none, .ext 1 (.t 18)⟩,
    ⟨some 4, none, .mov (.t 21)⟩,
    ⟨some 5, none, .mov (.t 22)⟩]
    [1, 2, 3, 4, 5])
  (.seq (.region [⟨some 24, none, .mov (.t 1)⟩,
    ⟨some 25, none, .call F.shed_Cost [.c (.int .i64 8), .c (.int .i64 4), .t 24]⟩,
    ⟨some 23, none, .mov (.t 25)⟩,
    ⟨some 26, none, .ext 0 (.t 23)⟩,
    ⟨some 27, none, .ext 1 (.t 23)⟩,
    ⟨some 6, none, .mov (.t 26)⟩,
    ⟨some 7, none, .mov (.t 27)⟩]
    [2, 3, 4, 5, 6, 7])
  (.seq (.region [⟨some 28, none, .mov (.t 2)⟩,
    ⟨some 29, none, .bslice [(.int .i64 0)] [(0, 1, .c (.int .i64 1))] 1 1⟩,
    ⟨some 30, none, .call F.ref03_Same [.t 28, .t 29]⟩,
    ⟨some 31, none, .mov (.t 30)⟩,
    ⟨some 32, some (31, true), .mov (.t 3)⟩,
    ⟨some 33, some (31, true), .bin .eql (.t 32) (.c (.int .i64 0))⟩,
    ⟨some 34, none, .pick (.t 31) (.t 33) (.c (.bool false))⟩,
    ⟨some 35, none, .mov (.t 34)⟩,
    ⟨some 36, some (35, true), .mov (.t 4)⟩,
    ⟨some 37, some (35, true), .bslice [(.int .i64 0), (.int .i64 0)] [(0, 1, .c (.int .i64 2)), (1, 1, .c (.int .i64 3))] 2 1⟩,
    ⟨some 38, some (35, true), .call F.ref03_Same [.t 36, .t 37]⟩,
    ⟨some 39, none, .pick (.t 35) (.t 38) (.c (.bool false))⟩,
    ⟨some 40, none, .mov (.t 39)⟩,
    ⟨some 41, some (40, true), .mov (.t 5)⟩,
    ⟨some 42, some (40, true), .bin .eql (.t 41) (.c (.int .i64 0))⟩,
    ⟨some 43, none, .pick (.t 40) (.t 42) (.c (.bool false))⟩,
    ⟨some 44, none, .mov (.t 43)⟩,
    ⟨some 45, some (44, true), .mov (.t 6)⟩,
    ⟨some 46, some (44, true), .bin .eql (.t 45) (.c (.int .i64 5))⟩,
    ⟨some 47, none, .pick (.t 44) (.t 46) (.c (.bool false))⟩,
    ⟨some 48, none, .mov (.t 47)⟩,
    ⟨some 49, some (48, true), .mov (.t 7)⟩,
    ⟨some 50, some (48, true), .bin .eql (.t 49) (.c (.int .i64 0))⟩,
    ⟨some 51, none, .pick (.t 48) (.t 50) (.c (.bool false))⟩,
    ⟨some 0, none, .mov (.t 51)⟩]
    [0])
  .ret))))))⟩

def RC.shed_Choose : RFn := ⟨3, [.slot 6, .slot 7],
  (.seq (.region [⟨some 6, none, .mov (.c (.slice none 0 0))⟩,
    ⟨some 7, none, .mov (.c (.int .i64 0))⟩]
    [0, 1, 2])
  (.seq (.region [⟨some 12, none, .mov (.t 0)⟩,
    ⟨some 13, none, .mov (.t 1)⟩,
    ⟨some 14, none, .mov (.t 2)⟩,
    ⟨some 15, none, .call F.shed_choose [.t 12, .t 13, .t 14]⟩,
    ⟨some 11, none, .mov (.t 15)⟩,
    ⟨some 16, none, .ext 0 (.t 11)⟩,
    ⟨some 17, none, .ext 1 (.t 11)⟩,
    ⟨some 18, none, .ext 2 (.t 11)⟩,
    ⟨some 8, none, .mov (.t 16)⟩,
    ⟨some 9, none, .mov (.t 17)⟩,
    ⟨some 10, none, .mov (.t 18)⟩]
    [8, 10])
  (.seq (.region [⟨some 19, none, .mov (.t 8)⟩,
    ⟨some 20, none, .mov (.t 10)⟩,
    ⟨some 6, none, .mov (.t 19)⟩,
    ⟨some 7, none, .mov (.t 20)⟩]
    [6, 7])
  .ret)))⟩

def RC.shed_Cost : RFn := ⟨3, [.slot 6, .slot 7],
  (.seq (.region [⟨some 6, none, .mov (.c (.int .i64 0))⟩,
    ⟨some 7, none, .mov (.c (.int .i64 0))⟩]
    [0, 1, 2])
  (.seq (.region [⟨some 12, none, .mov (.t 0)⟩,
    ⟨some 13, none, .mov (.t 1)⟩,
    ⟨some 14, none, .mov (.t 2)⟩,
    ⟨some 15, none, .call F.shed_choose [.t 12, .t 13, .t 14]⟩,
    ⟨some 11, none, .mov (.t 15)⟩,
    ⟨some 16, none, .ext 0 (.t 11)⟩,
    ⟨some 17, none, .ext 1 (.t 11)⟩,
    ⟨some 18, none, .ext 2 (.t 11)⟩,
    ⟨some 8, none, .mov (.t 16)⟩,
    ⟨some 9, none, .mov (.t 17)⟩,
    ⟨some 10, none, .mov (.t 18)⟩]
    [9, 10])
  (.seq (.region [⟨some 19, none, .mov (.t 9)⟩,
    ⟨some 20, none, .mov (.t 10)⟩,
    ⟨some 6, none, .mov (.t 19)⟩,
    ⟨some 7, none, .mov (.t 20)⟩]
    [6, 7])
  .ret)))⟩

def RC.ref41_Why : RFn := ⟨2, [.slot 4],
  (.seq (.region [⟨some 4, none, .mov (.c (.int .i64 0))⟩]
    [0, 1])
  (.seq (.region [⟨some 6, none, .mov (.t 0)⟩,
    ⟨some 7, none, .mov (.t 1)⟩,
    ⟨some 8, none, .call F.ref08_Check [.t 6, .t 7]⟩,
    ⟨some 5, none, .mov (.t 8)⟩]
    [1, 5])
  (.seq (.seq (.region [⟨some 9, none, .mov (.t 5)⟩,
    ⟨some 10, none, .bin .eql (.t 9) (.c (.int .i64 0))⟩,
    ⟨some 11, none, .mov (.t 10)⟩,
    ⟨some 12, some (11, true), .mov (.t 1)⟩,
    ⟨some 13, some (11, true), .len (.t 12)⟩,
    ⟨some 14, some (11, true), .bin .gtr (.t 13) (.c (.int .i64 64))⟩,
    ⟨some 15, none, .pick (.t 11) (.t 14) (.c (.bool false))⟩]
    [5, 15])
  (.cond (.t 15)
    (.seq (.region [⟨some 4, none, .mov (.c (.int .i64 4))⟩]
      [4])
    .ret)
    .skip))
  (.seq (.region [⟨some 16, none, .mov (.t 5)⟩,
    ⟨some 4, none, .mov (.t 16)⟩]
    [4])
  .ret))))⟩

def RC.shed_Check : RFn := ⟨2, [.slot 4],
  (.seq (.region [⟨some 4, none, .mov (.c (.int .i64 0))⟩]
    [0, 1])
  (.seq (.seq (.region [⟨some 6, none, .mov (.t 0)⟩,
    ⟨some 7, none, .mov (.t 1)⟩,
    ⟨some 8, none, .call F.order_Check [.t 6, .t 7]⟩,
    ⟨some 5, none, .mov (.t 8)⟩]
    [1, 5])
  (.seq (.region [⟨some 9, none, .mov (.t 5)⟩,
    ⟨some 10, none, .bin .neq (.t 9) (.c (.int .i64 0))⟩]
    [1, 5, 10])
  (.cond (.t 10)
    (.seq (.region [⟨some 11, none, .mov (.t 5)⟩,
      ⟨some 4, none, .mov (.t 11)⟩]
      [4])
    .ret)
    .skip)))
  (.seq (.seq (.region [⟨some 12, none, .mov (.t 1)⟩,
    ⟨some 13, none, .len (.t 12)⟩,
    ⟨some 14, none, .bin .gtr (.t 13) (.c (.int .i64 64))⟩]
    [14])
  (.cond (.t 14)
    (.seq (.region [⟨some 4, none, .mov (.c (.int .i64 4))⟩]
      [4])
    .ret)
    .skip))
  (.seq (.region [⟨some 4, none, .mov (.c (.int .i64 0))⟩]
    [4])
  .ret))))⟩

def RB.ref41_Sum_1 : RCode :=
  (.seq (.seq (.region [⟨some 5, none, .mov (.t 4)⟩,
    ⟨some 6, none, .mov (.t 0)⟩,
    ⟨some 7, none, .len (.t 6)⟩,
    ⟨some 8, none, .bin .lss (.t 5) (.t 7)⟩]
    [0, 3, 4, 8])
  (.cond (.t 8)
    .skip
    (.exit 0)))
  (.seq (.block 1
    (.region [⟨some 11, none, .mov (.t 3)⟩,
      ⟨some 12, none, .mov (.t 0)⟩,
      ⟨some 13, none, .mov (.t 4)⟩,
      ⟨some 14, none, .idxS 2 (.t 12) (.t 13)⟩,
      ⟨some 15, none, .fieldAddr 1 (.t 14)⟩,
      ⟨some 16, none, .load false 1 (.t 15)⟩,
      ⟨some 17, none, .bin .add (.t 11) (.t 16)⟩,
      ⟨some 3, none, .mov (.t 17)⟩]
      [0, 3, 4]) [0, 3, 4])
  (.region [⟨some 9, none, .mov (.t 4)⟩,
    ⟨some 10, none, .bin .add (.t 9) (.c (.int .i64 1))⟩,
    ⟨some 4, none, .mov (.t 10)⟩]
    [0, 3, 4])))
def RC.ref41_Sum : RFn := ⟨1, [.slot 2],
  (.seq (.region [⟨some 2, none, .mov (.c (.int .i64 0))⟩]
    [0])
  (.seq (.region [⟨some 3, none, .mov (.c (.int .i64 0))⟩]
    [0, 3])
  (.seq (.seq (.region [⟨some 4, none, .mov (.c (.int .i64 0))⟩]
    [0, 3, 4])
  (.block 0
    (.loop [0, 3, 4] RB.ref41_Sum_1) [3]))
  (.seq (.region [⟨some 18, none, .mov (.t 3)⟩,
    ⟨some 2, none, .mov (.t 18)⟩]
    [2])
  .ret))))⟩

def RC.ref41_Choose : RFn := ⟨2, [.slot 4, .slot 5],
  (.seq (.region [⟨some 4, none, .mov (.c (.slice none 0 0))⟩,
    ⟨some 5, none, .mov (.c (.bool false))⟩]
    [0, 1])
  (.seq (.region [⟨some 6, none, .mov (.t 0)⟩,
    ⟨some 7, none, .mov (.t 1)⟩,
    ⟨some 8, none, .bslice [] [] 0 2⟩,
    ⟨some 9, none, .call F.ref41_best [.t 6, .t 7, .c (.int .i64 0), .t 8]⟩,
    ⟨some 10, none, .ext 0 (.t 9)⟩,
    ⟨some 11, none, .ext 1 (.t 9)⟩,
    ⟨some 4, none, .mov (.t 10)⟩,
    ⟨some 5, none, .mov (.t 11)⟩]
    [4, 5])
  .ret))⟩

def RB.ref03_Same_1 : RCode :=
  (.seq (.seq (.region [⟨some 11, none, .mov (.t 5)⟩,
    ⟨some 12, none, .mov (.t 0)⟩,
    ⟨some 13, none, .len (.t 12)⟩,
    ⟨some 14, none, .bin .lss (.t 11) (.t 13)⟩]
    [0, 1, 5, 14])
  (.cond (.t 14)
    .skip
    (.exit 0)))
  (.seq (.block 1
    (.seq (.drawn [⟨some 17, none, .mov (.t 0)⟩,
      ⟨some 18, none, .mov (.t 5)⟩,
      ⟨some 19, none, .idxS 1 (.t 17) (.t 18)⟩,
      ⟨some 20, none, .load false 1 (.t 19)⟩,
      ⟨some 21, none, .mov (.t 1)⟩,
      ⟨some 22, none, .mov (.t 5)⟩,
      ⟨some 23, none, .idxS 1 (.t 21) (.t 22)⟩,
      ⟨some 24, none, .load false 1 (.t 23)⟩,
      ⟨some 25, none, .bin .neq (.t 20) (.t 24)⟩]
      [[], [], [0, 1], [2], [], [], [4, 5], [6], [3, 7]]
      [(0, []), (1, []), (2, []), (4, []), (5, []), (6, []), (3, []), (7, []), (8, [])]
      [[], [], [0, 1], [0, 1, 2], [], [], [4, 5], [4, 5, 6], [0, 1, 2, 3, 4, 5, 6, 7]]
      [0, 1, 5, 25])
    (.cond (.t 25)
      (.seq (.region [⟨some 4, none, .mov (.c (.bool false))⟩]
        [4])
      .ret)
      .skip)) [0, 1, 5])
  (.region [⟨some 15, none, .mov (.t 5)⟩,
    ⟨some 16, none, .bin .add (.t 15) (.c (.int .i64 1))⟩,
    ⟨some 5, none, .mov (.t 16)⟩]
    [0, 1, 5])))
def RC.ref03_Same : RFn := ⟨2, [.slot 4],
  (.seq (.region [⟨some 4, none, .mov (.c (.bool false))⟩]
    [0, 1])
  (.seq (.seq (.region [⟨some 6, none, .mov (.t 0)⟩,
    ⟨some 7, none, .len (.t 6)⟩,
    ⟨some 8, none, .mov (.t 1)⟩,
    ⟨some 9, none, .len (.t 8)⟩,
    ⟨some 10, none, .bin .neq (.t 7) (.t 9)⟩]
    [0, 1, 10])
  (.cond (.t 10)
    (.seq (.region [⟨some 4, none, .mov (.c (.bool false))⟩]
      [4])
    .ret)
    .skip))
  (.seq (.seq (.region [⟨some 5, none, .mov (.c (.int .i64 0))⟩]
    [0, 1, 5])
  (.block 0
    (.loop [0, 1, 5] RB.ref03_Same_1) []))
  (.seq (.region [⟨some 4, none, .mov (.c (.bool true))⟩]
    [4])
  .ret))))⟩

def RB.ref41_Units_1 : RCode :=
  (.seq (.seq (.region [⟨some 6, none, .mov (.t 4)⟩,
    ⟨some 7, none, .bin .leq (.t 6) (.c (.int .i64 1040))⟩]
    [0, 3, 4, 7])
  (.cond (.t 7)
    .skip
    (.exit 0)))
  (.seq (.block 1
    (.seq (.region [⟨some 10, none, .mov (.t 0)⟩,
      ⟨some 11, none, .mov (.t 4)⟩,
      ⟨some 12, none, .call F.ref41_has [.t 10, .t 11]⟩]
      [0, 3, 4, 12])
    (.cond (.t 12)
      (.region [⟨some 13, none, .mov (.t 3)⟩,
        ⟨some 14, none, .mov (.t 4)⟩,
        ⟨some 15, none, .bslice [(.int .i64 0)] [(0, 1, .t 14)] 1 1⟩,
        ⟨some 16, none, .app 1 8 (.t 13) (.t 15)⟩,
        ⟨some 3, none, .mov (.t 16)⟩]
        [0, 3, 4])
      .skip)) [0, 3, 4])
  (.region [⟨some 8, none, .mov (.t 4)⟩,
    ⟨some 9, none, .bin .add (.t 8) (.c (.int .i64 1))⟩,
    ⟨some 4, none, .mov (.t 9)⟩]
    [0, 3, 4])))
def RC.ref41_Units : RFn := ⟨1, [.slot 2],
  (.seq (.region [⟨some 2, none, .mov (.c (.slice none 0 0))⟩]
    [0])
  (.seq (.region [⟨some 5, none, .bslice [] [] 0 1⟩,
    ⟨some 3, none, .mov (.t 5)⟩]
    [0, 3])
  (.seq (.seq (.region [⟨some 4, none, .mov (.c (.int .i64 1))⟩]
    [0, 3, 4])
  (.block 0
    (.loop [0, 3, 4] RB.ref41_Units_1) [3]))
  (.seq (.region [⟨some 17, none, .mov (.t 3)⟩,
    ⟨some 2, none, .mov (.t 17)⟩]
    [2])
  .ret))))⟩

def RB.law41_chosen_1 : RCode :=
  (.seq (.seq (.region [⟨some 14, none, .mov (.t 7)⟩,
    ⟨some 15, none, .mov (.t 1)⟩,
    ⟨some 16, none, .len (.t 15)⟩,
    ⟨some 17, none, .bin .lss (.t 14) (.t 16)⟩]
    [0, 1, 5, 6, 7, 17])
  (.cond (.t 17)
    .skip
    (.exit 2)))
  (.seq (.block 3
    (.seq (.drawn [⟨some 20, none, .mov (.t 1)⟩,
      ⟨some 21, none, .mov (.t 7)⟩,
      ⟨some 22, none, .idxS 1 (.t 20) (.t 21)⟩,
      ⟨some 23, none, .load false 1 (.t 22)⟩,
      ⟨some 24, none, .mov (.t 0)⟩,
      ⟨some 25, none, .mov (.t 6)⟩,
      ⟨some 26, none, .idxS 2 (.t 24) (.t 25)⟩,
      ⟨some 27, none, .fieldAddr 0 (.t 26)⟩,
      ⟨some 28, none, .load false 1 (.t 27)⟩,
      ⟨some 29, none, .bin .eql (.t 23) (.t 28)⟩]
      [[], [], [0, 1], [2], [], [], [4, 5], [6], [7], [3, 8]]
      [(0, []), (1, []), (2, []), (4, []), (5, []), (6, []), (7, []), (3, []), (8, []), (9, [])]
      [[], [], [0, 1], [0, 1, 2], [], [], [4, 5], [4, 5, 6], [4, 5, 6, 7], [0, 1, 2, 3, 4, 5, 6, 7, 8]]
      [0, 1, 5, 6, 7, 29])
    (.cond (.t 29)
      (.region [⟨some 30, none, .mov (.t 5)⟩,
        ⟨some 31, none, .mov (.t 0)⟩,
        ⟨some 32, none, .mov (.t 6)⟩,
        ⟨some 33, none, .idxS 2 (.t 31) (.t 32)⟩,
        ⟨some 34, none, .load true 2 (.t 33)⟩,
        ⟨some 35, none, .bslice [(.int .i64 0), (.int .i64 0)] [(0, 2, .t 34)] 1 2⟩,
        ⟨some 36, none, .app 2 16 (.t 30) (.t 35)⟩,
        ⟨some 5, none, .mov (.t 36)⟩]
        [0, 1, 5, 6, 7])
      .skip)) [0, 1, 5, 6, 7])
  (.region [⟨some 18, none, .mov (.t 7)⟩,
    ⟨some 19, none, .bin .add (.t 18) (.c (.int .i64 1))⟩,
    ⟨some 7, none, .mov (.t 19)⟩]
    [0, 1, 5, 6, 7])))
def RB.law41_chosen_2 : RCode :=
  (.seq (.seq (.region [⟨some 8, none, .mov (.t 6)⟩,
    ⟨some 9, none, .mov (.t 0)⟩,
    ⟨some 10, none, .len (.t 9)⟩,
    ⟨some 11, none, .bin .lss (.t 8) (.t 10)⟩]
    [0, 1, 5, 6, 11])
  (.cond (.t 11)
    .skip
    (.exit 0)))
  (.seq (.block 1
    (.seq (.region [⟨some 7, none, .mov (.c (.int .i64 0))⟩]
      [0, 1, 5, 6, 7])
    (.block 2
      (.loop [0, 1, 5, 6, 7] RB.law41_chosen_1) [0, 1, 5, 6])) [0, 1, 5, 6])
  (.region [⟨some 12, none, .mov (.t 6)⟩,
    ⟨some 13, none, .bin .add (.t 12) (.c (.int .i64 1))⟩,
    ⟨some 6, none, .mov (.t 13)⟩]
    [0, 1, 5, 6])))
def RC.law41_chosen : RFn := ⟨2, [.slot 4],
  (.seq (.region [⟨some 4, none, .mov (.c (.slice none 0 0))⟩]
    [0, 1])
  (.seq (.region [⟨some 5, none, .mov (.c (.slice none 0 0))⟩]
    [0, 1, 5])
  (.seq (.seq (.region [⟨some 6, none, .mov (.c (.int .i64 0))⟩]
    [0, 1, 5, 6])
  (.block 0
    (.loop [0, 1, 5, 6] RB.law41_chosen_2) [5]))
  (.seq (.region [⟨some 37, none, .mov (.t 5)⟩,
    ⟨some 4, none, .mov (.t 37)⟩]
    [4])
  .ret))))⟩

def RC.shed_Core : RFn := ⟨3, [.slot 6, .slot 7],
  (.seq (.region [⟨some 6, none, .mov (.c (.slice none 0 0))⟩,
    ⟨some 7, none, .mov (.c (.int .i64 0))⟩]
    [0, 1, 2])
  (.seq (.seq (.region [⟨some 11, none, .mov (.t 0)⟩,
    ⟨some 12, none, .mov (.t 2)⟩,
    ⟨some 13, none, .call F.shed_Check [.t 11, .t 12]⟩,
    ⟨some 8, none, .mov (.t 13)⟩]
    [0, 1, 2, 8])
  (.seq (.region [⟨some 14, none, .mov (.t 8)⟩,
    ⟨some 15, none, .bin .neq (.t 14) (.c (.int .i64 0))⟩]
    [0, 1, 2, 8, 15])
  (.cond (.t 15)
    (.seq (.region [⟨some 16, none, .mov (.t 8)⟩,
      ⟨some 6, none, .mov (.c (.slice none 0 0))⟩,
      ⟨some 7, none, .mov (.t 16)⟩]
      [6, 7])
    .ret)
    .skip)))
  (.seq (.block 0
    (.seq (.region [⟨some 18, none, .mov (.t 1)⟩,
      ⟨some 19, none, .bin .lss (.t 18) (.c (.int .i64 1))⟩,
      ⟨some 20, none, .mov (.t 19)⟩,
      ⟨some 21, some (20, false), .mov (.t 1)⟩,
      ⟨some 22, some (20, false), .bin .gtr (.t 21) (.c (.int .i64 16))⟩,
      ⟨some 23, none, .pick (.t 20) (.c (.bool true)) (.t 22)⟩,
      ⟨some 17, none, .mov (.t 23)⟩]
      [0, 1, 2, 17])
    (.cond (.t 17)
      (.seq (.region [⟨some 6, none, .mov (.c (.slice none 0 0))⟩,
        ⟨some 7, none, .mov (.c (.int .i64 1))⟩]
        [6, 7])
      .ret)
      (.seq (.region [⟨some 25, none, .mov (.t 1)⟩,
        ⟨some 26, none, .bin .eql (.t 25) (.c (.int .i64 1))⟩,
        ⟨some 24, none, .mov (.t 26)⟩]
        [0, 1, 2, 24])
      (.cond (.t 24)
        (.seq (.region [⟨some 6, none, .mov (.c (.slice none 0 0))⟩,
          ⟨some 7, none, .mov (.c (.int .i64 17))⟩]
          [6, 7])
        .ret)
        .skip)))) [0, 1, 2])
  (.seq (.region [⟨some 28, none, .mov (.t 2)⟩,
    ⟨some 29, none, .call F.order_Total [.t 28]⟩,
    ⟨some 27, none, .mov (.t 29)⟩,
    ⟨some 30, none, .ext 0 (.t 27)⟩,
    ⟨some 31, none, .ext 1 (.t 27)⟩,
    ⟨some 9, none, .mov (.t 30)⟩,
    ⟨some 10, none, .mov (.t 31)⟩]
    [0, 1, 2, 9])
  (.seq (.region [⟨some 32, none, .mov (.t 0)⟩,
    ⟨some 33, none, .mov (.t 9)⟩,
    ⟨some 34, none, .mov (.t 1)⟩,
    ⟨some 35, none, .bin .sub (.t 34) (.c (.int .i64 1))⟩,
    ⟨some 36, none, .mov (.t 0)⟩,
    ⟨some 37, none, .bin .mul (.t 35) (.t 36)⟩,
    ⟨some 38, none, .bin .sub (.t 33) (.t 37)⟩,
    ⟨some 39, none, .minmax true [.c (.int .i64 0), .t 38]⟩,
    ⟨some 40, none, .mov (.t 2)⟩,
    ⟨some 41, none, .call F.shed_Choose [.t 32, .t 39, .t 40]⟩,
    ⟨some 42, none, .ext 0 (.t 41)⟩,
    ⟨some 43, none, .ext 1 (.t 41)⟩,
    ⟨some 6, none, .mov (.t 42)⟩,
    ⟨some 7, none, .mov (.t 43)⟩]
    [6, 7])
  .ret)))))⟩

def RB.shed_choose_1 : RCode :=
  (.seq (.region [⟨some 54, none, .bin .lss (.t 53) (.t 52)⟩]
    [12, 13, 14, 51, 52, 53, 54])
  (.seq (.cond (.t 54)
    .skip
    (.exit 3))
  (.seq (.block 4
    (.seq (.region [⟨some 55, none, .mov (.t 53)⟩,
      ⟨some 56, none, .idxS 2 (.t 51) (.t 53)⟩,
      ⟨some 57, none, .load true 2 (.t 56)⟩,
      ⟨some 16, none, .alloc [(.int .i64 0), (.int .i64 0)]⟩,
      ⟨some 15, none, .mov (.t 55)⟩,
      ⟨none, none, .store 2 (.t 16) (.t 57)⟩]
      [12, 13, 14, 15, 16, 51, 52, 53])
    (.seq (.region [⟨some 58, none, .mov (.t 12)⟩,
      ⟨some 59, none, .mov (.t 13)⟩,
      ⟨some 60, none, .idxS 3 (.t 58) (.t 59)⟩,
      ⟨some 61, none, .fieldAddr 2 (.t 60)⟩,
      ⟨some 62, none, .load false 1 (.t 61)⟩,
      ⟨some 63, none, .mov (.t 15)⟩,
      ⟨some 64, none, .bin .sub (.c (.int .i64 63)) (.t 63)⟩,
      ⟨some 65, none, .bin .shr (.t 62) (.t 64)⟩,
      ⟨some 66, none, .bin .and (.t 65) (.c (u64 1#64))⟩,
      ⟨some 67, none, .bin .eql (.t 66) (.c (u64 1#64))⟩]
      [12, 13, 14, 16, 51, 52, 53, 67])
    (.cond (.t 67)
      (.region [⟨some 68, none, .mov (.t 14)⟩,
        ⟨some 69, none, .fieldAddr 0 (.t 16)⟩,
        ⟨some 70, none, .load false 1 (.t 69)⟩,
        ⟨some 71, none, .bslice [(.int .i64 0)] [(0, 1, .t 70)] 1 1⟩,
        ⟨some 72, none, .app 1 8 (.t 68) (.t 71)⟩,
        ⟨some 14, none, .mov (.t 72)⟩]
        [12, 13, 14, 51, 52, 53])
      .skip))) [12, 13, 14, 51, 52, 53])
  (.region [⟨some 73, none, .bin .add (.t 53) (.c (.int .i64 1))⟩,
    ⟨some 53, none, .mov (.t 73)⟩]
    [12, 13, 14, 51, 52, 53]))))
def RB.shed_choose_2 : RCode :=
  (.seq (.seq (.region [⟨some 43, none, .mov (.t 12)⟩,
    ⟨some 44, none, .mov (.t 13)⟩,
    ⟨some 45, none, .idxS 3 (.t 43) (.t 44)⟩,
    ⟨some 46, none, .fieldAddr 0 (.t 45)⟩,
    ⟨some 47, none, .load false 1 (.t 46)⟩,
    ⟨some 48, none, .un .not (.t 47)⟩]
    [2, 12, 13, 48])
  (.cond (.t 48)
    .skip
    (.exit 1)))
  (.block 2
    (.region [⟨some 49, none, .mov (.t 13)⟩,
      ⟨some 50, none, .bin .add (.t 49) (.c (.int .i64 1))⟩,
      ⟨some 13, none, .mov (.t 50)⟩]
      [2, 12, 13]) [2, 12, 13]))
def RC.shed_choose : RFn := ⟨3, [.slot 6, .slot 7, .slot 8],
  (.seq (.region [⟨some 6, none, .mov (.c (.slice none 0 0))⟩,
    ⟨some 7, none, .mov (.c (.int .i64 0))⟩,
    ⟨some 8, none, .mov (.c (.int .i64 0))⟩]
    [0, 1, 2])
  (.seq (.seq (.region [⟨some 17, none, .mov (.t 0)⟩,
    ⟨some 18, none, .mov (.t 2)⟩,
    ⟨some 19, none, .call F.shed_Check [.t 17, .t 18]⟩,
    ⟨some 9, none, .mov (.t 19)⟩]
    [1, 2, 9])
  (.seq (.region [⟨some 20, none, .mov (.t 9)⟩,
    ⟨some 21, none, .bin .neq (.t 20) (.c (.int .i64 0))⟩]
    [1, 2, 9, 21])
  (.cond (.t 21)
    (.seq (.region [⟨some 22, none, .mov (.t 9)⟩,
      ⟨some 6, none, .mov (.c (.slice none 0 0))⟩,
      ⟨some 7, none, .mov (.c (.int .i64 0))⟩,
      ⟨some 8, none, .mov (.t 22)⟩]
      [6, 7, 8])
    .ret)
    .skip)))
  (.seq (.region [⟨some 24, none, .mov (.t 2)⟩,
    ⟨some 25, none, .call F.order_Total [.t 24]⟩,
    ⟨some 23, none, .mov (.t 25)⟩,
    ⟨some 26, none, .ext 0 (.t 23)⟩,
    ⟨some 27, none, .ext 1 (.t 23)⟩,
    ⟨some 10, none, .mov (.t 26)⟩,
    ⟨some 11, none, .mov (.t 27)⟩]
    [1, 2, 10])
  (.seq (.block 0
    (.seq (.region [⟨some 29, none, .mov (.t 1)⟩,
      ⟨some 30, none, .bin .lss (.t 29) (.c (.int .i64 0))⟩,
      ⟨some 28, none, .mov (.t 30)⟩]
      [1, 2, 10, 28])
    (.cond (.t 28)
      (.seq (.region [⟨some 6, none, .mov (.c (.slice none 0 0))⟩,
        ⟨some 7, none, .mov (.c (.int .i64 0))⟩,
        ⟨some 8, none, .mov (.c (.int .i64 1))⟩]
        [6, 7, 8])
      .ret)
      (.seq (.region [⟨some 32, none, .mov (.t 1)⟩,
        ⟨some 33, none, .mov (.t 10)⟩,
        ⟨some 34, none, .bin .gtr (.t 32) (.t 33)⟩,
        ⟨some 31, none, .mov (.t 34)⟩]
        [1, 2, 10, 31])
      (.cond (.t 31)
        (.seq (.region [⟨some 6, none, .mov (.c (.slice none 0 0))⟩,
          ⟨some 7, none, .mov (.c (.int .i64 0))⟩,
          ⟨some 8, none, .mov (.c (.int .i64 12))⟩]
          [6, 7, 8])
        .ret)
        .skip)))) [1, 2, 10])
  (.seq (.region [⟨some 35, none, .mov (.t 2)⟩,
    ⟨some 36, none, .call F.slices_Clone_api_Want_api_Want [.t 35]⟩,
    ⟨some 2, none, .mov (.t 36)⟩]
    [1, 2, 10])
  (.seq (.region [⟨some 37, none, .mov (.t 2)⟩,
    ⟨some 38, none, .call F.slices_SortFunc_api_Want_api_Want [.t 37, .f F.shed_choose_1]⟩]
    [1, 2, 10])
  (.seq (.region [⟨some 39, none, .mov (.t 2)⟩,
    ⟨some 40, none, .mov (.t 10)⟩,
    ⟨some 41, none, .call F.shed_sums [.t 39, .t 40]⟩,
    ⟨some 12, none, .mov (.t 41)⟩]
    [1, 2, 12])
  (.seq (.region [⟨some 42, none, .mov (.t 1)⟩,
    ⟨some 13, none, .mov (.t 42)⟩]
    [2, 12, 13])
  (.seq (.block 1
    (.loop [2, 12, 13] RB.shed_choose_2) [2, 12, 13])
  (.seq (.region [⟨some 14, none, .mov (.c (.slice none 0 0))⟩]
    [2, 12, 13, 14])
  (.seq (.seq (.region [⟨some 51, none, .mov (.t 2)⟩,
    ⟨some 52, none, .len (.t 51)⟩,
    ⟨some 53, none, .mov (.c (.int .i64 0))⟩]
    [12, 13, 14, 51, 52, 53])
  (.block 3
    (.loop [12, 13, 14, 51, 52, 53] RB.shed_choose_1) [13, 14]))
  (.seq (.region [⟨some 74, none, .mov (.t 14)⟩,
    ⟨some 75, none, .mov (.t 13)⟩,
    ⟨some 6, none, .mov (.t 74)⟩,
    ⟨some 7, none, .mov (.t 75)⟩,
    ⟨some 8, none, .mov (.c (.int .i64 0))⟩]
    [6, 7, 8])
  .ret))))))))))))⟩

def RB.ref08_Check_1 : RCode :=
  (.seq (.seq (.region [⟨some 41, none, .mov (.t 6)⟩,
    ⟨some 42, none, .mov (.t 5)⟩,
    ⟨some 43, none, .bin .lss (.t 41) (.t 42)⟩]
    [0, 1, 5, 6, 43])
  (.cond (.t 43)
    .skip
    (.exit 2)))
  (.seq (.block 3
    (.seq (.drawn [⟨some 46, none, .mov (.t 1)⟩,
      ⟨some 47, none, .mov (.t 6)⟩,
      ⟨some 48, none, .idxS 2 (.t 46) (.t 47)⟩,
      ⟨some 49, none, .fieldAddr 0 (.t 48)⟩,
      ⟨some 50, none, .load false 1 (.t 49)⟩,
      ⟨some 51, none, .mov (.t 1)⟩,
      ⟨some 52, none, .mov (.t 5)⟩,
      ⟨some 53, none, .idxS 2 (.t 51) (.t 52)⟩,
      ⟨some 54, none, .fieldAddr 0 (.t 53)⟩,
      ⟨some 55, none, .load false 1 (.t 54)⟩,
      ⟨some 56, none, .bin .eql (.t 50) (.t 55)⟩]
      [[], [], [0, 1], [2], [3], [], [], [5, 6], [7], [8], [4, 9]]
      [(0, []), (1, []), (2, []), (3, []), (5, []), (6, []), (7, []), (8, []), (4, []), (9, []), (10, [])]
      [[], [], [0, 1], [0, 1, 2], [0, 1, 2, 3], [], [], [5, 6], [5, 6, 7], [5, 6, 7, 8], [0, 1, 2, 3, 4, 5, 6, 7, 8, 9]]
      [0, 1, 5, 6, 56])
    (.cond (.t 56)
      (.seq (.region [⟨some 4, none, .mov (.c (.int .i64 11))⟩]
        [4])
      .ret)
      .skip)) [0, 1, 5, 6])
  (.region [⟨some 44, none, .mov (.t 6)⟩,
    ⟨some 45, none, .bin .add (.t 44) (.c (.int .i64 1))⟩,
    ⟨some 6, none, .mov (.t 45)⟩]
    [0, 1, 5, 6])))
def RB.ref08_Check_2 : RCode :=
  (.seq (.seq (.region [⟨some 13, none, .mov (.t 5)⟩,
    ⟨some 14, none, .mov (.t 1)⟩,
    ⟨some 15, none, .len (.t 14)⟩,
    ⟨some 16, none, .bin .lss (.t 13) (.t 15)⟩]
    [0, 1, 5, 16])
  (.cond (.t 16)
    .skip
    (.exit 0)))
  (.seq (.block 1
    (.seq (.seq (.region [⟨some 19, none, .mov (.t 1)⟩,
      ⟨some 20, none, .mov (.t 5)⟩,
      ⟨some 21, none, .idxS 2 (.t 19) (.t 20)⟩,
      ⟨some 22, none, .fieldAddr 0 (.t 21)⟩,
      ⟨some 23, none, .load false 1 (.t 22)⟩,
      ⟨some 24, none, .call F.ref08_Is [.t 23]⟩,
      ⟨some 25, none, .un .not (.t 24)⟩]
      [0, 1, 5, 25])
    (.cond (.t 25)
      (.seq (.region [⟨some 4, none, .mov (.c (.int .i64 20))⟩]
        [4])
      .ret)
      .skip))
    (.seq (.seq (.region [⟨some 26, none, .mov (.t 1)⟩,
      ⟨some 27, none, .mov (.t 5)⟩,
      ⟨some 28, none, .idxS 2 (.t 26) (.t 27)⟩,
      ⟨some 29, none, .fieldAddr 1 (.t 28)⟩,
      ⟨some 30, none, .load false 1 (.t 29)⟩,
      ⟨some 31, none, .bin .lss (.t 30) (.c (.int .i64 1))⟩,
      ⟨some 32, none, .mov (.t 31)⟩,
      ⟨some 33, some (32, false), .mov (.t 1)⟩,
      ⟨some 34, some (32, false), .mov (.t 5)⟩,
      ⟨some 35, some (32, false), .idxS 2 (.t 33) (.t 34)⟩,
      ⟨some 36, some (32, false), .fieldAddr 1 (.t 35)⟩,
      ⟨some 37, some (32, false), .load false 1 (.t 36)⟩,
      ⟨some 38, some (32, false), .mov (.t 0)⟩,
      ⟨some 39, some (32, false), .bin .gtr (.t 37) (.t 38)⟩,
      ⟨some 40, none, .pick (.t 32) (.c (.bool true)) (.t 39)⟩]
      [0, 1, 5, 40])
    (.cond (.t 40)
      (.seq (.region [⟨some 4, none, .mov (.c (.int .i64 21))⟩]
        [4])
      .ret)
      .skip))
    (.seq (.region [⟨some 6, none, .mov (.c (.int .i64 0))⟩]
      [0, 1, 5, 6])
    (.block 2
      (.loop [0, 1, 5, 6] RB.ref08_Check_1) [0, 1, 5])))) [0, 1, 5])
  (.region [⟨some 17, none, .mov (.t 5)⟩,
    ⟨some 18, none, .bin .add (.t 17) (.c (.int .i64 1))⟩,
    ⟨some 5, none, .mov (.t 18)⟩]
    [0, 1, 5])))
def RC.ref08_Check : RFn := ⟨2, [.slot 4],
  (.seq (.region [⟨some 4, none, .mov (.c (.int .i64 0))⟩]
    [0, 1])
  (.seq (.seq (.region [⟨some 7, none, .mov (.t 0)⟩,
    ⟨some 8, none, .bin .lss (.t 7) (.c (.int .i64 2))⟩,
    ⟨some 9, none, .mov (.t 8)⟩,
    ⟨some 10, some (9, false), .mov (.t 0)⟩,
    ⟨some 11, some (9, false), .bin .gtr (.t 10) (.c (.int .i64 64))⟩,
    ⟨some 12, none, .pick (.t 9) (.c (.bool true)) (.t 11)⟩]
    [0, 1, 12])
  (.cond (.t 12)
    (.seq (.region [⟨some 4, none, .mov (.c (.int .i64 1))⟩]
      [4])
    .ret)
    .skip))
  (.seq (.seq (.region [⟨some 5, none, .mov (.c (.int .i64 0))⟩]
    [0, 1, 5])
  (.block 0
    (.loop [0, 1, 5] RB.ref08_Check_2) []))
  (.seq (.region [⟨some 4, none, .mov (.c (.int .i64 0))⟩]
    [4])
  .ret))))⟩

def RB.order_Check_1 : RCode :=
  (.seq (.region [⟨some 23, none, .bin .lss (.t 22) (.t 21)⟩]
    [0, 5, 20, 21, 22, 23])
  (.seq (.cond (.t 23)
    .skip
    (.exit 0))
  (.seq (.block 1
    (.seq (.region [⟨some 24, none, .idxS 2 (.t 20) (.t 22)⟩,
      ⟨some 25, none, .load true 2 (.t 24)⟩,
      ⟨some 7, none, .alloc [(.int .i64 0), (.int .i64 0)]⟩,
      ⟨none, none, .store 2 (.t 7) (.t 25)⟩]
      [0, 5, 7, 20, 21, 22])
    (.seq (.seq (.region [⟨some 27, none, .fieldAddr 0 (.t 7)⟩,
      ⟨some 28, none, .load false 1 (.t 27)⟩,
      ⟨some 29, none, .call F.order_Kind [.t 28]⟩,
      ⟨some 26, none, .mov (.t 29)⟩,
      ⟨some 30, none, .ext 0 (.t 26)⟩,
      ⟨some 31, none, .ext 1 (.t 26)⟩,
      ⟨some 32, none, .ext 2 (.t 26)⟩,
      ⟨some 8, none, .mov (.t 30)⟩,
      ⟨some 9, none, .mov (.t 31)⟩,
      ⟨some 10, none, .mov (.t 32)⟩]
      [0, 5, 7, 10, 20, 21, 22])
    (.seq (.region [⟨some 33, none, .mov (.t 10)⟩,
      ⟨some 34, none, .un .not (.t 33)⟩]
      [0, 5, 7, 20, 21, 22, 34])
    (.cond (.t 34)
      (.seq (.region [⟨some 4, none, .mov (.c (.int .i64 20))⟩]
        [4])
      .ret)
      .skip)))
    (.seq (.seq (.region [⟨some 35, none, .fieldAddr 1 (.t 7)⟩,
      ⟨some 36, none, .load false 1 (.t 35)⟩,
      ⟨some 37, none, .bin .lss (.t 36) (.c (.int .i64 1))⟩,
      ⟨some 38, none, .mov (.t 37)⟩,
      ⟨some 39, some (38, false), .fieldAddr 1 (.t 7)⟩,
      ⟨some 40, some (38, false), .load false 1 (.t 39)⟩,
      ⟨some 41, some (38, false), .mov (.t 0)⟩,
      ⟨some 42, some (38, false), .bin .gtr (.t 40) (.t 41)⟩,
      ⟨some 43, none, .pick (.t 38) (.c (.bool true)) (.t 42)⟩]
      [0, 5, 7, 20, 21, 22, 43])
    (.cond (.t 43)
      (.seq (.region [⟨some 4, none, .mov (.c (.int .i64 21))⟩]
        [4])
      .ret)
      .skip))
    (.seq (.seq (.region [⟨some 45, none, .mov (.t 5)⟩,
      ⟨some 46, none, .fieldAddr 0 (.t 7)⟩,
      ⟨some 47, none, .load false 1 (.t 46)⟩,
      ⟨some 48, none, .look .int (.agg #[]) true (.t 45) (.t 47)⟩,
      ⟨some 44, none, .mov (.t 48)⟩,
      ⟨some 49, none, .ext 0 (.t 44)⟩,
      ⟨some 50, none, .ext 1 (.t 44)⟩,
      ⟨some 11, none, .alloc []⟩,
      ⟨none, none, .store 0 (.t 11) (.t 49)⟩,
      ⟨some 12, none, .mov (.t 50)⟩]
      [0, 5, 7, 12, 20, 21, 22])
    (.seq (.region [⟨some 51, none, .mov (.t 12)⟩]
      [0, 5, 7, 20, 21, 22, 51])
    (.cond (.t 51)
      (.seq (.region [⟨some 4, none, .mov (.c (.int .i64 11))⟩]
        [4])
      .ret)
      .skip)))
    (.region [⟨some 52, none, .mov (.t 5)⟩,
      ⟨some 53, none, .fieldAddr 0 (.t 7)⟩,
      ⟨some 54, none, .load false 1 (.t 53)⟩,
      ⟨some 55, none, .build [] []⟩,
      ⟨none, none, .upd .int (.t 52) (.t 54) (.t 55)⟩]
      [0, 5, 20, 21, 22]))))) [0, 5, 20, 21, 22])
  (.region [⟨some 56, none, .bin .add (.t 22) (.c (.int .i64 1))⟩,
    ⟨some 22, none, .mov (.t 56)⟩]
    [0, 5, 20, 21, 22]))))
def RC.order_Check : RFn := ⟨2, [.slot 4],
  (.seq (.region [⟨some 4, none, .mov (.c (.int .i64 0))⟩]
    [0, 1])
  (.seq (.seq (.region [⟨some 13, none, .mov (.t 0)⟩,
    ⟨some 14, none, .bin .lss (.t 13) (.c (.int .i64 2))⟩,
    ⟨some 15, none, .mov (.t 14)⟩,
    ⟨some 16, some (15, false), .mov (.t 0)⟩,
    ⟨some 17, some (15, false), .bin .gtr (.t 16) (.c (.int .i64 64))⟩,
    ⟨some 18, none, .pick (.t 15) (.c (.bool true)) (.t 17)⟩]
    [0, 1, 18])
  (.cond (.t 18)
    (.seq (.region [⟨some 4, none, .mov (.c (.int .i64 1))⟩]
      [4])
    .ret)
    .skip))
  (.seq (.region [⟨some 19, none, .mkmap⟩,
    ⟨some 5, none, .mov (.t 19)⟩]
    [0, 1, 5])
  (.seq (.seq (.region [⟨some 20, none, .mov (.t 1)⟩,
    ⟨some 21, none, .len (.t 20)⟩,
    ⟨some 22, none, .mov (.c (.int .i64 0))⟩]
    [0, 5, 20, 21, 22])
  (.block 0
    (.loop [0, 5, 20, 21, 22] RB.order_Check_1) []))
  (.seq (.region [⟨some 4, none, .mov (.c (.int .i64 0))⟩]
    [4])
  .ret)))))⟩

def RC.ref41_best : RFn := ⟨4, [.slot 8, .slot 9],
  (.seq (.region [⟨some 8, none, .mov (.c (.slice none 0 0))⟩,
    ⟨some 9, none, .mov (.c (.bool false))⟩]
    [0, 1, 2, 3])
  (.seq (.seq (.region [⟨some 15, none, .mov (.t 2)⟩,
    ⟨some 16, none, .mov (.t 1)⟩,
    ⟨some 17, none, .len (.t 16)⟩,
    ⟨some 18, none, .bin .eql (.t 15) (.t 17)⟩]
    [0, 1, 2, 3, 18])
  (.cond (.t 18)
    (.seq (.region [⟨some 19, none, .mov (.t 3)⟩,
      ⟨some 20, none, .mov (.t 3)⟩,
      ⟨some 21, none, .call F.ref41_Sum [.t 20]⟩,
      ⟨some 22, none, .mov (.t 0)⟩,
      ⟨some 23, none, .bin .geq (.t 21) (.t 22)⟩,
      ⟨some 8, none, .mov (.t 19)⟩,
      ⟨some 9, none, .mov (.t 23)⟩]
      [8, 9])
    .ret)
    .skip))
  (.seq (.region [⟨some 25, none, .mov (.t 0)⟩,
    ⟨some 26, none, .mov (.t 1)⟩,
    ⟨some 27, none, .mov (.t 2)⟩,
    ⟨some 28, none, .bin .add (.t 27) (.c (.int .i64 1))⟩,
    ⟨some 29, none, .mov (.t 3)⟩,
    ⟨some 30, none, .call F.ref41_best [.t 25, .t 26, .t 28, .t 29]⟩,
    ⟨some 24, none, .mov (.t 30)⟩,
    ⟨some 31, none, .ext 0 (.t 24)⟩,
    ⟨some 32, none, .ext 1 (.t 24)⟩,
    ⟨some 10, none, .mov (.t 31)⟩,
    ⟨some 11, none, .mov (.t 32)⟩]
    [0, 1, 2, 3, 10, 11])
  (.seq (.drawn [⟨some 33, none, .bslice [] [] 0 2⟩,
    ⟨some 34, none, .mov (.t 3)⟩,
    ⟨some 35, none, .app 2 16 (.t 33) (.t 34)⟩,
    ⟨some 36, none, .mov (.t 1)⟩,
    ⟨some 37, none, .mov (.t 2)⟩,
    ⟨some 38, none, .idxS 2 (.t 36) (.t 37)⟩,
    ⟨some 39, none, .load true 2 (.t 38)⟩,
    ⟨some 40, none, .bslice [(.int .i64 0), (.int .i64 0)] [(0, 2, .t 39)] 1 2⟩,
    ⟨some 41, none, .app 2 16 (.t 35) (.t 40)⟩,
    ⟨some 12, none, .mov (.t 41)⟩]
    [[], [], [0, 1], [], [], [3, 4], [5], [6], [2, 7, 2], [8, 8, 0, 1, 2, 3, 4, 5, 6, 7, 8]]
    [(1, []), (3, []), (4, []), (5, []), (6, []), (0, []), (2, [38]), (7, []), (8, []), (9, [])]
    [[], [], [0, 1], [], [], [3, 4], [3, 4, 5], [3, 4, 5, 6], [0, 1, 2, 3, 4, 5, 6, 7], [0, 1, 2, 3, 4, 5, 6, 7, 8]]
    [0, 1, 2, 10, 11, 12])
  (.seq (.region [⟨some 43, none, .mov (.t 0)⟩,
    ⟨some 44, none, .mov (.t 1)⟩,
    ⟨some 45, none, .mov (.t 2)⟩,
    ⟨some 46, none, .bin .add (.t 45) (.c (.int .i64 1))⟩,
    ⟨some 47, none, .mov (.t 12)⟩,
    ⟨some 48, none, .call F.ref41_best [.t 43, .t 44, .t 46, .t 47]⟩,
    ⟨some 42, none, .mov (.t 48)⟩,
    ⟨some 49, none, .ext 0 (.t 42)⟩,
    ⟨some 50, none, .ext 1 (.t 42)⟩,
    ⟨some 13, none, .mov (.t 49)⟩,
    ⟨some 14, none, .mov (.t 50)⟩]
    [10, 11, 13, 14])
  (.seq (.seq (.region [⟨some 51, none, .mov (.t 11)⟩,
    ⟨some 52, none, .un .not (.t 51)⟩,
    ⟨some 53, none, .mov (.t 52)⟩,
    ⟨some 54, some (53, false), .mov (.t 14)⟩,
    ⟨some 55, some (53, false), .mov (.t 54)⟩,
    ⟨some 56, some (55, true), .mov (.t 13)⟩,
    ⟨some 57, some (55, true), .mov (.t 10)⟩,
    ⟨some 58, some (55, true), .call F.ref41_Better [.t 56, .t 57]⟩,
    ⟨some 59, some (53, false), .pick (.t 55) (.t 58) (.c (.bool false))⟩,
    ⟨some 60, none, .pick (.t 53) (.c (.bool true)) (.t 59)⟩]
    [10, 11, 13, 14, 60])
  (.cond (.t 60)
    (.seq (.region [⟨some 61, none, .mov (.t 13)⟩,
      ⟨some 62, none, .mov (.t 14)⟩,
      ⟨some 8, none, .mov (.t 61)⟩,
      ⟨some 9, none, .mov (.t 62)⟩]
      [8, 9])
    .ret)
    .skip))
  (.seq (.region [⟨some 63, none, .mov (.t 10)⟩,
    ⟨some 64, none, .mov (.t 11)⟩,
    ⟨some 8, none, .mov (.t 63)⟩,
    ⟨some 9, none, .mov (.t 64)⟩]
    [8, 9])
  .ret)))))))⟩

def RB.ref41_has_1 : RCode :=
  (.seq (.seq (.region [⟨some 6, none, .mov (.t 5)⟩,
    ⟨some 7, none, .mov (.t 0)⟩,
    ⟨some 8, none, .len (.t 7)⟩,
    ⟨some 9, none, .bin .lss (.t 6) (.t 8)⟩]
    [0, 1, 5, 9])
  (.cond (.t 9)
    .skip
    (.exit 0)))
  (.seq (.block 1
    (.seq (.region [⟨some 12, none, .mov (.t 0)⟩,
      ⟨some 13, none, .mov (.t 5)⟩,
      ⟨some 14, none, .idxS 2 (.t 12) (.t 13)⟩,
      ⟨some 15, none, .fieldAddr 0 (.t 14)⟩,
      ⟨some 16, none, .load false 1 (.t 15)⟩,
      ⟨some 17, none, .mov (.t 1)⟩,
      ⟨some 18, none, .bin .eql (.t 16) (.t 17)⟩]
      [0, 1, 5, 18])
    (.cond (.t 18)
      (.seq (.region [⟨some 4, none, .mov (.c (.bool true))⟩]
        [4])
      .ret)
      .skip)) [0, 1, 5])
  (.region [⟨some 10, none, .mov (.t 5)⟩,
    ⟨some 11, none, .bin .add (.t 10) (.c (.int .i64 1))⟩,
    ⟨some 5, none, .mov (.t 11)⟩]
    [0, 1, 5])))
def RC.ref41_has : RFn := ⟨2, [.slot 4],
  (.seq (.region [⟨some 4, none, .mov (.c (.bool false))⟩]
    [0, 1])
  (.seq (.seq (.region [⟨some 5, none, .mov (.c (.int .i64 0))⟩]
    [0, 1, 5])
  (.block 0
    (.loop [0, 1, 5] RB.ref41_has_1) []))
  (.seq (.region [⟨some 4, none, .mov (.c (.bool false))⟩]
    [4])
  .ret)))⟩

def RB.order_Total_1 : RCode :=
  (.seq (.region [⟨some 12, none, .bin .lss (.t 11) (.t 10)⟩]
    [4, 9, 10, 11, 12])
  (.seq (.cond (.t 12)
    .skip
    (.exit 0))
  (.seq (.block 1
    (.seq (.region [⟨some 13, none, .idxS 2 (.t 9) (.t 11)⟩,
      ⟨some 14, none, .load true 2 (.t 13)⟩,
      ⟨some 6, none, .alloc [(.int .i64 0), (.int .i64 0)]⟩,
      ⟨none, none, .store 2 (.t 6) (.t 14)⟩]
      [4, 6, 9, 10, 11])
    (.seq (.region [⟨some 16, none, .mov (.t 4)⟩,
      ⟨some 17, none, .fieldAddr 1 (.t 6)⟩,
      ⟨some 18, none, .load false 1 (.t 17)⟩,
      ⟨some 19, none, .call F.fixq_Add [.t 16, .t 18]⟩,
      ⟨some 15, none, .mov (.t 19)⟩,
      ⟨some 20, none, .ext 0 (.t 15)⟩,
      ⟨some 21, none, .ext 1 (.t 15)⟩,
      ⟨some 7, none, .mov (.t 20)⟩,
      ⟨some 8, none, .mov (.t 21)⟩]
      [7, 8, 9, 10, 11])
    (.seq (.seq (.region [⟨some 22, none, .mov (.t 8)⟩,
      ⟨some 23, none, .bin .neq (.t 22) (.c (.int .i64 0))⟩]
      [7, 8, 9, 10, 11, 23])
    (.cond (.t 23)
      (.seq (.region [⟨some 24, none, .mov (.t 8)⟩,
        ⟨some 2, none, .mov (.c (.int .i64 0))⟩,
        ⟨some 3, none, .mov (.t 24)⟩]
        [2, 3])
      .ret)
      .skip))
    (.region [⟨some 25, none, .mov (.t 7)⟩,
      ⟨some 4, none, .mov (.t 25)⟩]
      [4, 9, 10, 11])))) [4, 9, 10, 11])
  (.region [⟨some 26, none, .bin .add (.t 11) (.c (.int .i64 1))⟩,
    ⟨some 11, none, .mov (.t 26)⟩]
    [4, 9, 10, 11]))))
def RC.order_Total : RFn := ⟨1, [.slot 2, .slot 3],
  (.seq (.region [⟨some 2, none, .mov (.c (.int .i64 0))⟩,
    ⟨some 3, none, .mov (.c (.int .i64 0))⟩]
    [0])
  (.seq (.region [⟨some 4, none, .mov (.c (.int .i64 0))⟩]
    [0, 4])
  (.seq (.seq (.region [⟨some 9, none, .mov (.t 0)⟩,
    ⟨some 10, none, .len (.t 9)⟩,
    ⟨some 11, none, .mov (.c (.int .i64 0))⟩]
    [4, 9, 10, 11])
  (.block 0
    (.loop [4, 9, 10, 11] RB.order_Total_1) [4]))
  (.seq (.region [⟨some 27, none, .mov (.t 4)⟩,
    ⟨some 2, none, .mov (.t 27)⟩,
    ⟨some 3, none, .mov (.c (.int .i64 0))⟩]
    [2, 3])
  .ret))))⟩

def RC.slices_Clone_api_Want_api_Want : RFn := ⟨1, [.slot 2],
  (.seq (.region [⟨some 2, none, .mov (.c (.slice none 0 0))⟩]
    [0])
  (.seq (.seq (.region [⟨some 3, none, .mov (.t 0)⟩,
    ⟨some 4, none, .eq false .slice (.t 3) (.c (.slice none 0 0))⟩]
    [0, 4])
  (.cond (.t 4)
    (.seq (.region [⟨some 2, none, .mov (.c (.slice none 0 0))⟩]
      [2])
    .ret)
    .skip))
  (.seq (.region [⟨some 5, none, .bslice [] [] 0 2⟩,
    ⟨some 6, none, .mov (.t 0)⟩,
    ⟨some 7, none, .app 2 16 (.t 5) (.t 6)⟩,
    ⟨some 2, none, .mov (.t 7)⟩]
    [2])
  .ret)))⟩

def RC.slices_SortFunc_api_Want_api_Want : RFn := ⟨2, [],
  (.seq (.region [⟨some 5, none, .mov (.t 0)⟩,
    ⟨some 6, none, .len (.t 5)⟩,
    ⟨some 4, none, .mov (.t 6)⟩]
    [0, 1, 4])
  (.region [⟨some 7, none, .mov (.t 0)⟩,
    ⟨some 8, none, .mov (.t 4)⟩,
    ⟨some 9, none, .mov (.t 4)⟩,
    ⟨some 10, none, .conv .u64 (.t 9)⟩,
    ⟨some 11, none, .call F.math_bits_Len [.t 10]⟩,
    ⟨some 12, none, .mov (.t 1)⟩,
    ⟨some 13, none, .call F.slices_pdqsortCmpFunc_api_Want [.t 7, .c (.int .i64 0), .t 8, .t 11, .t 12]⟩]
    []))⟩

def RC.shed_choose_1 : RFn := ⟨2, [.slot 4],
  (.seq (.region [⟨some 2, none, .box (.t 0)⟩,
    ⟨some 3, none, .box (.t 1)⟩,
    ⟨some 4, none, .mov (.c (.int .i64 0))⟩]
    [2, 3])
  (.seq (.region [⟨some 5, none, .fieldAddr 0 (.t 2)⟩,
    ⟨some 6, none, .load false 1 (.t 5)⟩,
    ⟨some 7, none, .fieldAddr 0 (.t 3)⟩,
    ⟨some 8, none, .load false 1 (.t 7)⟩,
    ⟨some 9, none, .call F.cmp_Compare_int [.t 6, .t 8]⟩,
    ⟨some 4, none, .mov (.t 9)⟩]
    [4])
  .ret))⟩

def RC.cmp_Compare_int : RFn := ⟨2, [.slot 4],
  (.seq (.region [⟨some 4, none, .mov (.c (.int .i64 0))⟩]
    [0, 1])
  (.seq (.region [⟨some 7, none, .mov (.t 0)⟩,
    ⟨some 8, none, .call F.cmp_isNaN_int [.t 7]⟩,
    ⟨some 5, none, .mov (.t 8)⟩]
    [0, 1, 5])
  (.seq (.region [⟨some 9, none, .mov (.t 1)⟩,
    ⟨some 10, none, .call F.cmp_isNaN_int [.t 9]⟩,
    ⟨some 6, none, .mov (.t 10)⟩]
    [0, 1, 5, 6])
  (.seq (.seq (.region [⟨some 11, none, .mov (.t 5)⟩]
    [0, 1, 6, 11])
  (.cond (.t 11)
    (.seq (.seq (.region [⟨some 12, none, .mov (.t 6)⟩]
      [12])
    (.cond (.t 12)
      (.seq (.region [⟨some 4, none, .mov (.c (.int .i64 0))⟩]
        [4])
      .ret)
      .skip))
    (.seq (.region [⟨some 4, none, .mov (.c (.int .i64 (-1)))⟩]
      [4])
    .ret))
    .skip))
  (.seq (.seq (.region [⟨some 13, none, .mov (.t 6)⟩]
    [0, 1, 13])
  (.cond (.t 13)
    (.seq (.region [⟨some 4, none, .mov (.c (.int .i64 1))⟩]
      [4])
    .ret)
    .skip))
  (.seq (.seq (.region [⟨some 14, none, .mov (.t 0)⟩,
    ⟨some 15, none, .mov (.t 1)⟩,
    ⟨some 16, none, .bin .lss (.t 14) (.t 15)⟩]
    [0, 1, 16])
  (.cond (.t 16)
    (.seq (.region [⟨some 4, none, .mov (.c (.int .i64 (-1)))⟩]
      [4])
    .ret)
    .skip))
  (.seq (.seq (.region [⟨some 17, none, .mov (.t 0)⟩,
    ⟨some 18, none, .mov (.t 1)⟩,
    ⟨some 19, none, .bin .gtr (.t 17) (.t 18)⟩]
    [19])
  (.cond (.t 19)
    (.seq (.region [⟨some 4, none, .mov (.c (.int .i64 1))⟩]
      [4])
    .ret)
    .skip))
  (.seq (.region [⟨some 4, none, .mov (.c (.int .i64 0))⟩]
    [4])
  .ret))))))))⟩

def RB.shed_sums_1 : RCode :=
  (.seq (.seq (.region [⟨some 25, none, .mov (.t 8)⟩,
    ⟨some 26, none, .fieldAddr 1 (.t 7)⟩,
    ⟨some 27, none, .load false 1 (.t 26)⟩,
    ⟨some 28, none, .bin .geq (.t 25) (.t 27)⟩]
    [1, 5, 6, 7, 8, 17, 18, 19, 28])
  (.cond (.t 28)
    .skip
    (.exit 2)))
  (.seq (.block 3
    (.seq (.region [⟨some 31, none, .mov (.t 5)⟩,
      ⟨some 32, none, .mov (.t 8)⟩,
      ⟨some 33, none, .fieldAddr 1 (.t 7)⟩,
      ⟨some 34, none, .load false 1 (.t 33)⟩,
      ⟨some 35, none, .bin .sub (.t 32) (.t 34)⟩,
      ⟨some 36, none, .idxS 3 (.t 31) (.t 35)⟩,
      ⟨some 37, none, .load true 3 (.t 36)⟩,
      ⟨some 9, none, .alloc [(.bool false), (.int .i64 0), (u64 0#64)]⟩,
      ⟨none, none, .store 3 (.t 9) (.t 37)⟩]
      [1, 5, 6, 7, 8, 9, 17, 18, 19])
    (.seq (.seq (.region [⟨some 38, none, .fieldAddr 0 (.t 9)⟩,
      ⟨some 39, none, .load false 1 (.t 38)⟩,
      ⟨some 40, none, .un .not (.t 39)⟩]
      [1, 5, 6, 7, 8, 9, 17, 18, 19, 40])
    (.cond (.t 40)
      (.exit 3)
      .skip))
    (.seq (.drawn [⟨some 41, none, .fieldAddr 1 (.t 9)⟩,
      ⟨some 42, none, .load false 1 (.t 41)⟩,
      ⟨some 43, none, .bin .add (.t 42) (.c (.int .i64 1))⟩,
      ⟨some 44, none, .fieldAddr 2 (.t 9)⟩,
      ⟨some 45, none, .load false 1 (.t 44)⟩,
      ⟨some 46, none, .mov (.t 6)⟩,
      ⟨some 47, none, .bin .sub (.c (.int .i64 63)) (.t 46)⟩,
      ⟨some 48, none, .bin .shl (.c (u64 1#64)) (.t 47)⟩,
      ⟨some 49, none, .bin .or (.t 45) (.t 48)⟩,
      ⟨some 50, none, .build [(.bool false), (.int .i64 0), (u64 0#64)] [(0, 1, .c (.bool true)), (1, 1, .t 43), (2, 1, .t 49)]⟩,
      ⟨some 10, none, .alloc [(.bool false), (.int .i64 0), (u64 0#64)]⟩,
      ⟨none, none, .store 3 (.t 10) (.t 50)⟩]
      [[], [0], [1], [], [3], [], [5], [6], [4, 7], [2, 8], [], [10, 9, 0, 1, 2, 3, 4, 5, 6, 7, 8, 9, 10]]
      [(0, []), (3, []), (5, []), (6, []), (7, []), (1, []), (2, []), (4, []), (8, []), (9, []), (10, []), (11, [])]
      [[], [0], [0, 1], [], [3], [], [5], [5, 6], [3, 4, 5, 6, 7], [0, 1, 2, 3, 4, 5, 6, 7, 8], [], [0, 1, 2, 3, 4, 5, 6, 7, 8, 9, 10]]
      [1, 5, 6, 7, 8, 10, 17, 18, 19])
    (.seq (.drawn [⟨some 51, none, .load true 3 (.t 10)⟩,
      ⟨some 52, none, .mov (.t 5)⟩,
      ⟨some 53, none, .mov (.t 8)⟩,
      ⟨some 54, none, .idxS 3 (.t 52) (.t 53)⟩,
      ⟨some 55, none, .load true 3 (.t 54)⟩,
      ⟨some 56, none, .call F.shed_choice_better [.t 51, .t 55]⟩]
      [[], [], [], [1, 2], [3], [0, 4]]
      [(1, []), (2, []), (3, []), (0, []), (4, []), (5, [])]
      [[], [], [], [1, 2], [1, 2, 3], [0, 1, 2, 3, 4]]
      [1, 5, 6, 7, 8, 10, 17, 18, 19, 56])
    (.cond (.t 56)
      (.region [⟨some 57, none, .mov (.t 5)⟩,
        ⟨some 58, none, .mov (.t 8)⟩,
        ⟨some 59, none, .load true 3 (.t 10)⟩,
        ⟨some 60, none, .idxS 3 (.t 57) (.t 58)⟩,
        ⟨none, none, .store 3 (.t 60) (.t 59)⟩]
        [1, 5, 6, 7, 8, 17, 18, 19])
      .skip))))) [1, 5, 6, 7, 8, 17, 18, 19])
  (.region [⟨some 29, none, .mov (.t 8)⟩,
    ⟨some 30, none, .bin .sub (.t 29) (.c (.int .i64 1))⟩,
    ⟨some 8, none, .mov (.t 30)⟩]
    [1, 5, 6, 7, 8, 17, 18, 19])))
def RB.shed_sums_2 : RCode :=
  (.seq (.region [⟨some 20, none, .bin .lss (.t 19) (.t 18)⟩]
    [1, 5, 17, 18, 19, 20])
  (.seq (.cond (.t 20)
    .skip
    (.exit 0))
  (.seq (.block 1
    (.seq (.region [⟨some 21, none, .mov (.t 19)⟩,
      ⟨some 22, none, .idxS 2 (.t 17) (.t 19)⟩,
      ⟨some 23, none, .load true 2 (.t 22)⟩,
      ⟨some 7, none, .alloc [(.int .i64 0), (.int .i64 0)]⟩,
      ⟨some 6, none, .mov (.t 21)⟩,
      ⟨none, none, .store 2 (.t 7) (.t 23)⟩]
      [1, 5, 6, 7, 17, 18, 19])
    (.seq (.region [⟨some 24, none, .mov (.t 1)⟩,
      ⟨some 8, none, .mov (.t 24)⟩]
      [1, 5, 6, 7, 8, 17, 18, 19])
    (.block 2
      (.loop [1, 5, 6, 7, 8, 17, 18, 19] RB.shed_sums_1) [1, 5, 17, 18, 19]))) [1, 5, 17, 18, 19])
  (.region [⟨some 61, none, .bin .add (.t 19) (.c (.int .i64 1))⟩,
    ⟨some 19, none, .mov (.t 61)⟩]
    [1, 5, 17, 18, 19]))))
def RC.shed_sums : RFn := ⟨2, [.slot 4],
  (.seq (.region [⟨some 4, none, .mov (.c (.slice none 0 0))⟩]
    [0, 1])
  (.seq (.region [⟨some 11, none, .mov (.t 1)⟩,
    ⟨some 12, none, .bin .add (.t 11) (.c (.int .i64 1))⟩,
    ⟨some 13, none, .mkslice 3 24 [(.bool false), (.int .i64 0), (u64 0#64)] (.t 12) (.t 12)⟩,
    ⟨some 5, none, .mov (.t 13)⟩]
    [0, 1, 5])
  (.seq (.region [⟨some 14, none, .mov (.t 5)⟩,
    ⟨some 15, none, .build [(.bool false), (.int .i64 0), (u64 0#64)] [(0, 1, .c (.bool true))]⟩,
    ⟨some 16, none, .idxS 3 (.t 14) (.c (.int .i64 0))⟩,
    ⟨none, none, .store 3 (.t 16) (.t 15)⟩]
    [0, 1, 5])
  (.seq (.seq (.region [⟨some 17, none, .mov (.t 0)⟩,
    ⟨some 18, none, .len (.t 17)⟩,
    ⟨some 19, none, .mov (.c (.int .i64 0))⟩]
    [1, 5, 17, 18, 19])
  (.block 0
    (.loop [1, 5, 17, 18, 19] RB.shed_sums_2) [5]))
  (.seq (.region [⟨some 62, none, .mov (.t 5)⟩,
    ⟨some 4, none, .mov (.t 62)⟩]
    [4])
  .ret)))))⟩

def RC.ref08_Is : RFn := ⟨1, [.slot 2],
  (.seq (.region [⟨some 2, none, .mov (.c (.bool false))⟩]
    [0])
  (.seq (.region [⟨some 3, none, .mov (.t 0)⟩,
    ⟨some 4, none, .bin .geq (.t 3) (.c (.int .i64 1))⟩,
    ⟨some 5, none, .mov (.t 4)⟩,
    ⟨some 6, some (5, true), .mov (.t 0)⟩,
    ⟨some 7, some (5, true), .bin .leq (.t 6) (.c (.int .i64 200))⟩,
    ⟨some 8, none, .pick (.t 5) (.t 7) (.c (.bool false))⟩,
    ⟨some 9, none, .mov (.t 8)⟩,
    ⟨some 10, some (9, false), .mov (.t 0)⟩,
    ⟨some 11, some (9, false), .bin .geq (.t 10) (.c (.int .i64 1001))⟩,
    ⟨some 12, some (9, false), .mov (.t 11)⟩,
    ⟨some 13, some (12, true), .mov (.t 0)⟩,
    ⟨some 14, some (12, true), .bin .leq (.t 13) (.c (.int .i64 1040))⟩,
    ⟨some 15, some (9, false), .pick (.t 12) (.t 14) (.c (.bool false))⟩,
    ⟨some 16, none, .pick (.t 9) (.c (.bool true)) (.t 15)⟩,
    ⟨some 2, none, .mov (.t 16)⟩]
    [2])
  .ret))⟩

def RC.order_Kind : RFn := ⟨1, [.slot 2, .slot 3, .slot 4],
  (.seq (.region [⟨some 2, none, .mov (.c (.int .i64 0))⟩,
    ⟨some 3, none, .mov (.c (.bool false))⟩,
    ⟨some 4, none, .mov (.c (.bool false))⟩]
    [0])
  (.seq (.block 0
    (.seq (.region [⟨some 6, none, .mov (.t 0)⟩,
      ⟨some 7, none, .bin .geq (.t 6) (.c (.int .i64 1))⟩,
      ⟨some 8, none, .mov (.t 7)⟩,
      ⟨some 9, some (8, true), .mov (.t 0)⟩,
      ⟨some 10, some (8, true), .bin .leq (.t 9) (.c (.int .i64 200))⟩,
      ⟨some 11, none, .pick (.t 8) (.t 10) (.c (.bool false))⟩,
      ⟨some 5, none, .mov (.t 11)⟩]
      [0, 5])
    (.cond (.t 5)
      (.seq (.region [⟨some 12, none, .mov (.t 0)⟩,
        ⟨some 2, none, .mov (.t 12)⟩,
        ⟨some 3, none, .mov (.c (.bool false))⟩,
        ⟨some 4, none, .mov (.c (.bool true))⟩]
        [2, 3, 4])
      .ret)
      (.seq (.region [⟨some 14, none, .mov (.t 0)⟩,
        ⟨some 15, none, .bin .gtr (.t 14) (.c (.int .i64 1000))⟩,
        ⟨some 16, none, .mov (.t 15)⟩,
        ⟨some 17, some (16, true), .mov (.t 0)⟩,
        ⟨some 18, some (16, true), .bin .leq (.t 17) (.c (.int .i64 1040))⟩,
        ⟨some 19, none, .pick (.t 16) (.t 18) (.c (.bool false))⟩,
        ⟨some 13, none, .mov (.t 19)⟩]
        [0, 13])
      (.cond (.t 13)
        (.seq (.region [⟨some 20, none, .mov (.t 0)⟩,
          ⟨some 21, none, .bin .sub (.t 20) (.c (.int .i64 1000))⟩,
          ⟨some 2, none, .mov (.t 21)⟩,
          ⟨some 3, none, .mov (.c (.bool true))⟩,
          ⟨some 4, none, .mov (.c (.bool true))⟩]
          [2, 3, 4])
        .ret)
        .skip)))) [])
  (.seq (.region [⟨some 2, none, .mov (.c (.int .i64 0))⟩,
    ⟨some 3, none, .mov (.c (.bool false))⟩,
    ⟨some 4, none, .mov (.c (.bool false))⟩]
    [2, 3, 4])
  .ret)))⟩

def RB.ref41_Better_1 : RCode :=
  (.seq (.seq (.region [⟨some 26, none, .mov (.t 5)⟩,
    ⟨some 27, none, .bin .leq (.t 26) (.c (.int .i64 1040))⟩]
    [0, 1, 5, 27])
  (.cond (.t 27)
    .skip
    (.exit 0)))
  (.seq (.block 1
    (.seq (.region [⟨some 30, none, .mov (.t 0)⟩,
      ⟨some 31, none, .mov (.t 5)⟩,
      ⟨some 32, none, .call F.ref41_has [.t 30, .t 31]⟩,
      ⟨some 33, none, .mov (.t 1)⟩,
      ⟨some 34, none, .mov (.t 5)⟩,
      ⟨some 35, none, .call F.ref41_has [.t 33, .t 34]⟩,
      ⟨some 36, none, .eq true .bool (.t 32) (.t 35)⟩]
      [0, 1, 5, 36])
    (.cond (.t 36)
      (.seq (.region [⟨some 37, none, .mov (.t 0)⟩,
        ⟨some 38, none, .mov (.t 5)⟩,
        ⟨some 39, none, .call F.ref41_has [.t 37, .t 38]⟩,
        ⟨some 4, none, .mov (.t 39)⟩]
        [4])
      .ret)
      .skip)) [0, 1, 5])
  (.region [⟨some 28, none, .mov (.t 5)⟩,
    ⟨some 29, none, .bin .add (.t 28) (.c (.int .i64 1))⟩,
    ⟨some 5, none, .mov (.t 29)⟩]
    [0, 1, 5])))
def RC.ref41_Better : RFn := ⟨2, [.slot 4],
  (.seq (.region [⟨some 4, none, .mov (.c (.bool false))⟩]
    [0, 1])
  (.seq (.seq (.region [⟨some 6, none, .mov (.t 0)⟩,
    ⟨some 7, none, .call F.ref41_Sum [.t 6]⟩,
    ⟨some 8, none, .mov (.t 1)⟩,
    ⟨some 9, none, .call F.ref41_Sum [.t 8]⟩,
    ⟨some 10, none, .bin .neq (.t 7) (.t 9)⟩]
    [0, 1, 10])
  (.cond (.t 10)
    (.seq (.region [⟨some 11, none, .mov (.t 0)⟩,
      ⟨some 12, none, .call F.ref41_Sum [.t 11]⟩,
      ⟨some 13, none, .mov (.t 1)⟩,
      ⟨some 14, none, .call F.ref41_Sum [.t 13]⟩,
      ⟨some 15, none, .bin .lss (.t 12) (.t 14)⟩,
      ⟨some 4, none, .mov (.t 15)⟩]
      [4])
    .ret)
    .skip))
  (.seq (.seq (.region [⟨some 16, none, .mov (.t 0)⟩,
    ⟨some 17, none, .len (.t 16)⟩,
    ⟨some 18, none, .mov (.t 1)⟩,
    ⟨some 19, none, .len (.t 18)⟩,
    ⟨some 20, none, .bin .neq (.t 17) (.t 19)⟩]
    [0, 1, 20])
  (.cond (.t 20)
    (.seq (.region [⟨some 21, none, .mov (.t 0)⟩,
      ⟨some 22, none, .len (.t 21)⟩,
      ⟨some 23, none, .mov (.t 1)⟩,
      ⟨some 24, none, .len (.t 23)⟩,
      ⟨some 25, none, .bin .lss (.t 22) (.t 24)⟩,
      ⟨some 4, none, .mov (.t 25)⟩]
      [4])
    .ret)
    .skip))
  (.seq (.seq (.region [⟨some 5, none, .mov (.c (.int .i64 1))⟩]
    [0, 1, 5])
  (.block 0
    (.loop [0, 1, 5] RB.ref41_Better_1) []))
  (.seq (.region [⟨some 4, none, .mov (.c (.bool false))⟩]
    [4])
  .ret)))))⟩

def RC.fixq_Add : RFn := ⟨2, [.slot 4, .slot 5],
  (.seq (.region [⟨some 4, none, .mov (.c (.int .i64 0))⟩,
    ⟨some 5, none, .mov (.c (.int .i64 0))⟩]
    [0, 1])
  (.seq (.region [⟨some 7, none, .mov (.t 0)⟩,
    ⟨some 8, none, .mov (.t 1)⟩,
    ⟨some 9, none, .bin .add (.t 7) (.t 8)⟩,
    ⟨some 6, none, .mov (.t 9)⟩]
    [0, 1, 6])
  (.seq (.seq (.region [⟨some 10, none, .mov (.t 0)⟩,
    ⟨some 11, none, .bin .geq (.t 10) (.c (.int .i64 0))⟩,
    ⟨some 12, none, .mov (.t 1)⟩,
    ⟨some 13, none, .bin .geq (.t 12) (.c (.int .i64 0))⟩,
    ⟨some 14, none, .eq false .bool (.t 11) (.t 13)⟩,
    ⟨some 15, none, .mov (.t 14)⟩,
    ⟨some 16, some (15, true), .mov (.t 6)⟩,
    ⟨some 17, some (15, true), .bin .geq (.t 16) (.c (.int .i64 0))⟩,
    ⟨some 18, some (15, true), .mov (.t 0)⟩,
    ⟨some 19, some (15, true), .bin .geq (.t 18) (.c (.int .i64 0))⟩,
    ⟨some 20, some (15, true), .eq true .bool (.t 17) (.t 19)⟩,
    ⟨some 21, none, .pick (.t 15) (.t 20) (.c (.bool false))⟩]
    [6, 21])
  (.cond (.t 21)
    (.seq (.region [⟨some 4, none, .mov (.c (.int .i64 0))⟩,
      ⟨some 5, none, .mov (.c (.int .i64 5))⟩]
      [4, 5])
    .ret)
    .skip))
  (.seq (.region [⟨some 22, none, .mov (.t 6)⟩,
    ⟨some 4, none, .mov (.t 22)⟩,
    ⟨some 5, none, .mov (.c (.int .i64 0))⟩]
    [4, 5])
  .ret))))⟩

def RB.slices_pdqsortCmpFunc_api_Want_1 : RCode :=
  (.block 1
    (.seq (.region [⟨some 21, none, .mov (.t 2)⟩,
      ⟨some 22, none, .mov (.t 1)⟩,
      ⟨some 23, none, .bin .sub (.t 21) (.t 22)⟩,
      ⟨some 12, none, .mov (.t 23)⟩]
      [0, 1, 2, 3, 4, 10, 11, 12])
    (.seq (.seq (.region [⟨some 24, none, .mov (.t 12)⟩,
      ⟨some 25, none, .bin .leq (.t 24) (.c (.int .i64 12))⟩]
      [0, 1, 2, 3, 4, 10, 11, 12, 25])
    (.cond (.t 25)
      (.seq (.region [⟨some 26, none, .mov (.t 0)⟩,
        ⟨some 27, none, .mov (.t 1)⟩,
        ⟨some 28, none, .mov (.t 2)⟩,
        ⟨some 29, none, .mov (.t 4)⟩,
        ⟨some 30, none, .call F.slices_insertionSortCmpFunc_api_Want [.t 26, .t 27, .t 28, .t 29]⟩]
        [])
      .ret)
      .skip))
    (.seq (.seq (.region [⟨some 31, none, .mov (.t 3)⟩,
      ⟨some 32, none, .bin .eql (.t 31) (.c (.int .i64 0))⟩]
      [0, 1, 2, 3, 4, 10, 11, 12, 32])
    (.cond (.t 32)
      (.seq (.region [⟨some 33, none, .mov (.t 0)⟩,
        ⟨some 34, none, .mov (.t 1)⟩,
        ⟨some 35, none, .mov (.t 2)⟩,
        ⟨some 36, none, .mov (.t 4)⟩,
        ⟨some 37, none, .call F.slices_heapSortCmpFunc_api_Want [.t 33, .t 34, .t 35, .t 36]⟩]
        [])
      .ret)
      .skip))
    (.seq (.seq (.region [⟨some 38, none, .mov (.t 10)⟩,
      ⟨some 39, none, .un .not (.t 38)⟩]
      [0, 1, 2, 3, 4, 10, 11, 12, 39])
    (.cond (.t 39)
      (.seq (.region [⟨some 40, none, .mov (.t 0)⟩,
        ⟨some 41, none, .mov (.t 1)⟩,
        ⟨some 42, none, .mov (.t 2)⟩,
        ⟨some 43, none, .mov (.t 4)⟩,
        ⟨some 44, none, .call F.slices_breakPatternsCmpFunc_api_Want [.t 40, .t 41, .t 42, .t 43]⟩]
        [0, 1, 2, 3, 4, 10, 11, 12])
      (.region [⟨some 45, none, .mov (.t 3)⟩,
        ⟨some 46, none, .bin .sub (.t 45) (.c (.int .i64 1))⟩,
        ⟨some 3, none, .mov (.t 46)⟩]
        [0, 1, 2, 3, 4, 10, 11, 12]))
      .skip))
    (.seq (.region [⟨some 48, none, .mov (.t 0)⟩,
      ⟨some 49, none, .mov (.t 1)⟩,
      ⟨some 50, none, .mov (.t 2)⟩,
      ⟨some 51, none, .mov (.t 4)⟩,
      ⟨some 52, none, .call F.slices_choosePivotCmpFunc_api_Want [.t 48, .t 49, .t 50, .t 51]⟩,
      ⟨some 47, none, .mov (.t 52)⟩,
      ⟨some 53, none, .ext 0 (.t 47)⟩,
      ⟨some 54, none, .ext 1 (.t 47)⟩,
      ⟨some 13, none, .mov (.t 53)⟩,
      ⟨some 14, none, .mov (.t 54)⟩]
      [0, 1, 2, 3, 4, 10, 11, 12, 13, 14])
    (.seq (.seq (.region [⟨some 55, none, .mov (.t 14)⟩,
      ⟨some 56, none, .bin .eql (.t 55) (.c (.int .i64 2))⟩]
      [0, 1, 2, 3, 4, 10, 11, 12, 13, 14, 56])
    (.cond (.t 56)
      (.seq (.region [⟨some 57, none, .mov (.t 0)⟩,
        ⟨some 58, none, .mov (.t 1)⟩,
        ⟨some 59, none, .mov (.t 2)⟩,
        ⟨some 60, none, .mov (.t 4)⟩,
        ⟨some 61, none, .call F.slices_reverseRangeCmpFunc_api_Want [.t 57, .t 58, .t 59, .t 60]⟩]
        [0, 1, 2, 3, 4, 10, 11, 12, 13])
      (.seq (.region [⟨some 62, none, .mov (.t 2)⟩,
        ⟨some 63, none, .bin .sub (.t 62) (.c (.int .i64 1))⟩,
        ⟨some 64, none, .mov (.t 13)⟩,
        ⟨some 65, none, .mov (.t 1)⟩,
        ⟨some 66, none, .bin .sub (.t 64) (.t 65)⟩,
        ⟨some 67, none, .bin .sub (.t 63) (.t 66)⟩,
        ⟨some 13, none, .mov (.t 67)⟩]
        [0, 1, 2, 3, 4, 10, 11, 12, 13])
      (.region [⟨some 14, none, .mov (.c (.int .i64 1))⟩]
        [0, 1, 2, 3, 4, 10, 11, 12, 13, 14])))
      .skip))
    (.seq (.seq (.region [⟨some 68, none, .mov (.t 10)⟩,
      ⟨some 69, none, .mov (.t 68)⟩,
      ⟨some 70, some (69, true), .mov (.t 11)⟩,
      ⟨some 71, none, .pick (.t 69) (.t 70) (.c (.bool false))⟩,
      ⟨some 72, none, .mov (.t 71)⟩,
      ⟨some 73, some (72, true), .mov (.t 14)⟩,
      ⟨some 74, some (72, true), .bin .eql (.t 73) (.c (.int .i64 1))⟩,
      ⟨some 75, none, .pick (.t 72) (.t 74) (.c (.bool false))⟩]
      [0, 1, 2, 3, 4, 10, 11, 12, 13, 75])
    (.cond (.t 75)
      (.seq (.region [⟨some 76, none, .mov (.t 0)⟩,
        ⟨some 77, none, .mov (.t 1)⟩,
        ⟨some 78, none, .mov (.t 2)⟩,
        ⟨some 79, none, .mov (.t 4)⟩,
        ⟨some 80, none, .call F.slices_partialInsertionSortCmpFunc_api_Want [.t 76, .t 77, .t 78, .t 79]⟩]
        [0, 1, 2, 3, 4, 10, 11, 12, 13, 80])
      (.cond (.t 80)
        .ret
        .skip))
      .skip))
    (.seq (.seq (.drawn [⟨some 81, none, .mov (.t 1)⟩,
      ⟨some 82, none, .bin .gtr (.t 81) (.c (.int .i64 0))⟩,
      ⟨some 83, none, .mov (.t 82)⟩,
      ⟨some 84, some (83, true), .mov (.t 4)⟩,
      ⟨some 85, some (83, true), .mov (.t 0)⟩,
      ⟨some 86, some (83, true), .mov (.t 1)⟩,
      ⟨some 87, some (83, true), .bin .sub (.t 86) (.c (.int .i64 1))⟩,
      ⟨some 88, some (83, true), .idxS 2 (.t 85) (.t 87)⟩,
      ⟨some 89, some (83, true), .load true 2 (.t 88)⟩,
      ⟨some 90, some (83, true), .mov (.t 0)⟩,
      ⟨some 91, some (83, true), .mov (.t 13)⟩,
      ⟨some 92, some (83, true), .idxS 2 (.t 90) (.t 91)⟩,
      ⟨some 93, some (83, true), .load true 2 (.t 92)⟩,
      ⟨some 94, some (83, true), .callv (.t 84) [.t 89, .t 93]⟩,
      ⟨some 95, some (83, true), .bin .lss (.t 94) (.c (.int .i64 0))⟩,
      ⟨some 96, some (83, true), .un .not (.t 95)⟩,
      ⟨some 97, none, .pick (.t 83) (.t 96) (.c (.bool false))⟩]
      [[], [0], [1], [2], [2], [2], [5, 2], [4, 6, 2], [7, 2], [2], [2], [9, 10, 2], [11, 2], [3, 8, 12, 2, 2], [13, 2], [14, 2], [2, 15]]
      [(0, []), (1, []), (2, []), (3, []), (4, []), (5, []), (6, []), (7, []), (9, []), (10, []), (11, []), (8, []), (12, []), (13, []), (14, []), (15, []), (16, [])]
      [[], [0], [0, 1], [0, 1, 2], [0, 1, 2], [0, 1, 2], [0, 1, 2, 5], [0, 1, 2, 4, 5, 6], [0, 1, 2, 4, 5, 6, 7], [0, 1, 2], [0, 1, 2], [0, 1, 2, 9, 10], [0, 1, 2, 9, 10, 11], [0, 1, 2, 3, 4, 5, 6, 7, 8, 9, 10, 11, 12], [0, 1, 2, 3, 4, 5, 6, 7, 8, 9, 10, 11, 12, 13], [0, 1, 2, 3, 4, 5, 6, 7, 8, 9, 10, 11, 12, 13, 14], [0, 1, 2, 3, 4, 5, 6, 7, 8, 9, 10, 11, 12, 13, 14, 15]]
      [0, 1, 2, 3, 4, 10, 11, 12, 13, 97])
    (.cond (.t 97)
      (.seq (.region [⟨some 98, none, .mov (.t 0)⟩,
        ⟨some 99, none, .mov (.t 1)⟩,
        ⟨some 100, none, .mov (.t 2)⟩,
        ⟨some 101, none, .mov (.t 13)⟩,
        ⟨some 102, none, .mov (.t 4)⟩,
        ⟨some 103, none, .call F.slices_partitionEqualCmpFunc_api_Want [.t 98, .t 99, .t 100, .t 101, .t 102]⟩,
        ⟨some 15, none, .mov (.t 103)⟩]
        [0, 2, 3, 4, 10, 11, 15])
      (.seq (.region [⟨some 104, none, .mov (.t 15)⟩,
        ⟨some 1, none, .mov (.t 104)⟩]
        [0, 1, 2, 3, 4, 10, 11])
      (.exit 1)))
      .skip))
    (.seq (.region [⟨some 106, none, .mov (.t 0)⟩,
      ⟨some 107, none, .mov (.t 1)⟩,
      ⟨some 108, none, .mov (.t 2)⟩,
      ⟨some 109, none, .mov (.t 13)⟩,
      ⟨some 110, none, .mov (.t 4)⟩,
      ⟨some 111, none, .call F.slices_partitionCmpFunc_api_Want [.t 106, .t 107, .t 108, .t 109, .t 110]⟩,
      ⟨some 105, none, .mov (.t 111)⟩,
      ⟨some 112, none, .ext 0 (.t 105)⟩,
      ⟨some 113, none, .ext 1 (.t 105)⟩,
      ⟨some 16, none, .mov (.t 112)⟩,
      ⟨some 17, none, .mov (.t 113)⟩]
      [0, 1, 2, 3, 4, 12, 16, 17])
    (.seq (.region [⟨some 114, none, .mov (.t 17)⟩,
      ⟨some 11, none, .mov (.t 114)⟩]
      [0, 1, 2, 3, 4, 11, 12, 16])
    (.seq (.region [⟨some 115, none, .mov (.t 16)⟩,
      ⟨some 116, none, .mov (.t 1)⟩,
      ⟨some 117, none, .bin .sub (.t 115) (.t 116)⟩,
      ⟨some 118, none, .mov (.t 2)⟩,
      ⟨some 119, none, .mov (.t 16)⟩,
      ⟨some 120, none, .bin .sub (.t 118) (.t 119)⟩,
      ⟨some 18, none, .mov (.t 117)⟩,
      ⟨some 19, none, .mov (.t 120)⟩]
      [0, 1, 2, 3, 4, 11, 12, 16, 18, 19])
    (.seq (.region [⟨some 121, none, .mov (.t 12)⟩,
      ⟨some 122, none, .bin .quo (.t 121) (.c (.int .i64 8))⟩,
      ⟨some 20, none, .mov (.t 122)⟩]
      [0, 1, 2, 3, 4, 11, 16, 18, 19, 20])
    (.seq (.region [⟨some 123, none, .mov (.t 18)⟩,
      ⟨some 124, none, .mov (.t 19)⟩,
      ⟨some 125, none, .bin .lss (.t 123) (.t 124)⟩]
      [0, 1, 2, 3, 4, 11, 16, 18, 19, 20, 125])
    (.cond (.t 125)
      (.seq (.region [⟨some 126, none, .mov (.t 18)⟩,
        ⟨some 127, none, .mov (.t 20)⟩,
        ⟨some 128, none, .bin .geq (.t 126) (.t 127)⟩,
        ⟨some 10, none, .mov (.t 128)⟩]
        [0, 1, 2, 3, 4, 10, 11, 16])
      (.seq (.region [⟨some 129, none, .mov (.t 0)⟩,
        ⟨some 130, none, .mov (.t 1)⟩,
        ⟨some 131, none, .mov (.t 16)⟩,
        ⟨some 132, none, .mov (.t 3)⟩,
        ⟨some 133, none, .mov (.t 4)⟩,
        ⟨some 134, none, .call F.slices_pdqsortCmpFunc_api_Want [.t 129, .t 130, .t 131, .t 132, .t 133]⟩]
        [0, 2, 3, 4, 10, 11, 16])
      (.region [⟨some 135, none, .mov (.t 16)⟩,
        ⟨some 136, none, .bin .add (.t 135) (.c (.int .i64 1))⟩,
        ⟨some 1, none, .mov (.t 136)⟩]
        [0, 1, 2, 3, 4, 10, 11])))
      (.seq (.region [⟨some 137, none, .mov (.t 19)⟩,
        ⟨some 138, none, .mov (.t 20)⟩,
        ⟨some 139, none, .bin .geq (.t 137) (.t 138)⟩,
        ⟨some 10, none, .mov (.t 139)⟩]
        [0, 1, 2, 3, 4, 10, 11, 16])
      (.seq (.region [⟨some 140, none, .mov (.t 0)⟩,
        ⟨some 141, none, .mov (.t 16)⟩,
        ⟨some 142, none, .bin .add (.t 141) (.c (.int .i64 1))⟩,
        ⟨some 143, none, .mov (.t 2)⟩,
        ⟨some 144, none, .mov (.t 3)⟩,
        ⟨some 145, none, .mov (.t 4)⟩,
        ⟨some 146, none, .call F.slices_pdqsortCmpFunc_api_Want [.t 140, .t 142, .t 143, .t 144, .t 145]⟩]
        [0, 1, 3, 4, 10, 11, 16])
      (.region [⟨some 147, none, .mov (.t 16)⟩,
        ⟨some 2, none, .mov (.t 147)⟩]
        [0, 1, 2, 3, 4, 10, 11]))))))))))))))))) [0, 1, 2, 3, 4, 10, 11])
def RC.slices_pdqsortCmpFunc_api_Want : RFn := ⟨5, [],
  (.seq (.region [⟨some 10, none, .mov (.c (.bool true))⟩]
    [0, 1, 2, 3, 4, 10])
  (.seq (.region [⟨some 11, none, .mov (.c (.bool true))⟩]
    [0, 1, 2, 3, 4, 10, 11])
  (.block 0
    (.loop [0, 1, 2, 3, 4, 10, 11] RB.slices_pdqsortCmpFunc_api_Want_1) [])))⟩

def RC.math_bits_Len : RFn := ⟨1, [.slot 2],
  (.seq (.region [⟨some 2, none, .mov (.c (.int .i64 0))⟩]
    [0])
  (.seq (.cond (.c (.bool false))
    (.seq (.region [⟨some 3, none, .mov (.t 0)⟩,
      ⟨some 4, none, .conv .u32 (.t 3)⟩,
      ⟨some 5, none, .call F.math_bits_Len32 [.t 4]⟩,
      ⟨some 2, none, .mov (.t 5)⟩]
      [2])
    .ret)
    .skip)
  (.seq (.region [⟨some 6, none, .mov (.t 0)⟩,
    ⟨some 7, none, .call F.math_bits_Len64 [.t 6]⟩,
    ⟨some 2, none, .mov (.t 7)⟩]
    [2])
  .ret)))⟩

def RC.cmp_isNaN_int : RFn := ⟨1, [.slot 2],
  (.seq (.region [⟨some 2, none, .mov (.c (.bool false))⟩]
    [0])
  (.seq (.region [⟨some 3, none, .mov (.t 0)⟩,
    ⟨some 4, none, .mov (.t 0)⟩,
    ⟨some 5, none, .bin .neq (.t 3) (.t 4)⟩,
    ⟨some 2, none, .mov (.t 5)⟩]
    [2])
  .ret))⟩

def RC.shed_choice_better : RFn := ⟨2, [.slot 4],
  (.seq (.region [⟨some 2, none, .box (.t 0)⟩,
    ⟨some 3, none, .box (.t 1)⟩,
    ⟨some 4, none, .mov (.c (.bool false))⟩]
    [2, 3])
  (.seq (.seq (.region [⟨some 5, none, .fieldAddr 0 (.t 3)⟩,
    ⟨some 6, none, .load false 1 (.t 5)⟩,
    ⟨some 7, none, .un .not (.t 6)⟩]
    [2, 3, 7])
  (.cond (.t 7)
    (.seq (.region [⟨some 4, none, .mov (.c (.bool true))⟩]
      [4])
    .ret)
    .skip))
  (.seq (.drawn [⟨some 8, none, .fieldAddr 1 (.t 2)⟩,
    ⟨some 9, none, .load false 1 (.t 8)⟩,
    ⟨some 10, none, .fieldAddr 1 (.t 3)⟩,
    ⟨some 11, none, .load false 1 (.t 10)⟩,
    ⟨some 12, none, .call F.cmp_Compare_int [.t 9, .t 11]⟩,
    ⟨some 13, none, .fieldAddr 2 (.t 3)⟩,
    ⟨some 14, none, .load false 1 (.t 13)⟩,
    ⟨some 15, none, .fieldAddr 2 (.t 2)⟩,
    ⟨some 16, none, .load false 1 (.t 15)⟩,
    ⟨some 17, none, .call F.cmp_Compare_uint64 [.t 14, .t 16]⟩,
    ⟨some 18, none, .bslice [(.int .i64 0), (.int .i64 0)] [(0, 1, .t 12), (1, 1, .t 17)] 2 1⟩,
    ⟨some 19, none, .call F.cmp_Or_int [.t 18]⟩,
    ⟨some 20, none, .bin .lss (.t 19) (.c (.int .i64 0))⟩,
    ⟨some 4, none, .mov (.t 20)⟩]
    [[], [0], [], [2], [1, 3], [], [5], [], [7], [6, 8, 4], [4, 9], [10, 9], [11], [12, 11, 0, 1, 2, 3, 4, 5, 6, 7, 8, 9, 10, 11, 12]]
    [(0, []), (2, []), (5, []), (7, []), (1, []), (3, []), (6, []), (8, []), (4, [13, 15]), (9, []), (10, []), (11, []), (12, []), (13, [])]
    [[], [0], [], [2], [0, 1, 2, 3], [], [5], [], [7], [0, 1, 2, 3, 4, 5, 6, 7, 8], [0, 1, 2, 3, 4, 5, 6, 7, 8, 9], [0, 1, 2, 3, 4, 5, 6, 7, 8, 9, 10], [0, 1, 2, 3, 4, 5, 6, 7, 8, 9, 10, 11], [0, 1, 2, 3, 4, 5, 6, 7, 8, 9, 10, 11, 12]]
    [4])
  .ret)))⟩

def RB.slices_insertionSortCmpFunc_api_Want_1 : RCode :=
  (.seq (.seq (.drawn [⟨some 18, none, .mov (.t 9)⟩,
    ⟨some 19, none, .mov (.t 1)⟩,
    ⟨some 20, none, .bin .gtr (.t 18) (.t 19)⟩,
    ⟨some 21, none, .mov (.t 20)⟩,
    ⟨some 22, some (21, true), .mov (.t 3)⟩,
    ⟨some 23, some (21, true), .mov (.t 0)⟩,
    ⟨some 24, some (21, true), .mov (.t 9)⟩,
    ⟨some 25, some (21, true), .idxS 2 (.t 23) (.t 24)⟩,
    ⟨some 26, some (21, true), .load true 2 (.t 25)⟩,
    ⟨some 27, some (21, true), .mov (.t 0)⟩,
    ⟨some 28, some (21, true), .mov (.t 9)⟩,
    ⟨some 29, some (21, true), .bin .sub (.t 28) (.c (.int .i64 1))⟩,
    ⟨some 30, some (21, true), .idxS 2 (.t 27) (.t 29)⟩,
    ⟨some 31, some (21, true), .load true 2 (.t 30)⟩,
    ⟨some 32, some (21, true), .callv (.t 22) [.t 26, .t 31]⟩,
    ⟨some 33, some (21, true), .bin .lss (.t 32) (.c (.int .i64 0))⟩,
    ⟨some 34, none, .pick (.t 21) (.t 33) (.c (.bool false))⟩]
    [[], [], [0, 1], [2], [3], [3], [3], [5, 6, 3], [7, 3], [3], [3], [10, 3], [9, 11, 3], [12, 3], [4, 8, 13, 3, 3], [14, 3], [3, 15]]
    [(0, []), (1, []), (2, []), (3, []), (4, []), (5, []), (6, []), (7, []), (9, []), (10, []), (11, []), (12, []), (8, []), (13, []), (14, []), (15, []), (16, [])]
    [[], [], [0, 1], [0, 1, 2], [0, 1, 2, 3], [0, 1, 2, 3], [0, 1, 2, 3], [0, 1, 2, 3, 5, 6], [0, 1, 2, 3, 5, 6, 7], [0, 1, 2, 3], [0, 1, 2, 3], [0, 1, 2, 3, 10], [0, 1, 2, 3, 9, 10, 11], [0, 1, 2, 3, 9, 10, 11, 12], [0, 1, 2, 3, 4, 5, 6, 7, 8, 9, 10, 11, 12, 13], [0, 1, 2, 3, 4, 5, 6, 7, 8, 9, 10, 11, 12, 13, 14], [0, 1, 2, 3, 4, 5, 6, 7, 8, 9, 10, 11, 12, 13, 14, 15]]
    [0, 1, 2, 3, 8, 9, 34])
  (.cond (.t 34)
    .skip
    (.exit 2)))
  (.seq (.block 3
    (.drawn [⟨some 37, none, .mov (.t 0)⟩,
      ⟨some 38, none, .mov (.t 9)⟩,
      ⟨some 39, none, .mov (.t 0)⟩,
      ⟨some 40, none, .mov (.t 9)⟩,
      ⟨some 41, none, .bin .sub (.t 40) (.c (.int .i64 1))⟩,
      ⟨some 42, none, .mov (.t 0)⟩,
      ⟨some 43, none, .mov (.t 9)⟩,
      ⟨some 44, none, .bin .sub (.t 43) (.c (.int .i64 1))⟩,
      ⟨some 45, none, .idxS 2 (.t 42) (.t 44)⟩,
      ⟨some 46, none, .load true 2 (.t 45)⟩,
      ⟨some 47, none, .mov (.t 0)⟩,
      ⟨some 48, none, .mov (.t 9)⟩,
      ⟨some 49, none, .idxS 2 (.t 47) (.t 48)⟩,
      ⟨some 50, none, .load true 2 (.t 49)⟩,
      ⟨some 51, none, .idxS 2 (.t 37) (.t 38)⟩,
      ⟨none, none, .store 2 (.t 51) (.t 46)⟩,
      ⟨some 52, none, .idxS 2 (.t 39) (.t 41)⟩,
      ⟨none, none, .store 2 (.t 52) (.t 50)⟩]
      [[], [], [], [], [3], [], [], [6], [5, 7], [8], [], [], [10, 11], [12], [0, 1, 0, 1, 5, 6, 7, 8, 9, 13], [14, 9, 0, 1, 5, 6, 7, 8, 9, 13], [2, 4, 0, 1, 2, 3, 4, 5, 6, 7, 8, 9, 10, 11, 12, 13, 14, 15], [16, 13, 15, 0, 1, 2, 3, 4, 5, 6, 7, 8, 9, 10, 11, 12, 13, 14, 15]]
      [(0, []), (1, []), (2, []), (3, []), (4, []), (5, []), (6, []), (7, []), (8, []), (10, []), (11, []), (12, []), (9, []), (13, []), (14, []), (15, []), (16, []), (17, [])]
      [[], [], [], [], [3], [], [], [6], [5, 6, 7], [5, 6, 7, 8], [], [], [10, 11], [10, 11, 12], [0, 1, 5, 6, 7, 8, 9, 10, 11, 12, 13], [0, 1, 5, 6, 7, 8, 9, 10, 11, 12, 13, 14], [0, 1, 2, 3, 4, 5, 6, 7, 8, 9, 10, 11, 12, 13, 14, 15], [0, 1, 2, 3, 4, 5, 6, 7, 8, 9, 10, 11, 12, 13, 14, 15, 16]]
      [0, 1, 2, 3, 8, 9]) [0, 1, 2, 3, 8, 9])
  (.region [⟨some 35, none, .mov (.t 9)⟩,
    ⟨some 36, none, .bin .sub (.t 35) (.c (.int .i64 1))⟩,
    ⟨some 9, none, .mov (.t 36)⟩]
    [0, 1, 2, 3, 8, 9])))
def RB.slices_insertionSortCmpFunc_api_Want_2 : RCode :=
  (.seq (.seq (.region [⟨some 12, none, .mov (.t 8)⟩,
    ⟨some 13, none, .mov (.t 2)⟩,
    ⟨some 14, none, .bin .lss (.t 12) (.t 13)⟩]
    [0, 1, 2, 3, 8, 14])
  (.cond (.t 14)
    .skip
    (.exit 0)))
  (.seq (.block 1
    (.seq (.region [⟨some 17, none, .mov (.t 8)⟩,
      ⟨some 9, none, .mov (.t 17)⟩]
      [0, 1, 2, 3, 8, 9])
    (.block 2
      (.loop [0, 1, 2, 3, 8, 9] RB.slices_insertionSortCmpFunc_api_Want_1) [0, 1, 2, 3, 8])) [0, 1, 2, 3, 8])
  (.region [⟨some 15, none, .mov (.t 8)⟩,
    ⟨some 16, none, .bin .add (.t 15) (.c (.int .i64 1))⟩,
    ⟨some 8, none, .mov (.t 16)⟩]
    [0, 1, 2, 3, 8])))
def RC.slices_insertionSortCmpFunc_api_Want : RFn := ⟨4, [],
  (.seq (.region [⟨some 10, none, .mov (.t 1)⟩,
    ⟨some 11, none, .bin .add (.t 10) (.c (.int .i64 1))⟩,
    ⟨some 8, none, .mov (.t 11)⟩]
    [0, 1, 2, 3, 8])
  (.block 0
    (.loop [0, 1, 2, 3, 8] RB.slices_insertionSortCmpFunc_api_Want_2) []))⟩

def RB.slices_heapSortCmpFunc_api_Want_1 : RCode :=
  (.seq (.seq (.region [⟨some 32, none, .mov (.t 12)⟩,
    ⟨some 33, none, .bin .geq (.t 32) (.c (.int .i64 0))⟩]
    [0, 3, 8, 9, 12, 33])
  (.cond (.t 33)
    .skip
    (.exit 2)))
  (.seq (.block 3
    (.seq (.drawn [⟨some 36, none, .mov (.t 0)⟩,
      ⟨some 37, none, .mov (.t 8)⟩,
      ⟨some 38, none, .mov (.t 0)⟩,
      ⟨some 39, none, .mov (.t 8)⟩,
      ⟨some 40, none, .mov (.t 12)⟩,
      ⟨some 41, none, .bin .add (.t 39) (.t 40)⟩,
      ⟨some 42, none, .mov (.t 0)⟩,
      ⟨some 43, none, .mov (.t 8)⟩,
      ⟨some 44, none, .mov (.t 12)⟩,
      ⟨some 45, none, .bin .add (.t 43) (.t 44)⟩,
      ⟨some 46, none, .idxS 2 (.t 42) (.t 45)⟩,
      ⟨some 47, none, .load true 2 (.t 46)⟩,
      ⟨some 48, none, .mov (.t 0)⟩,
      ⟨some 49, none, .mov (.t 8)⟩,
      ⟨some 50, none, .idxS 2 (.t 48) (.t 49)⟩,
      ⟨some 51, none, .load true 2 (.t 50)⟩,
      ⟨some 52, none, .idxS 2 (.t 36) (.t 37)⟩,
      ⟨none, none, .store 2 (.t 52) (.t 47)⟩,
      ⟨some 53, none, .idxS 2 (.t 38) (.t 41)⟩,
      ⟨none, none, .store 2 (.t 53) (.t 51)⟩]
      [[], [], [], [], [], [3, 4], [], [], [], [7, 8], [6, 9], [10], [], [], [12, 13], [14], [0, 1, 0, 1, 6, 7, 8, 9, 10, 11, 15], [16, 11, 0, 1, 6, 7, 8, 9, 10, 11, 15], [2, 5, 0, 1, 2, 3, 4, 5, 6, 7, 8, 9, 10, 11, 12, 13, 14, 15, 16, 17], [18, 15, 17, 0, 1, 2, 3, 4, 5, 6, 7, 8, 9, 10, 11, 12, 13, 14, 15, 16, 17]]
      [(0, []), (1, []), (2, []), (3, []), (4, []), (5, []), (6, []), (7, []), (8, []), (9, []), (10, []), (12, []), (13, []), (14, []), (11, []), (15, []), (16, []), (17, []), (18, []), (19, [])]
      [[], [], [], [], [], [3, 4], [], [], [], [7, 8], [6, 7, 8, 9], [6, 7, 8, 9, 10], [], [], [12, 13], [12, 13, 14], [0, 1, 6, 7, 8, 9, 10, 11, 12, 13, 14, 15], [0, 1, 6, 7, 8, 9, 10, 11, 12, 13, 14, 15, 16], [0, 1, 2, 3, 4, 5, 6, 7, 8, 9, 10, 11, 12, 13, 14, 15, 16, 17], [0, 1, 2, 3, 4, 5, 6, 7, 8, 9, 10, 11, 12, 13, 14, 15, 16, 17, 18]]
      [0, 3, 8, 9, 12])
    (.region [⟨some 54, none, .mov (.t 0)⟩,
      ⟨some 55, none, .mov (.t 9)⟩,
      ⟨some 56, none, .mov (.t 12)⟩,
      ⟨some 57, none, .mov (.t 8)⟩,
      ⟨some 58, none, .mov (.t 3)⟩,
      ⟨some 59, none, .call F.slices_siftDownCmpFunc_api_Want [.t 54, .t 55, .t 56, .t 57, .t 58]⟩]
      [0, 3, 8, 9, 12])) [0, 3, 8, 9, 12])
  (.region [⟨some 34, none, .mov (.t 12)⟩,
    ⟨some 35, none, .bin .sub (.t 34) (.c (.int .i64 1))⟩,
    ⟨some 12, none, .mov (.t 35)⟩]
    [0, 3, 8, 9, 12])))
def RB.slices_heapSortCmpFunc_api_Want_2 : RCode :=
  (.seq (.seq (.region [⟨some 20, none, .mov (.t 11)⟩,
    ⟨some 21, none, .bin .geq (.t 20) (.c (.int .i64 0))⟩]
    [0, 3, 8, 9, 10, 11, 21])
  (.cond (.t 21)
    .skip
    (.exit 0)))
  (.seq (.block 1
    (.region [⟨some 24, none, .mov (.t 0)⟩,
      ⟨some 25, none, .mov (.t 11)⟩,
      ⟨some 26, none, .mov (.t 10)⟩,
      ⟨some 27, none, .mov (.t 8)⟩,
      ⟨some 28, none, .mov (.t 3)⟩,
      ⟨some 29, none, .call F.slices_siftDownCmpFunc_api_Want [.t 24, .t 25, .t 26, .t 27, .t 28]⟩]
      [0, 3, 8, 9, 10, 11]) [0, 3, 8, 9, 10, 11])
  (.region [⟨some 22, none, .mov (.t 11)⟩,
    ⟨some 23, none, .bin .sub (.t 22) (.c (.int .i64 1))⟩,
    ⟨some 11, none, .mov (.t 23)⟩]
    [0, 3, 8, 9, 10, 11])))
def RC.slices_heapSortCmpFunc_api_Want : RFn := ⟨4, [],
  (.seq (.region [⟨some 13, none, .mov (.t 1)⟩,
    ⟨some 8, none, .mov (.t 13)⟩]
    [0, 1, 2, 3, 8])
  (.seq (.region [⟨some 9, none, .mov (.c (.int .i64 0))⟩]
    [0, 1, 2, 3, 8, 9])
  (.seq (.region [⟨some 14, none, .mov (.t 2)⟩,
    ⟨some 15, none, .mov (.t 1)⟩,
    ⟨some 16, none, .bin .sub (.t 14) (.t 15)⟩,
    ⟨some 10, none, .mov (.t 16)⟩]
    [0, 3, 8, 9, 10])
  (.seq (.seq (.region [⟨some 17, none, .mov (.t 10)⟩,
    ⟨some 18, none, .bin .sub (.t 17) (.c (.int .i64 1))⟩,
    ⟨some 19, none, .bin .quo (.t 18) (.c (.int .i64 2))⟩,
    ⟨some 11, none, .mov (.t 19)⟩]
    [0, 3, 8, 9, 10, 11])
  (.block 0
    (.loop [0, 3, 8, 9, 10, 11] RB.slices_heapSortCmpFunc_api_Want_2) [0, 3, 8, 9, 10]))
  (.seq (.region [⟨some 30, none, .mov (.t 10)⟩,
    ⟨some 31, none, .bin .sub (.t 30) (.c (.int .i64 1))⟩,
    ⟨some 12, none, .mov (.t 31)⟩]
    [0, 3, 8, 9, 12])
  (.block 2
    (.loop [0, 3, 8, 9, 12] RB.slices_heapSortCmpFunc_api_Want_1) []))))))⟩

def RB.slices_breakPatternsCmpFunc_api_Want_1 : RCode :=
  (.seq (.seq (.region [⟨some 28, none, .mov (.t 11)⟩,
    ⟨some 29, none, .mov (.t 1)⟩,
    ⟨some 30, none, .mov (.t 8)⟩,
    ⟨some 31, none, .bin .quo (.t 30) (.c (.int .i64 4))⟩,
    ⟨some 32, none, .bin .mul (.t 31) (.c (.int .i64 2))⟩,
    ⟨some 33, none, .bin .add (.t 29) (.t 32)⟩,
    ⟨some 34, none, .bin .add (.t 33) (.c (.int .i64 1))⟩,
    ⟨some 35, none, .bin .leq (.t 28) (.t 34)⟩]
    [0, 1, 8, 9, 10, 11, 35])
  (.cond (.t 35)
    .skip
    (.exit 0)))
  (.seq (.block 1
    (.seq (.region [⟨some 38, none, .call F.slices_xorshift_Next [.t 9]⟩,
      ⟨some 39, none, .mov (.t 10)⟩,
      ⟨some 40, none, .bin .sub (.t 39) (.c (u64 1#64))⟩,
      ⟨some 41, none, .bin .and (.t 38) (.t 40)⟩,
      ⟨some 42, none, .conv .i64 (.t 41)⟩,
      ⟨some 12, none, .mov (.t 42)⟩]
      [0, 1, 8, 9, 10, 11, 12])
    (.seq (.seq (.region [⟨some 43, none, .mov (.t 12)⟩,
      ⟨some 44, none, .mov (.t 8)⟩,
      ⟨some 45, none, .bin .geq (.t 43) (.t 44)⟩]
      [0, 1, 8, 9, 10, 11, 12, 45])
    (.cond (.t 45)
      (.region [⟨some 46, none, .mov (.t 12)⟩,
        ⟨some 47, none, .mov (.t 8)⟩,
        ⟨some 48, none, .bin .sub (.t 46) (.t 47)⟩,
        ⟨some 12, none, .mov (.t 48)⟩]
        [0, 1, 8, 9, 10, 11, 12])
      .skip))
    (.drawn [⟨some 49, none, .mov (.t 0)⟩,
      ⟨some 50, none, .mov (.t 11)⟩,
      ⟨some 51, none, .mov (.t 0)⟩,
      ⟨some 52, none, .mov (.t 1)⟩,
      ⟨some 53, none, .mov (.t 12)⟩,
      ⟨some 54, none, .bin .add (.t 52) (.t 53)⟩,
      ⟨some 55, none, .mov (.t 0)⟩,
      ⟨some 56, none, .mov (.t 1)⟩,
      ⟨some 57, none, .mov (.t 12)⟩,
      ⟨some 58, none, .bin .add (.t 56) (.t 57)⟩,
      ⟨some 59, none, .idxS 2 (.t 55) (.t 58)⟩,
      ⟨some 60, none, .load true 2 (.t 59)⟩,
      ⟨some 61, none, .mov (.t 0)⟩,
      ⟨some 62, none, .mov (.t 11)⟩,
      ⟨some 63, none, .idxS 2 (.t 61) (.t 62)⟩,
      ⟨some 64, none, .load true 2 (.t 63)⟩,
      ⟨some 65, none, .idxS 2 (.t 49) (.t 50)⟩,
      ⟨none, none, .store 2 (.t 65) (.t 60)⟩,
      ⟨some 66, none, .idxS 2 (.t 51) (.t 54)⟩,
      ⟨none, none, .store 2 (.t 66) (.t 64)⟩]
      [[], [], [], [], [], [3, 4], [], [], [], [7, 8], [6, 9], [10], [], [], [12, 13], [14], [0, 1, 0, 1, 6, 7, 8, 9, 10, 11, 15], [16, 11, 0, 1, 6, 7, 8, 9, 10, 11, 15], [2, 5, 0, 1, 2, 3, 4, 5, 6, 7, 8, 9, 10, 11, 12, 13, 14, 15, 16, 17], [18, 15, 17, 0, 1, 2, 3, 4, 5, 6, 7, 8, 9, 10, 11, 12, 13, 14, 15, 16, 17]]
      [(0, []), (1, []), (2, []), (3, []), (4, []), (5, []), (6, []), (7, []), (8, []), (9, []), (10, []), (12, []), (13, []), (14, []), (11, []), (15, []), (16, []), (17, []), (18, []), (19, [])]
      [[], [], [], [], [], [3, 4], [], [], [], [7, 8], [6, 7, 8, 9], [6, 7, 8, 9, 10], [], [], [12, 13], [12, 13, 14], [0, 1, 6, 7, 8, 9, 10, 11, 12, 13, 14, 15], [0, 1, 6, 7, 8, 9, 10, 11, 12, 13, 14, 15, 16], [0, 1, 2, 3, 4, 5, 6, 7, 8, 9, 10, 11, 12, 13, 14, 15, 16, 17], [0, 1, 2, 3, 4, 5, 6, 7, 8, 9, 10, 11, 12, 13, 14, 15, 16, 17, 18]]
      [0, 1, 8, 9, 10, 11]))) [0, 1, 8, 9, 10, 11])
  (.region [⟨some 36, none, .mov (.t 11)⟩,
    ⟨some 37, none, .bin .add (.t 36) (.c (.int .i64 1))⟩,
    ⟨some 11, none, .mov (.t 37)⟩]
    [0, 1, 8, 9, 10, 11])))
def RC.slices_breakPatternsCmpFunc_api_Want : RFn := ⟨4, [],
  (.seq (.region [⟨some 13, none, .mov (.t 2)⟩,
    ⟨some 14, none, .mov (.t 1)⟩,
    ⟨some 15, none, .bin .sub (.t 13) (.t 14)⟩,
    ⟨some 8, none, .mov (.t 15)⟩]
    [0, 1, 8])
  (.seq (.region [⟨some 16, none, .mov (.t 8)⟩,
    ⟨some 17, none, .bin .geq (.t 16) (.c (.int .i64 8))⟩]
    [0, 1, 8, 17])
  (.cond (.t 17)
    (.seq (.region [⟨some 18, none, .mov (.t 8)⟩,
      ⟨some 19, none, .conv .u64 (.t 18)⟩,
      ⟨some 9, none, .alloc [(u64 0#64)]⟩,
      ⟨none, none, .store 1 (.t 9) (.t 19)⟩]
      [0, 1, 8, 9])
    (.seq (.region [⟨some 20, none, .mov (.t 8)⟩,
      ⟨some 21, none, .call F.slices_nextPowerOfTwo [.t 20]⟩,
      ⟨some 10, none, .mov (.t 21)⟩]
      [0, 1, 8, 9, 10])
    (.seq (.region [⟨some 22, none, .mov (.t 1)⟩,
      ⟨some 23, none, .mov (.t 8)⟩,
      ⟨some 24, none, .bin .quo (.t 23) (.c (.int .i64 4))⟩,
      ⟨some 25, none, .bin .mul (.t 24) (.c (.int .i64 2))⟩,
      ⟨some 26, none, .bin .add (.t 22) (.t 25)⟩,
      ⟨some 27, none, .bin .sub (.t 26) (.c (.int .i64 1))⟩,
      ⟨some 11, none, .mov (.t 27)⟩]
      [0, 1, 8, 9, 10, 11])
    (.block 0
      (.loop [0, 1, 8, 9, 10, 11] RB.slices_breakPatternsCmpFunc_api_Want_1) []))))
    .skip)))⟩

def RC.slices_choosePivotCmpFunc_api_Want : RFn := ⟨4, [.slot 8, .slot 9],
  (.seq (.region [⟨some 8, none, .mov (.c (.int .i64 0))⟩,
    ⟨some 9, none, .mov (.c (.int .i64 0))⟩]
    [0, 1, 2, 3])
  (.seq (.region [⟨some 15, none, .mov (.t 2)⟩,
    ⟨some 16, none, .mov (.t 1)⟩,
    ⟨some 17, none, .bin .sub (.t 15) (.t 16)⟩,
    ⟨some 10, none, .mov (.t 17)⟩]
    [0, 1, 3, 10])
  (.seq (.region [⟨some 11, none, .alloc [(.int .i64 0)]⟩]
    [0, 1, 3, 10, 11])
  (.seq (.region [⟨some 18, none, .mov (.t 1)⟩,
    ⟨some 19, none, .mov (.t 10)⟩,
    ⟨some 20, none, .bin .quo (.t 19) (.c (.int .i64 4))⟩,
    ⟨some 21, none, .bin .mul (.t 20) (.c (.int .i64 1))⟩,
    ⟨some 22, none, .bin .add (.t 18) (.t 21)⟩,
    ⟨some 12, none, .mov (.t 22)⟩]
    [0, 1, 3, 10, 11, 12])
  (.seq (.region [⟨some 23, none, .mov (.t 1)⟩,
    ⟨some 24, none, .mov (.t 10)⟩,
    ⟨some 25, none, .bin .quo (.t 24) (.c (.int .i64 4))⟩,
    ⟨some 26, none, .bin .mul (.t 25) (.c (.int .i64 2))⟩,
    ⟨some 27, none, .bin .add (.t 23) (.t 26)⟩,
    ⟨some 13, none, .mov (.t 27)⟩]
    [0, 1, 3, 10, 11, 12, 13])
  (.seq (.region [⟨some 28, none, .mov (.t 1)⟩,
    ⟨some 29, none, .mov (.t 10)⟩,
    ⟨some 30, none, .bin .quo (.t 29) (.c (.int .i64 4))⟩,
    ⟨some 31, none, .bin .mul (.t 30) (.c (.int .i64 3))⟩,
    ⟨some 32, none, .bin .add (.t 28) (.t 31)⟩,
    ⟨some 14, none, .mov (.t 32)⟩]
    [0, 3, 10, 11, 12, 13, 14])
  (.seq (.seq (.region [⟨some 33, none, .mov (.t 10)⟩,
    ⟨some 34, none, .bin .geq (.t 33) (.c (.int .i64 8))⟩]
    [0, 3, 10, 11, 12, 13, 14, 34])
  (.cond (.t 34)
    (.seq (.seq (.region [⟨some 35, none, .mov (.t 10)⟩,
      ⟨some 36, none, .bin .geq (.t 35) (.c (.int .i64 50))⟩]
      [0, 3, 11, 12, 13, 14, 36])
    (.cond (.t 36)
      (.seq (.region [⟨some 37, none, .mov (.t 0)⟩,
        ⟨some 38, none, .mov (.t 12)⟩,
        ⟨some 39, none, .mov (.t 3)⟩,
        ⟨some 40, none, .call F.slices_medianAdjacentCmpFunc_api_Want [.t 37, .t 38, .t 11, .t 39]⟩,
        ⟨some 12, none, .mov (.t 40)⟩]
        [0, 3, 11, 12, 13, 14])
      (.seq (.region [⟨some 41, none, .mov (.t 0)⟩,
        ⟨some 42, none, .mov (.t 13)⟩,
        ⟨some 43, none, .mov (.t 3)⟩,
        ⟨some 44, none, .call F.slices_medianAdjacentCmpFunc_api_Want [.t 41, .t 42, .t 11, .t 43]⟩,
        ⟨some 13, none, .mov (.t 44)⟩]
        [0, 3, 11, 12, 13, 14])
      (.region [⟨some 45, none, .mov (.t 0)⟩,
        ⟨some 46, none, .mov (.t 14)⟩,
        ⟨some 47, none, .mov (.t 3)⟩,
        ⟨some 48, none, .call F.slices_medianAdjacentCmpFunc_api_Want [.t 45, .t 46, .t 11, .t 47]⟩,
        ⟨some 14, none, .mov (.t 48)⟩]
        [0, 3, 11, 12, 13, 14])))
      .skip))
    (.region [⟨some 49, none, .mov (.t 0)⟩,
      ⟨some 50, none, .mov (.t 12)⟩,
      ⟨some 51, none, .mov (.t 13)⟩,
      ⟨some 52, none, .mov (.t 14)⟩,
      ⟨some 53, none, .mov (.t 3)⟩,
      ⟨some 54, none, .call F.slices_medianCmpFunc_api_Want [.t 49, .t 50, .t 51, .t 52, .t 11, .t 53]⟩,
      ⟨some 13, none, .mov (.t 54)⟩]
      [11, 13]))
    .skip))
  (.seq (.region [⟨some 55, none, .load false 1 (.t 11)⟩]
    [13, 55])
  (.block 0
    (.seq (.region [⟨some 58, none, .bin .eql (.t 55) (.c (.int .i64 0))⟩,
      ⟨some 57, none, .mov (.t 58)⟩]
      [13, 55, 57])
    (.cond (.t 57)
      (.seq (.region [⟨some 59, none, .mov (.t 13)⟩,
        ⟨some 8, none, .mov (.t 59)⟩,
        ⟨some 9, none, .mov (.c (.int .i64 1))⟩]
        [8, 9])
      .ret)
      (.seq (.region [⟨some 61, none, .bin .eql (.t 55) (.c (.int .i64 12))⟩,
        ⟨some 60, none, .mov (.t 61)⟩]
        [13, 60])
      (.cond (.t 60)
        (.seq (.region [⟨some 62, none, .mov (.t 13)⟩,
          ⟨some 8, none, .mov (.t 62)⟩,
          ⟨some 9, none, .mov (.c (.int .i64 2))⟩]
          [8, 9])
        .ret)
        (.seq (.region [⟨some 56, none, .mov (.t 13)⟩,
          ⟨some 8, none, .mov (.t 56)⟩,
          ⟨some 9, none, .mov (.c (.int .i64 0))⟩]
          [8, 9])
        .ret))))) [8, 9])))))))))⟩

def RB.slices_reverseRangeCmpFunc_api_Want_1 : RCode :=
  (.seq (.seq (.region [⟨some 13, none, .mov (.t 8)⟩,
    ⟨some 14, none, .mov (.t 9)⟩,
    ⟨some 15, none, .bin .lss (.t 13) (.t 14)⟩]
    [0, 8, 9, 15])
  (.cond (.t 15)
    .skip
    (.exit 0)))
  (.block 1
    (.seq (.drawn [⟨some 16, none, .mov (.t 0)⟩,
      ⟨some 17, none, .mov (.t 8)⟩,
      ⟨some 18, none, .mov (.t 0)⟩,
      ⟨some 19, none, .mov (.t 9)⟩,
      ⟨some 20, none, .mov (.t 0)⟩,
      ⟨some 21, none, .mov (.t 9)⟩,
      ⟨some 22, none, .idxS 2 (.t 20) (.t 21)⟩,
      ⟨some 23, none, .load true 2 (.t 22)⟩,
      ⟨some 24, none, .mov (.t 0)⟩,
      ⟨some 25, none, .mov (.t 8)⟩,
      ⟨some 26, none, .idxS 2 (.t 24) (.t 25)⟩,
      ⟨some 27, none, .load true 2 (.t 26)⟩,
      ⟨some 28, none, .idxS 2 (.t 16) (.t 17)⟩,
      ⟨none, none, .store 2 (.t 28) (.t 23)⟩,
      ⟨some 29, none, .idxS 2 (.t 18) (.t 19)⟩,
      ⟨none, none, .store 2 (.t 29) (.t 27)⟩]
      [[], [], [], [], [], [], [4, 5], [6], [], [], [8, 9], [10], [0, 1, 0, 1, 4, 5, 6, 7, 11], [12, 7, 0, 1, 4, 5, 6, 7, 11], [2, 3, 0, 1, 2, 3, 4, 5, 6, 7, 8, 9, 10, 11, 12, 13], [14, 11, 13, 0, 1, 2, 3, 4, 5, 6, 7, 8, 9, 10, 11, 12, 13]]
      [(0, []), (1, []), (2, []), (3, []), (4, []), (5, []), (6, []), (8, []), (9, []), (10, []), (7, []), (11, []), (12, []), (13, []), (14, []), (15, [])]
      [[], [], [], [], [], [], [4, 5], [4, 5, 6], [], [], [8, 9], [8, 9, 10], [0, 1, 4, 5, 6, 7, 8, 9, 10, 11], [0, 1, 4, 5, 6, 7, 8, 9, 10, 11, 12], [0, 1, 2, 3, 4, 5, 6, 7, 8, 9, 10, 11, 12, 13], [0, 1, 2, 3, 4, 5, 6, 7, 8, 9, 10, 11, 12, 13, 14]]
      [0, 8, 9])
    (.seq (.region [⟨some 30, none, .mov (.t 8)⟩,
      ⟨some 31, none, .bin .add (.t 30) (.c (.int .i64 1))⟩,
      ⟨some 8, none, .mov (.t 31)⟩]
      [0, 8, 9])
    (.region [⟨some 32, none, .mov (.t 9)⟩,
      ⟨some 33, none, .bin .sub (.t 32) (.c (.int .i64 1))⟩,
      ⟨some 9, none, .mov (.t 33)⟩]
      [0, 8, 9]))) [0, 8, 9]))
def RC.slices_reverseRangeCmpFunc_api_Want : RFn := ⟨4, [],
  (.seq (.region [⟨some 10, none, .mov (.t 1)⟩,
    ⟨some 8, none, .mov (.t 10)⟩]
    [0, 2, 8])
  (.seq (.region [⟨some 11, none, .mov (.t 2)⟩,
    ⟨some 12, none, .bin .sub (.t 11) (.c (.int .i64 1))⟩,
    ⟨some 9, none, .mov (.t 12)⟩]
    [0, 8, 9])
  (.block 0
    (.loop [0, 8, 9] RB.slices_reverseRangeCmpFunc_api_Want_1) [])))⟩

def RB.slices_partialInsertionSortCmpFunc_api_Want_1 : RCode :=
  (.seq (.seq (.region [⟨some 107, none, .mov (.t 12)⟩,
    ⟨some 108, none, .mov (.t 2)⟩,
    ⟨some 109, none, .bin .lss (.t 107) (.t 108)⟩]
    [0, 1, 2, 3, 9, 10, 12, 109])
  (.cond (.t 109)
    .skip
    (.exit 6)))
  (.seq (.block 7
    (.seq (.seq (.drawn [⟨some 112, none, .mov (.t 3)⟩,
      ⟨some 113, none, .mov (.t 0)⟩,
      ⟨some 114, none, .mov (.t 12)⟩,
      ⟨some 115, none, .idxS 2 (.t 113) (.t 114)⟩,
      ⟨some 116, none, .load true 2 (.t 115)⟩,
      ⟨some 117, none, .mov (.t 0)⟩,
      ⟨some 118, none, .mov (.t 12)⟩,
      ⟨some 119, none, .bin .sub (.t 118) (.c (.int .i64 1))⟩,
      ⟨some 120, none, .idxS 2 (.t 117) (.t 119)⟩,
      ⟨some 121, none, .load true 2 (.t 120)⟩,
      ⟨some 122, none, .callv (.t 112) [.t 116, .t 121]⟩,
      ⟨some 123, none, .bin .lss (.t 122) (.c (.int .i64 0))⟩,
      ⟨some 124, none, .un .not (.t 123)⟩]
      [[], [], [], [1, 2], [3], [], [], [6], [5, 7], [8], [0, 4, 9], [10], [11]]
      [(0, []), (1, []), (2, []), (3, []), (5, []), (6, []), (7, []), (8, []), (4, []), (9, []), (10, []), (11, []), (12, [])]
      [[], [], [], [1, 2], [1, 2, 3], [], [], [6], [5, 6, 7], [5, 6, 7, 8], [0, 1, 2, 3, 4, 5, 6, 7, 8, 9], [0, 1, 2, 3, 4, 5, 6, 7, 8, 9, 10], [0, 1, 2, 3, 4, 5, 6, 7, 8, 9, 10, 11]]
      [0, 1, 2, 3, 9, 10, 12, 124])
    (.cond (.t 124)
      (.exit 6)
      .skip))
    (.drawn [⟨some 125, none, .mov (.t 0)⟩,
      ⟨some 126, none, .mov (.t 12)⟩,
      ⟨some 127, none, .mov (.t 0)⟩,
      ⟨some 128, none, .mov (.t 12)⟩,
      ⟨some 129, none, .bin .sub (.t 128) (.c (.int .i64 1))⟩,
      ⟨some 130, none, .mov (.t 0)⟩,
      ⟨some 131, none, .mov (.t 12)⟩,
      ⟨some 132, none, .bin .sub (.t 131) (.c (.int .i64 1))⟩,
      ⟨some 133, none, .idxS 2 (.t 130) (.t 132)⟩,
      ⟨some 134, none, .load true 2 (.t 133)⟩,
      ⟨some 135, none, .mov (.t 0)⟩,
      ⟨some 136, none, .mov (.t 12)⟩,
      ⟨some 137, none, .idxS 2 (.t 135) (.t 136)⟩,
      ⟨some 138, none, .load true 2 (.t 137)⟩,
      ⟨some 139, none, .idxS 2 (.t 125) (.t 126)⟩,
      ⟨none, none, .store 2 (.t 139) (.t 134)⟩,
      ⟨some 140, none, .idxS 2 (.t 127) (.t 129)⟩,
      ⟨none, none, .store 2 (.t 140) (.t 138)⟩]
      [[], [], [], [], [3], [], [], [6], [5, 7], [8], [], [], [10, 11], [12], [0, 1, 0, 1, 5, 6, 7, 8, 9, 13], [14, 9, 0, 1, 5, 6, 7, 8, 9, 13], [2, 4, 0, 1, 2, 3, 4, 5, 6, 7, 8, 9, 10, 11, 12, 13, 14, 15], [16, 13, 15, 0, 1, 2, 3, 4, 5, 6, 7, 8, 9, 10, 11, 12, 13, 14, 15]]
      [(0, []), (1, []), (2, []), (3, []), (4, []), (5, []), (6, []), (7, []), (8, []), (10, []), (11, []), (12, []), (9, []), (13, []), (14, []), (15, []), (16, []), (17, [])]
      [[], [], [], [], [3], [], [], [6], [5, 6, 7], [5, 6, 7, 8], [], [], [10, 11], [10, 11, 12], [0, 1, 5, 6, 7, 8, 9, 10, 11, 12, 13], [0, 1, 5, 6, 7, 8, 9, 10, 11, 12, 13, 14], [0, 1, 2, 3, 4, 5, 6, 7, 8, 9, 10, 11, 12, 13, 14, 15], [0, 1, 2, 3, 4, 5, 6, 7, 8, 9, 10, 11, 12, 13, 14, 15, 16]]
      [0, 1, 2, 3, 9, 10, 12])) [0, 1, 2, 3, 9, 10, 12])
  (.region [⟨some 110, none, .mov (.t 12)⟩,
    ⟨some 111, none, .bin .add (.t 110) (.c (.int .i64 1))⟩,
    ⟨some 12, none, .mov (.t 111)⟩]
    [0, 1, 2, 3, 9, 10, 12])))
def RB.slices_partialInsertionSortCmpFunc_api_Want_2 : RCode :=
  (.seq (.seq (.region [⟨some 68, none, .mov (.t 11)⟩,
    ⟨some 69, none, .bin .geq (.t 68) (.c (.int .i64 1))⟩]
    [0, 1, 2, 3, 9, 10, 11, 69])
  (.cond (.t 69)
    .skip
    (.exit 4)))
  (.seq (.block 5
    (.seq (.seq (.drawn [⟨some 72, none, .mov (.t 3)⟩,
      ⟨some 73, none, .mov (.t 0)⟩,
      ⟨some 74, none, .mov (.t 11)⟩,
      ⟨some 75, none, .idxS 2 (.t 73) (.t 74)⟩,
      ⟨some 76, none, .load true 2 (.t 75)⟩,
      ⟨some 77, none, .mov (.t 0)⟩,
      ⟨some 78, none, .mov (.t 11)⟩,
      ⟨some 79, none, .bin .sub (.t 78) (.c (.int .i64 1))⟩,
      ⟨some 80, none, .idxS 2 (.t 77) (.t 79)⟩,
      ⟨some 81, none, .load true 2 (.t 80)⟩,
      ⟨some 82, none, .callv (.t 72) [.t 76, .t 81]⟩,
      ⟨some 83, none, .bin .lss (.t 82) (.c (.int .i64 0))⟩,
      ⟨some 84, none, .un .not (.t 83)⟩]
      [[], [], [], [1, 2], [3], [], [], [6], [5, 7], [8], [0, 4, 9], [10], [11]]
      [(0, []), (1, []), (2, []), (3, []), (5, []), (6, []), (7, []), (8, []), (4, []), (9, []), (10, []), (11, []), (12, [])]
      [[], [], [], [1, 2], [1, 2, 3], [], [], [6], [5, 6, 7], [5, 6, 7, 8], [0, 1, 2, 3, 4, 5, 6, 7, 8, 9], [0, 1, 2, 3, 4, 5, 6, 7, 8, 9, 10], [0, 1, 2, 3, 4, 5, 6, 7, 8, 9, 10, 11]]
      [0, 1, 2, 3, 9, 10, 11, 84])
    (.cond (.t 84)
      (.exit 4)
      .skip))
    (.drawn [⟨some 85, none, .mov (.t 0)⟩,
      ⟨some 86, none, .mov (.t 11)⟩,
      ⟨some 87, none, .mov (.t 0)⟩,
      ⟨some 88, none, .mov (.t 11)⟩,
      ⟨some 89, none, .bin .sub (.t 88) (.c (.int .i64 1))⟩,
      ⟨some 90, none, .mov (.t 0)⟩,
      ⟨some 91, none, .mov (.t 11)⟩,
      ⟨some 92, none, .bin .sub (.t 91) (.c (.int .i64 1))⟩,
      ⟨some 93, none, .idxS 2 (.t 90) (.t 92)⟩,
      ⟨some 94, none, .load true 2 (.t 93)⟩,
      ⟨some 95, none, .mov (.t 0)⟩,
      ⟨some 96, none, .mov (.t 11)⟩,
      ⟨some 97, none, .idxS 2 (.t 95) (.t 96)⟩,
      ⟨some 98, none, .load true 2 (.t 97)⟩,
      ⟨some 99, none, .idxS 2 (.t 85) (.t 86)⟩,
      ⟨none, none, .store 2 (.t 99) (.t 94)⟩,
      ⟨some 100, none, .idxS 2 (.t 87) (.t 89)⟩,
      ⟨none, none, .store 2 (.t 100) (.t 98)⟩]
      [[], [], [], [], [3], [], [], [6], [5, 7], [8], [], [], [10, 11], [12], [0, 1, 0, 1, 5, 6, 7, 8, 9, 13], [14, 9, 0, 1, 5, 6, 7, 8, 9, 13], [2, 4, 0, 1, 2, 3, 4, 5, 6, 7, 8, 9, 10, 11, 12, 13, 14, 15], [16, 13, 15, 0, 1, 2, 3, 4, 5, 6, 7, 8, 9, 10, 11, 12, 13, 14, 15]]
      [(0, []), (1, []), (2, []), (3, []), (4, []), (5, []), (6, []), (7, []), (8, []), (10, []), (11, []), (12, []), (9, []), (13, []), (14, []), (15, []), (16, []), (17, [])]
      [[], [], [], [], [3], [], [], [6], [5, 6, 7], [5, 6, 7, 8], [], [], [10, 11], [10, 11, 12], [0, 1, 5, 6, 7, 8, 9, 10, 11, 12, 13], [0, 1, 5, 6, 7, 8, 9, 10, 11, 12, 13, 14], [0, 1, 2, 3, 4, 5, 6, 7, 8, 9, 10, 11, 12, 13, 14, 15], [0, 1, 2, 3, 4, 5, 6, 7, 8, 9, 10, 11, 12, 13, 14, 15, 16]]
      [0, 1, 2, 3, 9, 10, 11])) [0, 1, 2, 3, 9, 10, 11])
  (.region [⟨some 70, none, .mov (.t 11)⟩,
    ⟨some 71, none, .bin .sub (.t 70) (.c (.int .i64 1))⟩,
    ⟨some 11, none, .mov (.t 71)⟩]
    [0, 1, 2, 3, 9, 10, 11])))
def RB.slices_partialInsertionSortCmpFunc_api_Want_3 : RCode :=
  (.seq (.seq (.drawn [⟨some 19, none, .mov (.t 9)⟩,
    ⟨some 20, none, .mov (.t 2)⟩,
    ⟨some 21, none, .bin .lss (.t 19) (.t 20)⟩,
    ⟨some 22, none, .mov (.t 21)⟩,
    ⟨some 23, some (22, true), .mov (.t 3)⟩,
    ⟨some 24, some (22, true), .mov (.t 0)⟩,
    ⟨some 25, some (22, true), .mov (.t 9)⟩,
    ⟨some 26, some (22, true), .idxS 2 (.t 24) (.t 25)⟩,
    ⟨some 27, some (22, true), .load true 2 (.t 26)⟩,
    ⟨some 28, some (22, true), .mov (.t 0)⟩,
    ⟨some 29, some (22, true), .mov (.t 9)⟩,
    ⟨some 30, some (22, true), .bin .sub (.t 29) (.c (.int .i64 1))⟩,
    ⟨some 31, some (22, true), .idxS 2 (.t 28) (.t 30)⟩,
    ⟨some 32, some (22, true), .load true 2 (.t 31)⟩,
    ⟨some 33, some (22, true), .callv (.t 23) [.t 27, .t 32]⟩,
    ⟨some 34, some (22, true), .bin .lss (.t 33) (.c (.int .i64 0))⟩,
    ⟨some 35, some (22, true), .un .not (.t 34)⟩,
    ⟨some 36, none, .pick (.t 22) (.t 35) (.c (.bool false))⟩]
    [[], [], [0, 1], [2], [3], [3], [3], [5, 6, 3], [7, 3], [3], [3], [10, 3], [9, 11, 3], [12, 3], [4, 8, 13, 3, 3], [14, 3], [15, 3], [3, 16]]
    [(0, []), (1, []), (2, []), (3, []), (4, []), (5, []), (6, []), (7, []), (9, []), (10, []), (11, []), (12, []), (8, []), (13, []), (14, []), (15, []), (16, []), (17, [])]
    [[], [], [0, 1], [0, 1, 2], [0, 1, 2, 3], [0, 1, 2, 3], [0, 1, 2, 3], [0, 1, 2, 3, 5, 6], [0, 1, 2, 3, 5, 6, 7], [0, 1, 2, 3], [0, 1, 2, 3], [0, 1, 2, 3, 10], [0, 1, 2, 3, 9, 10, 11], [0, 1, 2, 3, 9, 10, 11, 12], [0, 1, 2, 3, 4, 5, 6, 7, 8, 9, 10, 11, 12, 13], [0, 1, 2, 3, 4, 5, 6, 7, 8, 9, 10, 11, 12, 13, 14], [0, 1, 2, 3, 4, 5, 6, 7, 8, 9, 10, 11, 12, 13, 14, 15], [0, 1, 2, 3, 4, 5, 6, 7, 8, 9, 10, 11, 12, 13, 14, 15, 16]]
    [0, 1, 2, 3, 9, 10, 36])
  (.cond (.t 36)
    .skip
    (.exit 2)))
  (.block 3
    (.region [⟨some 37, none, .mov (.t 9)⟩,
      ⟨some 38, none, .bin .add (.t 37) (.c (.int .i64 1))⟩,
      ⟨some 9, none, .mov (.t 38)⟩]
      [0, 1, 2, 3, 9, 10]) [0, 1, 2, 3, 9, 10]))
def RB.slices_partialInsertionSortCmpFunc_api_Want_4 : RCode :=
  (.seq (.seq (.region [⟨some 15, none, .mov (.t 10)⟩,
    ⟨some 16, none, .bin .lss (.t 15) (.c (.int .i64 5))⟩]
    [0, 1, 2, 3, 9, 10, 16])
  (.cond (.t 16)
    .skip
    (.exit 0)))
  (.seq (.block 1
    (.seq (.block 2
      (.loop [0, 1, 2, 3, 9, 10] RB.slices_partialInsertionSortCmpFunc_api_Want_3) [0, 1, 2, 3, 9, 10])
    (.seq (.seq (.region [⟨some 39, none, .mov (.t 9)⟩,
      ⟨some 40, none, .mov (.t 2)⟩,
      ⟨some 41, none, .bin .eql (.t 39) (.t 40)⟩]
      [0, 1, 2, 3, 9, 10, 41])
    (.cond (.t 41)
      (.seq (.region [⟨some 8, none, .mov (.c (.bool true))⟩]
        [8])
      .ret)
      .skip))
    (.seq (.seq (.region [⟨some 42, none, .mov (.t 2)⟩,
      ⟨some 43, none, .mov (.t 1)⟩,
      ⟨some 44, none, .bin .sub (.t 42) (.t 43)⟩,
      ⟨some 45, none, .bin .lss (.t 44) (.c (.int .i64 50))⟩]
      [0, 1, 2, 3, 9, 10, 45])
    (.cond (.t 45)
      (.seq (.region [⟨some 8, none, .mov (.c (.bool false))⟩]
        [8])
      .ret)
      .skip))
    (.seq (.drawn [⟨some 46, none, .mov (.t 0)⟩,
      ⟨some 47, none, .mov (.t 9)⟩,
      ⟨some 48, none, .mov (.t 0)⟩,
      ⟨some 49, none, .mov (.t 9)⟩,
      ⟨some 50, none, .bin .sub (.t 49) (.c (.int .i64 1))⟩,
      ⟨some 51, none, .mov (.t 0)⟩,
      ⟨some 52, none, .mov (.t 9)⟩,
      ⟨some 53, none, .bin .sub (.t 52) (.c (.int .i64 1))⟩,
      ⟨some 54, none, .idxS 2 (.t 51) (.t 53)⟩,
      ⟨some 55, none, .load true 2 (.t 54)⟩,
      ⟨some 56, none, .mov (.t 0)⟩,
      ⟨some 57, none, .mov (.t 9)⟩,
      ⟨some 58, none, .idxS 2 (.t 56) (.t 57)⟩,
      ⟨some 59, none, .load true 2 (.t 58)⟩,
      ⟨some 60, none, .idxS 2 (.t 46) (.t 47)⟩,
      ⟨none, none, .store 2 (.t 60) (.t 55)⟩,
      ⟨some 61, none, .idxS 2 (.t 48) (.t 50)⟩,
      ⟨none, none, .store 2 (.t 61) (.t 59)⟩]
      [[], [], [], [], [3], [], [], [6], [5, 7], [8], [], [], [10, 11], [12], [0, 1, 0, 1, 5, 6, 7, 8, 9, 13], [14, 9, 0, 1, 5, 6, 7, 8, 9, 13], [2, 4, 0, 1, 2, 3, 4, 5, 6, 7, 8, 9, 10, 11, 12, 13, 14, 15], [16, 13, 15, 0, 1, 2, 3, 4, 5, 6, 7, 8, 9, 10, 11, 12, 13, 14, 15]]
      [(0, []), (1, []), (2, []), (3, []), (4, []), (5, []), (6, []), (7, []), (8, []), (10, []), (11, []), (12, []), (9, []), (13, []), (14, []), (15, []), (16, []), (17, [])]
      [[], [], [], [], [3], [], [], [6], [5, 6, 7], [5, 6, 7, 8], [], [], [10, 11], [10, 11, 12], [0, 1, 5, 6, 7, 8, 9, 10, 11, 12, 13], [0, 1, 5, 6, 7, 8, 9, 10, 11, 12, 13, 14], [0, 1, 2, 3, 4, 5, 6, 7, 8, 9, 10, 11, 12, 13, 14, 15], [0, 1, 2, 3, 4, 5, 6, 7, 8, 9, 10, 11, 12, 13, 14, 15, 16]]
      [0, 1, 2, 3, 9, 10])
    (.seq (.seq (.region [⟨some 62, none, .mov (.t 9)⟩,
      ⟨some 63, none, .mov (.t 1)⟩,
      ⟨some 64, none, .bin .sub (.t 62) (.t 63)⟩,
      ⟨some 65, none, .bin .geq (.t 64) (.c (.int .i64 2))⟩]
      [0, 1, 2, 3, 9, 10, 65])
    (.cond (.t 65)
      (.seq (.region [⟨some 66, none, .mov (.t 9)⟩,
        ⟨some 67, none, .bin .sub (.t 66) (.c (.int .i64 1))⟩,
        ⟨some 11, none, .mov (.t 67)⟩]
        [0, 1, 2, 3, 9, 10, 11])
      (.block 4
        (.loop [0, 1, 2, 3, 9, 10, 11] RB.slices_partialInsertionSortCmpFunc_api_Want_2) [0, 1, 2, 3, 9, 10]))
      .skip))
    (.seq (.region [⟨some 101, none, .mov (.t 2)⟩,
      ⟨some 102, none, .mov (.t 9)⟩,
      ⟨some 103, none, .bin .sub (.t 101) (.t 102)⟩,
      ⟨some 104, none, .bin .geq (.t 103) (.c (.int .i64 2))⟩]
      [0, 1, 2, 3, 9, 10, 104])
    (.cond (.t 104)
      (.seq (.region [⟨some 105, none, .mov (.t 9)⟩,
        ⟨some 106, none, .bin .add (.t 105) (.c (.int .i64 1))⟩,
        ⟨some 12, none, .mov (.t 106)⟩]
        [0, 1, 2, 3, 9, 10, 12])
      (.block 6
        (.loop [0, 1, 2, 3, 9, 10, 12] RB.slices_partialInsertionSortCmpFunc_api_Want_1) [0, 1, 2, 3, 9, 10]))
      .skip))))))) [0, 1, 2, 3, 9, 10])
  (.region [⟨some 17, none, .mov (.t 10)⟩,
    ⟨some 18, none, .bin .add (.t 17) (.c (.int .i64 1))⟩,
    ⟨some 10, none, .mov (.t 18)⟩]
    [0, 1, 2, 3, 9, 10])))
def RC.slices_partialInsertionSortCmpFunc_api_Want : RFn := ⟨4, [.slot 8],
  (.seq (.region [⟨some 8, none, .mov (.c (.bool false))⟩]
    [0, 1, 2, 3])
  (.seq (.region [⟨some 13, none, .mov (.t 1)⟩,
    ⟨some 14, none, .bin .add (.t 13) (.c (.int .i64 1))⟩,
    ⟨some 9, none, .mov (.t 14)⟩]
    [0, 1, 2, 3, 9])
  (.seq (.seq (.region [⟨some 10, none, .mov (.c (.int .i64 0))⟩]
    [0, 1, 2, 3, 9, 10])
  (.block 0
    (.loop [0, 1, 2, 3, 9, 10] RB.slices_partialInsertionSortCmpFunc_api_Want_4) []))
  (.seq (.region [⟨some 8, none, .mov (.c (.bool false))⟩]
    [8])
  .ret))))⟩

def RB.slices_partitionEqualCmpFunc_api_Want_1 : RCode :=
  (.seq (.seq (.drawn [⟨some 50, none, .mov (.t 11)⟩,
    ⟨some 51, none, .mov (.t 12)⟩,
    ⟨some 52, none, .bin .leq (.t 50) (.t 51)⟩,
    ⟨some 53, none, .mov (.t 52)⟩,
    ⟨some 54, some (53, true), .mov (.t 4)⟩,
    ⟨some 55, some (53, true), .mov (.t 0)⟩,
    ⟨some 56, some (53, true), .mov (.t 1)⟩,
    ⟨some 57, some (53, true), .idxS 2 (.t 55) (.t 56)⟩,
    ⟨some 58, some (53, true), .load true 2 (.t 57)⟩,
    ⟨some 59, some (53, true), .mov (.t 0)⟩,
    ⟨some 60, some (53, true), .mov (.t 12)⟩,
    ⟨some 61, some (53, true), .idxS 2 (.t 59) (.t 60)⟩,
    ⟨some 62, some (53, true), .load true 2 (.t 61)⟩,
    ⟨some 63, some (53, true), .callv (.t 54) [.t 58, .t 62]⟩,
    ⟨some 64, some (53, true), .bin .lss (.t 63) (.c (.int .i64 0))⟩,
    ⟨some 65, none, .pick (.t 53) (.t 64) (.c (.bool false))⟩]
    [[], [], [0, 1], [2], [3], [3], [3], [5, 6, 3], [7, 3], [3], [3], [9, 10, 3], [11, 3], [4, 8, 12, 3, 3], [13, 3], [3, 14]]
    [(0, []), (1, []), (2, []), (3, []), (4, []), (5, []), (6, []), (7, []), (9, []), (10, []), (11, []), (8, []), (12, []), (13, []), (14, []), (15, [])]
    [[], [], [0, 1], [0, 1, 2], [0, 1, 2, 3], [0, 1, 2, 3], [0, 1, 2, 3], [0, 1, 2, 3, 5, 6], [0, 1, 2, 3, 5, 6, 7], [0, 1, 2, 3], [0, 1, 2, 3], [0, 1, 2, 3, 9, 10], [0, 1, 2, 3, 9, 10, 11], [0, 1, 2, 3, 4, 5, 6, 7, 8, 9, 10, 11, 12], [0, 1, 2, 3, 4, 5, 6, 7, 8, 9, 10, 11, 12, 13], [0, 1, 2, 3, 4, 5, 6, 7, 8, 9, 10, 11, 12, 13, 14]]
    [0, 1, 4, 11, 12, 65])
  (.cond (.t 65)
    .skip
    (.exit 4)))
  (.block 5
    (.region [⟨some 66, none, .mov (.t 12)⟩,
      ⟨some 67, none, .bin .sub (.t 66) (.c (.int .i64 1))⟩,
      ⟨some 12, none, .mov (.t 67)⟩]
      [0, 1, 4, 11, 12]) [0, 1, 4, 11, 12]))
def RB.slices_partitionEqualCmpFunc_api_Want_2 : RCode :=
  (.seq (.seq (.drawn [⟨some 31, none, .mov (.t 11)⟩,
    ⟨some 32, none, .mov (.t 12)⟩,
    ⟨some 33, none, .bin .leq (.t 31) (.t 32)⟩,
    ⟨some 34, none, .mov (.t 33)⟩,
    ⟨some 35, some (34, true), .mov (.t 4)⟩,
    ⟨some 36, some (34, true), .mov (.t 0)⟩,
    ⟨some 37, some (34, true), .mov (.t 1)⟩,
    ⟨some 38, some (34, true), .idxS 2 (.t 36) (.t 37)⟩,
    ⟨some 39, some (34, true), .load true 2 (.t 38)⟩,
    ⟨some 40, some (34, true), .mov (.t 0)⟩,
    ⟨some 41, some (34, true), .mov (.t 11)⟩,
    ⟨some 42, some (34, true), .idxS 2 (.t 40) (.t 41)⟩,
    ⟨some 43, some (34, true), .load true 2 (.t 42)⟩,
    ⟨some 44, some (34, true), .callv (.t 35) [.t 39, .t 43]⟩,
    ⟨some 45, some (34, true), .bin .lss (.t 44) (.c (.int .i64 0))⟩,
    ⟨some 46, some (34, true), .un .not (.t 45)⟩,
    ⟨some 47, none, .pick (.t 34) (.t 46) (.c (.bool false))⟩]
    [[], [], [0, 1], [2], [3], [3], [3], [5, 6, 3], [7, 3], [3], [3], [9, 10, 3], [11, 3], [4, 8, 12, 3, 3], [13, 3], [14, 3], [3, 15]]
    [(0, []), (1, []), (2, []), (3, []), (4, []), (5, []), (6, []), (7, []), (9, []), (10, []), (11, []), (8, []), (12, []), (13, []), (14, []), (15, []), (16, [])]
    [[], [], [0, 1], [0, 1, 2], [0, 1, 2, 3], [0, 1, 2, 3], [0, 1, 2, 3], [0, 1, 2, 3, 5, 6], [0, 1, 2, 3, 5, 6, 7], [0, 1, 2, 3], [0, 1, 2, 3], [0, 1, 2, 3, 9, 10], [0, 1, 2, 3, 9, 10, 11], [0, 1, 2, 3, 4, 5, 6, 7, 8, 9, 10, 11, 12], [0, 1, 2, 3, 4, 5, 6, 7, 8, 9, 10, 11, 12, 13], [0, 1, 2, 3, 4, 5, 6, 7, 8, 9, 10, 11, 12, 13, 14], [0, 1, 2, 3, 4, 5, 6, 7, 8, 9, 10, 11, 12, 13, 14, 15]]
    [0, 1, 4, 11, 12, 47])
  (.cond (.t 47)
    .skip
    (.exit 2)))
  (.block 3
    (.region [⟨some 48, none, .mov (.t 11)⟩,
      ⟨some 49, none, .bin .add (.t 48) (.c (.int .i64 1))⟩,
      ⟨some 11, none, .mov (.t 49)⟩]
      [0, 1, 4, 11, 12]) [0, 1, 4, 11, 12]))
def RB.slices_partitionEqualCmpFunc_api_Want_3 : RCode :=
  (.block 1
    (.seq (.block 2
      (.loop [0, 1, 4, 11, 12] RB.slices_partitionEqualCmpFunc_api_Want_2) [0, 1, 4, 11, 12])
    (.seq (.block 4
      (.loop [0, 1, 4, 11, 12] RB.slices_partitionEqualCmpFunc_api_Want_1) [0, 1, 4, 11, 12])
    (.seq (.seq (.region [⟨some 68, none, .mov (.t 11)⟩,
      ⟨some 69, none, .mov (.t 12)⟩,
      ⟨some 70, none, .bin .gtr (.t 68) (.t 69)⟩]
      [0, 1, 4, 11, 12, 70])
    (.cond (.t 70)
      (.exit 0)
      .skip))
    (.seq (.drawn [⟨some 71, none, .mov (.t 0)⟩,
      ⟨some 72, none, .mov (.t 11)⟩,
      ⟨some 73, none, .mov (.t 0)⟩,
      ⟨some 74, none, .mov (.t 12)⟩,
      ⟨some 75, none, .mov (.t 0)⟩,
      ⟨some 76, none, .mov (.t 12)⟩,
      ⟨some 77, none, .idxS 2 (.t 75) (.t 76)⟩,
      ⟨some 78, none, .load true 2 (.t 77)⟩,
      ⟨some 79, none, .mov (.t 0)⟩,
      ⟨some 80, none, .mov (.t 11)⟩,
      ⟨some 81, none, .idxS 2 (.t 79) (.t 80)⟩,
      ⟨some 82, none, .load true 2 (.t 81)⟩,
      ⟨some 83, none, .idxS 2 (.t 71) (.t 72)⟩,
      ⟨none, none, .store 2 (.t 83) (.t 78)⟩,
      ⟨some 84, none, .idxS 2 (.t 73) (.t 74)⟩,
      ⟨none, none, .store 2 (.t 84) (.t 82)⟩]
      [[], [], [], [], [], [], [4, 5], [6], [], [], [8, 9], [10], [0, 1, 0, 1, 4, 5, 6, 7, 11], [12, 7, 0, 1, 4, 5, 6, 7, 11], [2, 3, 0, 1, 2, 3, 4, 5, 6, 7, 8, 9, 10, 11, 12, 13], [14, 11, 13, 0, 1, 2, 3, 4, 5, 6, 7, 8, 9, 10, 11, 12, 13]]
      [(0, []), (1, []), (2, []), (3, []), (4, []), (5, []), (6, []), (8, []), (9, []), (10, []), (7, []), (11, []), (12, []), (13, []), (14, []), (15, [])]
      [[], [], [], [], [], [], [4, 5], [4, 5, 6], [], [], [8, 9], [8, 9, 10], [0, 1, 4, 5, 6, 7, 8, 9, 10, 11], [0, 1, 4, 5, 6, 7, 8, 9, 10, 11, 12], [0, 1, 2, 3, 4, 5, 6, 7, 8, 9, 10, 11, 12, 13], [0, 1, 2, 3, 4, 5, 6, 7, 8, 9, 10, 11, 12, 13, 14]]
      [0, 1, 4, 11, 12])
    (.seq (.region [⟨some 85, none, .mov (.t 11)⟩,
      ⟨some 86, none, .bin .add (.t 85) (.c (.int .i64 1))⟩,
      ⟨some 11, none, .mov (.t 86)⟩]
      [0, 1, 4, 11, 12])
    (.region [⟨some 87, none, .mov (.t 12)⟩,
      ⟨some 88, none, .bin .sub (.t 87) (.c (.int .i64 1))⟩,
      ⟨some 12, none, .mov (.t 88)⟩]
      [0, 1, 4, 11, 12])))))) [0, 1, 4, 11, 12])
def RC.slices_partitionEqualCmpFunc_api_Want : RFn := ⟨5, [.slot 10],
  (.seq (.region [⟨some 10, none, .mov (.c (.int .i64 0))⟩]
    [0, 1, 2, 3, 4])
  (.seq (.drawn [⟨some 13, none, .mov (.t 0)⟩,
    ⟨some 14, none, .mov (.t 1)⟩,
    ⟨some 15, none, .mov (.t 0)⟩,
    ⟨some 16, none, .mov (.t 3)⟩,
    ⟨some 17, none, .mov (.t 0)⟩,
    ⟨some 18, none, .mov (.t 3)⟩,
    ⟨some 19, none, .idxS 2 (.t 17) (.t 18)⟩,
    ⟨some 20, none, .load true 2 (.t 19)⟩,
    ⟨some 21, none, .mov (.t 0)⟩,
    ⟨some 22, none, .mov (.t 1)⟩,
    ⟨some 23, none, .idxS 2 (.t 21) (.t 22)⟩,
    ⟨some 24, none, .load true 2 (.t 23)⟩,
    ⟨some 25, none, .idxS 2 (.t 13) (.t 14)⟩,
    ⟨none, none, .store 2 (.t 25) (.t 20)⟩,
    ⟨some 26, none, .idxS 2 (.t 15) (.t 16)⟩,
    ⟨none, none, .store 2 (.t 26) (.t 24)⟩]
    [[], [], [], [], [], [], [4, 5], [6], [], [], [8, 9], [10], [0, 1, 0, 1, 4, 5, 6, 7, 11], [12, 7, 0, 1, 4, 5, 6, 7, 11], [2, 3, 0, 1, 2, 3, 4, 5, 6, 7, 8, 9, 10, 11, 12, 13], [14, 11, 13, 0, 1, 2, 3, 4, 5, 6, 7, 8, 9, 10, 11, 12, 13]]
    [(0, []), (1, []), (2, []), (3, []), (4, []), (5, []), (6, []), (8, []), (9, []), (10, []), (7, []), (11, []), (12, []), (13, []), (14, []), (15, [])]
    [[], [], [], [], [], [], [4, 5], [4, 5, 6], [], [], [8, 9], [8, 9, 10], [0, 1, 4, 5, 6, 7, 8, 9, 10, 11], [0, 1, 4, 5, 6, 7, 8, 9, 10, 11, 12], [0, 1, 2, 3, 4, 5, 6, 7, 8, 9, 10, 11, 12, 13], [0, 1, 2, 3, 4, 5, 6, 7, 8, 9, 10, 11, 12, 13, 14]]
    [0, 1, 2, 4])
  (.seq (.region [⟨some 27, none, .mov (.t 1)⟩,
    ⟨some 28, none, .bin .add (.t 27) (.c (.int .i64 1))⟩,
    ⟨some 29, none, .mov (.t 2)⟩,
    ⟨some 30, none, .bin .sub (.t 29) (.c (.int .i64 1))⟩,
    ⟨some 11, none, .mov (.t 28)⟩,
    ⟨some 12, none, .mov (.t 30)⟩]
    [0, 1, 4, 11, 12])
  (.seq (.block 0
    (.loop [0, 1, 4, 11, 12] RB.slices_partitionEqualCmpFunc_api_Want_3) [11])
  (.seq (.region [⟨some 89, none, .mov (.t 11)⟩,
    ⟨some 10, none, .mov (.t 89)⟩]
    [10])
  .ret)))))⟩

def RB.slices_partitionCmpFunc_api_Want_1 : RCode :=
  (.seq (.seq (.drawn [⟨some 123, none, .mov (.t 12)⟩,
    ⟨some 124, none, .mov (.t 13)⟩,
    ⟨some 125, none, .bin .leq (.t 123) (.t 124)⟩,
    ⟨some 126, none, .mov (.t 125)⟩,
    ⟨some 127, some (126, true), .mov (.t 4)⟩,
    ⟨some 128, some (126, true), .mov (.t 0)⟩,
    ⟨some 129, some (126, true), .mov (.t 13)⟩,
    ⟨some 130, some (126, true), .idxS 2 (.t 128) (.t 129)⟩,
    ⟨some 131, some (126, true), .load true 2 (.t 130)⟩,
    ⟨some 132, some (126, true), .mov (.t 0)⟩,
    ⟨some 133, some (126, true), .mov (.t 1)⟩,
    ⟨some 134, some (126, true), .idxS 2 (.t 132) (.t 133)⟩,
    ⟨some 135, some (126, true), .load true 2 (.t 134)⟩,
    ⟨some 136, some (126, true), .callv (.t 127) [.t 131, .t 135]⟩,
    ⟨some 137, some (126, true), .bin .lss (.t 136) (.c (.int .i64 0))⟩,
    ⟨some 138, some (126, true), .un .not (.t 137)⟩,
    ⟨some 139, none, .pick (.t 126) (.t 138) (.c (.bool false))⟩]
    [[], [], [0, 1], [2], [3], [3], [3], [5, 6, 3], [7, 3], [3], [3], [9, 10, 3], [11, 3], [4, 8, 12, 3, 3], [13, 3], [14, 3], [3, 15]]
    [(0, []), (1, []), (2, []), (3, []), (4, []), (5, []), (6, []), (7, []), (9, []), (10, []), (11, []), (8, []), (12, []), (13, []), (14, []), (15, []), (16, [])]
    [[], [], [0, 1], [0, 1, 2], [0, 1, 2, 3], [0, 1, 2, 3], [0, 1, 2, 3], [0, 1, 2, 3, 5, 6], [0, 1, 2, 3, 5, 6, 7], [0, 1, 2, 3], [0, 1, 2, 3], [0, 1, 2, 3, 9, 10], [0, 1, 2, 3, 9, 10, 11], [0, 1, 2, 3, 4, 5, 6, 7, 8, 9, 10, 11, 12], [0, 1, 2, 3, 4, 5, 6, 7, 8, 9, 10, 11, 12, 13], [0, 1, 2, 3, 4, 5, 6, 7, 8, 9, 10, 11, 12, 13, 14], [0, 1, 2, 3, 4, 5, 6, 7, 8, 9, 10, 11, 12, 13, 14, 15]]
    [0, 1, 4, 12, 13, 139])
  (.cond (.t 139)
    .skip
    (.exit 8)))
  (.block 9
    (.region [⟨some 140, none, .mov (.t 13)⟩,
      ⟨some 141, none, .bin .sub (.t 140) (.c (.int .i64 1))⟩,
      ⟨some 13, none, .mov (.t 141)⟩]
      [0, 1, 4, 12, 13]) [0, 1, 4, 12, 13]))
def RB.slices_partitionCmpFunc_api_Want_2 : RCode :=
  (.seq (.seq (.drawn [⟨some 105, none, .mov (.t 12)⟩,
    ⟨some 106, none, .mov (.t 13)⟩,
    ⟨some 107, none, .bin .leq (.t 105) (.t 106)⟩,
    ⟨some 108, none, .mov (.t 107)⟩,
    ⟨some 109, some (108, true), .mov (.t 4)⟩,
    ⟨some 110, some (108, true), .mov (.t 0)⟩,
    ⟨some 111, some (108, true), .mov (.t 12)⟩,
    ⟨some 112, some (108, true), .idxS 2 (.t 110) (.t 111)⟩,
    ⟨some 113, some (108, true), .load true 2 (.t 112)⟩,
    ⟨some 114, some (108, true), .mov (.t 0)⟩,
    ⟨some 115, some (108, true), .mov (.t 1)⟩,
    ⟨some 116, some (108, true), .idxS 2 (.t 114) (.t 115)⟩,
    ⟨some 117, some (108, true), .load true 2 (.t 116)⟩,
    ⟨some 118, some (108, true), .callv (.t 109) [.t 113, .t 117]⟩,
    ⟨some 119, some (108, true), .bin .lss (.t 118) (.c (.int .i64 0))⟩,
    ⟨some 120, none, .pick (.t 108) (.t 119) (.c (.bool false))⟩]
    [[], [], [0, 1], [2], [3], [3], [3], [5, 6, 3], [7, 3], [3], [3], [9, 10, 3], [11, 3], [4, 8, 12, 3, 3], [13, 3], [3, 14]]
    [(0, []), (1, []), (2, []), (3, []), (4, []), (5, []), (6, []), (7, []), (9, []), (10, []), (11, []), (8, []), (12, []), (13, []), (14, []), (15, [])]
    [[], [], [0, 1], [0, 1, 2], [0, 1, 2, 3], [0, 1, 2, 3], [0, 1, 2, 3], [0, 1, 2, 3, 5, 6], [0, 1, 2, 3, 5, 6, 7], [0, 1, 2, 3], [0, 1, 2, 3], [0, 1, 2, 3, 9, 10], [0, 1, 2, 3, 9, 10, 11], [0, 1, 2, 3, 4, 5, 6, 7, 8, 9, 10, 11, 12], [0, 1, 2, 3, 4, 5, 6, 7, 8, 9, 10, 11, 12, 13], [0, 1, 2, 3, 4, 5, 6, 7, 8, 9, 10, 11, 12, 13, 14]]
    [0, 1, 4, 12, 13, 120])
  (.cond (.t 120)
    .skip
    (.exit 6)))
  (.block 7
    (.region [⟨some 121, none, .mov (.t 12)⟩,
      ⟨some 122, none, .bin .add (.t 121) (.c (.int .i64 1))⟩,
      ⟨some 12, none, .mov (.t 122)⟩]
      [0, 1, 4, 12, 13]) [0, 1, 4, 12, 13]))
def RB.slices_partitionCmpFunc_api_Want_3 : RCode :=
  (.block 5
    (.seq (.block 6
      (.loop [0, 1, 4, 12, 13] RB.slices_partitionCmpFunc_api_Want_2) [0, 1, 4, 12, 13])
    (.seq (.block 8
      (.loop [0, 1, 4, 12, 13] RB.slices_partitionCmpFunc_api_Want_1) [0, 1, 4, 12, 13])
    (.seq (.seq (.region [⟨some 142, none, .mov (.t 12)⟩,
      ⟨some 143, none, .mov (.t 13)⟩,
      ⟨some 144, none, .bin .gtr (.t 142) (.t 143)⟩]
      [0, 1, 4, 12, 13, 144])
    (.cond (.t 144)
      (.exit 4)
      .skip))
    (.seq (.drawn [⟨some 145, none, .mov (.t 0)⟩,
      ⟨some 146, none, .mov (.t 12)⟩,
      ⟨some 147, none, .mov (.t 0)⟩,
      ⟨some 148, none, .mov (.t 13)⟩,
      ⟨some 149, none, .mov (.t 0)⟩,
      ⟨some 150, none, .mov (.t 13)⟩,
      ⟨some 151, none, .idxS 2 (.t 149) (.t 150)⟩,
      ⟨some 152, none, .load true 2 (.t 151)⟩,
      ⟨some 153, none, .mov (.t 0)⟩,
      ⟨some 154, none, .mov (.t 12)⟩,
      ⟨some 155, none, .idxS 2 (.t 153) (.t 154)⟩,
      ⟨some 156, none, .load true 2 (.t 155)⟩,
      ⟨some 157, none, .idxS 2 (.t 145) (.t 146)⟩,
      ⟨none, none, .store 2 (.t 157) (.t 152)⟩,
      ⟨some 158, none, .idxS 2 (.t 147) (.t 148)⟩,
      ⟨none, none, .store 2 (.t 158) (.t 156)⟩]
      [[], [], [], [], [], [], [4, 5], [6], [], [], [8, 9], [10], [0, 1, 0, 1, 4, 5, 6, 7, 11], [12, 7, 0, 1, 4, 5, 6, 7, 11], [2, 3, 0, 1, 2, 3, 4, 5, 6, 7, 8, 9, 10, 11, 12, 13], [14, 11, 13, 0, 1, 2, 3, 4, 5, 6, 7, 8, 9, 10, 11, 12, 13]]
      [(0, []), (1, []), (2, []), (3, []), (4, []), (5, []), (6, []), (8, []), (9, []), (10, []), (7, []), (11, []), (12, []), (13, []), (14, []), (15, [])]
      [[], [], [], [], [], [], [4, 5], [4, 5, 6], [], [], [8, 9], [8, 9, 10], [0, 1, 4, 5, 6, 7, 8, 9, 10, 11], [0, 1, 4, 5, 6, 7, 8, 9, 10, 11, 12], [0, 1, 2, 3, 4, 5, 6, 7, 8, 9, 10, 11, 12, 13], [0, 1, 2, 3, 4, 5, 6, 7, 8, 9, 10, 11, 12, 13, 14]]
      [0, 1, 4, 12, 13])
    (.seq (.region [⟨some 159, none, .mov (.t 12)⟩,
      ⟨some 160, none, .bin .add (.t 159) (.c (.int .i64 1))⟩,
      ⟨some 12, none, .mov (.t 160)⟩]
      [0, 1, 4, 12, 13])
    (.region [⟨some 161, none, .mov (.t 13)⟩,
      ⟨some 162, none, .bin .sub (.t 161) (.c (.int .i64 1))⟩,
      ⟨some 13, none, .mov (.t 162)⟩]
      [0, 1, 4, 12, 13])))))) [0, 1, 4, 12, 13])
def RB.slices_partitionCmpFunc_api_Want_4 : RCode :=
  (.seq (.seq (.drawn [⟨some 50, none, .mov (.t 12)⟩,
    ⟨some 51, none, .mov (.t 13)⟩,
    ⟨some 52, none, .bin .leq (.t 50) (.t 51)⟩,
    ⟨some 53, none, .mov (.t 52)⟩,
    ⟨some 54, some (53, true), .mov (.t 4)⟩,
    ⟨some 55, some (53, true), .mov (.t 0)⟩,
    ⟨some 56, some (53, true), .mov (.t 13)⟩,
    ⟨some 57, some (53, true), .idxS 2 (.t 55) (.t 56)⟩,
    ⟨some 58, some (53, true), .load true 2 (.t 57)⟩,
    ⟨some 59, some (53, true), .mov (.t 0)⟩,
    ⟨some 60, some (53, true), .mov (.t 1)⟩,
    ⟨some 61, some (53, true), .idxS 2 (.t 59) (.t 60)⟩,
    ⟨some 62, some (53, true), .load true 2 (.t 61)⟩,
    ⟨some 63, some (53, true), .callv (.t 54) [.t 58, .t 62]⟩,
    ⟨some 64, some (53, true), .bin .lss (.t 63) (.c (.int .i64 0))⟩,
    ⟨some 65, some (53, true), .un .not (.t 64)⟩,
    ⟨some 66, none, .pick (.t 53) (.t 65) (.c (.bool false))⟩]
    [[], [], [0, 1], [2], [3], [3], [3], [5, 6, 3], [7, 3], [3], [3], [9, 10, 3], [11, 3], [4, 8, 12, 3, 3], [13, 3], [14, 3], [3, 15]]
    [(0, []), (1, []), (2, []), (3, []), (4, []), (5, []), (6, []), (7, []), (9, []), (10, []), (11, []), (8, []), (12, []), (13, []), (14, []), (15, []), (16, [])]
    [[], [], [0, 1], [0, 1, 2], [0, 1, 2, 3], [0, 1, 2, 3], [0, 1, 2, 3], [0, 1, 2, 3, 5, 6], [0, 1, 2, 3, 5, 6, 7], [0, 1, 2, 3], [0, 1, 2, 3], [0, 1, 2, 3, 9, 10], [0, 1, 2, 3, 9, 10, 11], [0, 1, 2, 3, 4, 5, 6, 7, 8, 9, 10, 11, 12], [0, 1, 2, 3, 4, 5, 6, 7, 8, 9, 10, 11, 12, 13], [0, 1, 2, 3, 4, 5, 6, 7, 8, 9, 10, 11, 12, 13, 14], [0, 1, 2, 3, 4, 5, 6, 7, 8, 9, 10, 11, 12, 13, 14, 15]]
    [0, 1, 4, 12, 13, 66])
  (.cond (.t 66)
    .skip
    (.exit 2)))
  (.block 3
    (.region [⟨some 67, none, .mov (.t 13)⟩,
      ⟨some 68, none, .bin .sub (.t 67) (.c (.int .i64 1))⟩,
      ⟨some 13, none, .mov (.t 68)⟩]
      [0, 1, 4, 12, 13]) [0, 1, 4, 12, 13]))
def RB.slices_partitionCmpFunc_api_Want_5 : RCode :=
  (.seq (.seq (.drawn [⟨some 32, none, .mov (.t 12)⟩,
    ⟨some 33, none, .mov (.t 13)⟩,
    ⟨some 34, none, .bin .leq (.t 32) (.t 33)⟩,
    ⟨some 35, none, .mov (.t 34)⟩,
    ⟨some 36, some (35, true), .mov (.t 4)⟩,
    ⟨some 37, some (35, true), .mov (.t 0)⟩,
    ⟨some 38, some (35, true), .mov (.t 12)⟩,
    ⟨some 39, some (35, true), .idxS 2 (.t 37) (.t 38)⟩,
    ⟨some 40, some (35, true), .load true 2 (.t 39)⟩,
    ⟨some 41, some (35, true), .mov (.t 0)⟩,
    ⟨some 42, some (35, true), .mov (.t 1)⟩,
    ⟨some 43, some (35, true), .idxS 2 (.t 41) (.t 42)⟩,
    ⟨some 44, some (35, true), .load true 2 (.t 43)⟩,
    ⟨some 45, some (35, true), .callv (.t 36) [.t 40, .t 44]⟩,
    ⟨some 46, some (35, true), .bin .lss (.t 45) (.c (.int .i64 0))⟩,
    ⟨some 47, none, .pick (.t 35) (.t 46) (.c (.bool false))⟩]
    [[], [], [0, 1], [2], [3], [3], [3], [5, 6, 3], [7, 3], [3], [3], [9, 10, 3], [11, 3], [4, 8, 12, 3, 3], [13, 3], [3, 14]]
    [(0, []), (1, []), (2, []), (3, []), (4, []), (5, []), (6, []), (7, []), (9, []), (10, []), (11, []), (8, []), (12, []), (13, []), (14, []), (15, [])]
    [[], [], [0, 1], [0, 1, 2], [0, 1, 2, 3], [0, 1, 2, 3], [0, 1, 2, 3], [0, 1, 2, 3, 5, 6], [0, 1, 2, 3, 5, 6, 7], [0, 1, 2, 3], [0, 1, 2, 3], [0, 1, 2, 3, 9, 10], [0, 1, 2, 3, 9, 10, 11], [0, 1, 2, 3, 4, 5, 6, 7, 8, 9, 10, 11, 12], [0, 1, 2, 3, 4, 5, 6, 7, 8, 9, 10, 11, 12, 13], [0, 1, 2, 3, 4, 5, 6, 7, 8, 9, 10, 11, 12, 13, 14]]
    [0, 1, 4, 12, 13, 47])
  (.cond (.t 47)
    .skip
    (.exit 0)))
  (.block 1
    (.region [⟨some 48, none, .mov (.t 12)⟩,
      ⟨some 49, none, .bin .add (.t 48) (.c (.int .i64 1))⟩,
      ⟨some 12, none, .mov (.t 49)⟩]
      [0, 1, 4, 12, 13]) [0, 1, 4, 12, 13]))
def RC.slices_partitionCmpFunc_api_Want : RFn := ⟨5, [.slot 10, .slot 11],
  (.seq (.region [⟨some 10, none, .mov (.c (.int .i64 0))⟩,
    ⟨some 11, none, .mov (.c (.bool false))⟩]
    [0, 1, 2, 3, 4])
  (.seq (.drawn [⟨some 14, none, .mov (.t 0)⟩,
    ⟨some 15, none, .mov (.t 1)⟩,
    ⟨some 16, none, .mov (.t 0)⟩,
    ⟨some 17, none, .mov (.t 3)⟩,
    ⟨some 18, none, .mov (.t 0)⟩,
    ⟨some 19, none, .mov (.t 3)⟩,
    ⟨some 20, none, .idxS 2 (.t 18) (.t 19)⟩,
    ⟨some 21, none, .load true 2 (.t 20)⟩,
    ⟨some 22, none, .mov (.t 0)⟩,
    ⟨some 23, none, .mov (.t 1)⟩,
    ⟨some 24, none, .idxS 2 (.t 22) (.t 23)⟩,
    ⟨some 25, none, .load true 2 (.t 24)⟩,
    ⟨some 26, none, .idxS 2 (.t 14) (.t 15)⟩,
    ⟨none, none, .store 2 (.t 26) (.t 21)⟩,
    ⟨some 27, none, .idxS 2 (.t 16) (.t 17)⟩,
    ⟨none, none, .store 2 (.t 27) (.t 25)⟩]
    [[], [], [], [], [], [], [4, 5], [6], [], [], [8, 9], [10], [0, 1, 0, 1, 4, 5, 6, 7, 11], [12, 7, 0, 1, 4, 5, 6, 7, 11], [2, 3, 0, 1, 2, 3, 4, 5, 6, 7, 8, 9, 10, 11, 12, 13], [14, 11, 13, 0, 1, 2, 3, 4, 5, 6, 7, 8, 9, 10, 11, 12, 13]]
    [(0, []), (1, []), (2, []), (3, []), (4, []), (5, []), (6, []), (8, []), (9, []), (10, []), (7, []), (11, []), (12, []), (13, []), (14, []), (15, [])]
    [[], [], [], [], [], [], [4, 5], [4, 5, 6], [], [], [8, 9], [8, 9, 10], [0, 1, 4, 5, 6, 7, 8, 9, 10, 11], [0, 1, 4, 5, 6, 7, 8, 9, 10, 11, 12], [0, 1, 2, 3, 4, 5, 6, 7, 8, 9, 10, 11, 12, 13], [0, 1, 2, 3, 4, 5, 6, 7, 8, 9, 10, 11, 12, 13, 14]]
    [0, 1, 2, 4])
  (.seq (.region [⟨some 28, none, .mov (.t 1)⟩,
    ⟨some 29, none, .bin .add (.t 28) (.c (.int .i64 1))⟩,
    ⟨some 30, none, .mov (.t 2)⟩,
    ⟨some 31, none, .bin .sub (.t 30) (.c (.int .i64 1))⟩,
    ⟨some 12, none, .mov (.t 29)⟩,
    ⟨some 13, none, .mov (.t 31)⟩]
    [0, 1, 4, 12, 13])
  (.seq (.block 0
    (.loop [0, 1, 4, 12, 13] RB.slices_partitionCmpFunc_api_Want_5) [0, 1, 4, 12, 13])
  (.seq (.block 2
    (.loop [0, 1, 4, 12, 13] RB.slices_partitionCmpFunc_api_Want_4) [0, 1, 4, 12, 13])
  (.seq (.seq (.region [⟨some 69, none, .mov (.t 12)⟩,
    ⟨some 70, none, .mov (.t 13)⟩,
    ⟨some 71, none, .bin .gtr (.t 69) (.t 70)⟩]
    [0, 1, 4, 12, 13, 71])
  (.cond (.t 71)
    (.seq (.drawn [⟨some 72, none, .mov (.t 0)⟩,
      ⟨some 73, none, .mov (.t 13)⟩,
      ⟨some 74, none, .mov (.t 0)⟩,
      ⟨some 75, none, .mov (.t 1)⟩,
      ⟨some 76, none, .mov (.t 0)⟩,
      ⟨some 77, none, .mov (.t 1)⟩,
      ⟨some 78, none, .idxS 2 (.t 76) (.t 77)⟩,
      ⟨some 79, none, .load true 2 (.t 78)⟩,
      ⟨some 80, none, .mov (.t 0)⟩,
      ⟨some 81, none, .mov (.t 13)⟩,
      ⟨some 82, none, .idxS 2 (.t 80) (.t 81)⟩,
      ⟨some 83, none, .load true 2 (.t 82)⟩,
      ⟨some 84, none, .idxS 2 (.t 72) (.t 73)⟩,
      ⟨none, none, .store 2 (.t 84) (.t 79)⟩,
      ⟨some 85, none, .idxS 2 (.t 74) (.t 75)⟩,
      ⟨none, none, .store 2 (.t 85) (.t 83)⟩]
      [[], [], [], [], [], [], [4, 5], [6], [], [], [8, 9], [10], [0, 1, 0, 1, 4, 5, 6, 7, 11], [12, 7, 0, 1, 4, 5, 6, 7, 11], [2, 3, 0, 1, 2, 3, 4, 5, 6, 7, 8, 9, 10, 11, 12, 13], [14, 11, 13, 0, 1, 2, 3, 4, 5, 6, 7, 8, 9, 10, 11, 12, 13]]
      [(0, []), (1, []), (2, []), (3, []), (4, []), (5, []), (6, []), (8, []), (9, []), (10, []), (7, []), (11, []), (12, []), (13, []), (14, []), (15, [])]
      [[], [], [], [], [], [], [4, 5], [4, 5, 6], [], [], [8, 9], [8, 9, 10], [0, 1, 4, 5, 6, 7, 8, 9, 10, 11], [0, 1, 4, 5, 6, 7, 8, 9, 10, 11, 12], [0, 1, 2, 3, 4, 5, 6, 7, 8, 9, 10, 11, 12, 13], [0, 1, 2, 3, 4, 5, 6, 7, 8, 9, 10, 11, 12, 13, 14]]
      [13])
    (.seq (.region [⟨some 86, none, .mov (.t 13)⟩,
      ⟨some 10, none, .mov (.t 86)⟩,
      ⟨some 11, none, .mov (.c (.bool true))⟩]
      [10, 11])
    .ret))
    .skip))
  (.seq (.drawn [⟨some 87, none, .mov (.t 0)⟩,
    ⟨some 88, none, .mov (.t 12)⟩,
    ⟨some 89, none, .mov (.t 0)⟩,
    ⟨some 90, none, .mov (.t 13)⟩,
    ⟨some 91, none, .mov (.t 0)⟩,
    ⟨some 92, none, .mov (.t 13)⟩,
    ⟨some 93, none, .idxS 2 (.t 91) (.t 92)⟩,
    ⟨some 94, none, .load true 2 (.t 93)⟩,
    ⟨some 95, none, .mov (.t 0)⟩,
    ⟨some 96, none, .mov (.t 12)⟩,
    ⟨some 97, none, .idxS 2 (.t 95) (.t 96)⟩,
    ⟨some 98, none, .load true 2 (.t 97)⟩,
    ⟨some 99, none, .idxS 2 (.t 87) (.t 88)⟩,
    ⟨none, none, .store 2 (.t 99) (.t 94)⟩,
    ⟨some 100, none, .idxS 2 (.t 89) (.t 90)⟩,
    ⟨none, none, .store 2 (.t 100) (.t 98)⟩]
    [[], [], [], [], [], [], [4, 5], [6], [], [], [8, 9], [10], [0, 1, 0, 1, 4, 5, 6, 7, 11], [12, 7, 0, 1, 4, 5, 6, 7, 11], [2, 3, 0, 1, 2, 3, 4, 5, 6, 7, 8, 9, 10, 11, 12, 13], [14, 11, 13, 0, 1, 2, 3, 4, 5, 6, 7, 8, 9, 10, 11, 12, 13]]
    [(0, []), (1, []), (2, []), (3, []), (4, []), (5, []), (6, []), (8, []), (9, []), (10, []), (7, []), (11, []), (12, []), (13, []), (14, []), (15, [])]
    [[], [], [], [], [], [], [4, 5], [4, 5, 6], [], [], [8, 9], [8, 9, 10], [0, 1, 4, 5, 6, 7, 8, 9, 10, 11], [0, 1, 4, 5, 6, 7, 8, 9, 10, 11, 12], [0, 1, 2, 3, 4, 5, 6, 7, 8, 9, 10, 11, 12, 13], [0, 1, 2, 3, 4, 5, 6, 7, 8, 9, 10, 11, 12, 13, 14]]
    [0, 1, 4, 12, 13])
  (.seq (.region [⟨some 101, none, .mov (.t 12)⟩,
    ⟨some 102, none, .bin .add (.t 101) (.c (.int .i64 1))⟩,
    ⟨some 12, none, .mov (.t 102)⟩]
    [0, 1, 4, 12, 13])
  (.seq (.region [⟨some 103, none, .mov (.t 13)⟩,
    ⟨some 104, none, .bin .sub (.t 103) (.c (.int .i64 1))⟩,
    ⟨some 13, none, .mov (.t 104)⟩]
    [0, 1, 4, 12, 13])
  (.seq (.block 4
    (.loop [0, 1, 4, 12, 13] RB.slices_partitionCmpFunc_api_Want_3) [0, 1, 13])
  (.seq (.drawn [⟨some 163, none, .mov (.t 0)⟩,
    ⟨some 164, none, .mov (.t 13)⟩,
    ⟨some 165, none, .mov (.t 0)⟩,
    ⟨some 166, none, .mov (.t 1)⟩,
    ⟨some 167, none, .mov (.t 0)⟩,
    ⟨some 168, none, .mov (.t 1)⟩,
    ⟨some 169, none, .idxS 2 (.t 167) (.t 168)⟩,
    ⟨some 170, none, .load true 2 (.t 169)⟩,
    ⟨some 171, none, .mov (.t 0)⟩,
    ⟨some 172, none, .mov (.t 13)⟩,
    ⟨some 173, none, .idxS 2 (.t 171) (.t 172)⟩,
    ⟨some 174, none, .load true 2 (.t 173)⟩,
    ⟨some 175, none, .idxS 2 (.t 163) (.t 164)⟩,
    ⟨none, none, .store 2 (.t 175) (.t 170)⟩,
    ⟨some 176, none, .idxS 2 (.t 165) (.t 166)⟩,
    ⟨none, none, .store 2 (.t 176) (.t 174)⟩]
    [[], [], [], [], [], [], [4, 5], [6], [], [], [8, 9], [10], [0, 1, 0, 1, 4, 5, 6, 7, 11], [12, 7, 0, 1, 4, 5, 6, 7, 11], [2, 3, 0, 1, 2, 3, 4, 5, 6, 7, 8, 9, 10, 11, 12, 13], [14, 11, 13, 0, 1, 2, 3, 4, 5, 6, 7, 8, 9, 10, 11, 12, 13]]
    [(0, []), (1, []), (2, []), (3, []), (4, []), (5, []), (6, []), (8, []), (9, []), (10, []), (7, []), (11, []), (12, []), (13, []), (14, []), (15, [])]
    [[], [], [], [], [], [], [4, 5], [4, 5, 6], [], [], [8, 9], [8, 9, 10], [0, 1, 4, 5, 6, 7, 8, 9, 10, 11], [0, 1, 4, 5, 6, 7, 8, 9, 10, 11, 12], [0, 1, 2, 3, 4, 5, 6, 7, 8, 9, 10, 11, 12, 13], [0, 1, 2, 3, 4, 5, 6, 7, 8, 9, 10, 11, 12, 13, 14]]
    [13])
  (.seq (.region [⟨some 177, none, .mov (.t 13)⟩,
    ⟨some 10, none, .mov (.t 177)⟩,
    ⟨some 11, none, .mov (.c (.bool false))⟩]
    [10, 11])
  .ret))))))))))))⟩

def RC.math_bits_Len32 : RFn := ⟨1, [.slot 2],
  (.seq (.region [⟨some 2, none, .mov (.c (.int .i64 0))⟩]
    [0, 2])
  (.seq (.seq (.region [⟨some 3, none, .mov (.t 0)⟩,
    ⟨some 4, none, .bin .geq (.t 3) (.c (u32 65536#32))⟩]
    [0, 2, 4])
  (.cond (.t 4)
    (.seq (.region [⟨some 5, none, .mov (.t 0)⟩,
      ⟨some 6, none, .bin .shr (.t 5) (.c (u64 16#64))⟩,
      ⟨some 0, none, .mov (.t 6)⟩]
      [0])
    (.region [⟨some 2, none, .mov (.c (.int .i64 16))⟩]
      [0, 2]))
    .skip))
  (.seq (.seq (.region [⟨some 7, none, .mov (.t 0)⟩,
    ⟨some 8, none, .bin .geq (.t 7) (.c (u32 256#32))⟩]
    [0, 2, 8])
  (.cond (.t 8)
    (.seq (.region [⟨some 9, none, .mov (.t 0)⟩,
      ⟨some 10, none, .bin .shr (.t 9) (.c (u64 8#64))⟩,
      ⟨some 0, none, .mov (.t 10)⟩]
      [0, 2])
    (.region [⟨some 11, none, .mov (.t 2)⟩,
      ⟨some 12, none, .bin .add (.t 11) (.c (.int .i64 8))⟩,
      ⟨some 2, none, .mov (.t 12)⟩]
      [0, 2]))
    .skip))
  (.seq (.region [⟨some 13, none, .mov (.t 2)⟩,
    ⟨some 14, none, .mov (.t 0)⟩,
    ⟨some 15, none, .conv .u8 (.t 14)⟩,
    ⟨some 16, none, .idxStr (.c (.string lenTab)) (.t 15)⟩,
    ⟨some 17, none, .conv .i64 (.t 16)⟩,
    ⟨some 18, none, .bin .add (.t 13) (.t 17)⟩,
    ⟨some 2, none, .mov (.t 18)⟩]
    [2])
  .ret))))⟩

def RC.math_bits_Len64 : RFn := ⟨1, [.slot 2],
  (.seq (.region [⟨some 2, none, .mov (.c (.int .i64 0))⟩]
    [0, 2])
  (.seq (.seq (.region [⟨some 3, none, .mov (.t 0)⟩,
    ⟨some 4, none, .bin .geq (.t 3) (.c (u64 4294967296#64))⟩]
    [0, 2, 4])
  (.cond (.t 4)
    (.seq (.region [⟨some 5, none, .mov (.t 0)⟩,
      ⟨some 6, none, .bin .shr (.t 5) (.c (u64 32#64))⟩,
      ⟨some 0, none, .mov (.t 6)⟩]
      [0])
    (.region [⟨some 2, none, .mov (.c (.int .i64 32))⟩]
      [0, 2]))
    .skip))
  (.seq (.seq (.region [⟨some 7, none, .mov (.t 0)⟩,
    ⟨some 8, none, .bin .geq (.t 7) (.c (u64 65536#64))⟩]
    [0, 2, 8])
  (.cond (.t 8)
    (.seq (.region [⟨some 9, none, .mov (.t 0)⟩,
      ⟨some 10, none, .bin .shr (.t 9) (.c (u64 16#64))⟩,
      ⟨some 0, none, .mov (.t 10)⟩]
      [0, 2])
    (.region [⟨some 11, none, .mov (.t 2)⟩,
      ⟨some 12, none, .bin .add (.t 11) (.c (.int .i64 16))⟩,
      ⟨some 2, none, .mov (.t 12)⟩]
      [0, 2]))
    .skip))
  (.seq (.seq (.region [⟨some 13, none, .mov (.t 0)⟩,
    ⟨some 14, none, .bin .geq (.t 13) (.c (u64 256#64))⟩]
    [0, 2, 14])
  (.cond (.t 14)
    (.seq (.region [⟨some 15, none, .mov (.t 0)⟩,
      ⟨some 16, none, .bin .shr (.t 15) (.c (u64 8#64))⟩,
      ⟨some 0, none, .mov (.t 16)⟩]
      [0, 2])
    (.region [⟨some 17, none, .mov (.t 2)⟩,
      ⟨some 18, none, .bin .add (.t 17) (.c (.int .i64 8))⟩,
      ⟨some 2, none, .mov (.t 18)⟩]
      [0, 2]))
    .skip))
  (.seq (.region [⟨some 19, none, .mov (.t 2)⟩,
    ⟨some 20, none, .mov (.t 0)⟩,
    ⟨some 21, none, .conv .u8 (.t 20)⟩,
    ⟨some 22, none, .idxStr (.c (.string lenTab)) (.t 21)⟩,
    ⟨some 23, none, .conv .i64 (.t 22)⟩,
    ⟨some 24, none, .bin .add (.t 19) (.t 23)⟩,
    ⟨some 2, none, .mov (.t 24)⟩]
    [2])
  .ret)))))⟩

def RB.cmp_Or_int_1 : RCode :=
  (.seq (.region [⟨some 9, none, .bin .lss (.t 8) (.t 7)⟩]
    [3, 6, 7, 8, 9])
  (.seq (.cond (.t 9)
    .skip
    (.exit 0))
  (.seq (.block 1
    (.seq (.region [⟨some 10, none, .idxS 1 (.t 6) (.t 8)⟩,
      ⟨some 11, none, .load false 1 (.t 10)⟩,
      ⟨some 5, none, .mov (.t 11)⟩]
      [3, 5, 6, 7, 8])
    (.seq (.region [⟨some 12, none, .mov (.t 5)⟩,
      ⟨some 13, none, .mov (.t 3)⟩,
      ⟨some 14, none, .bin .neq (.t 12) (.t 13)⟩]
      [3, 5, 6, 7, 8, 14])
    (.cond (.t 14)
      (.seq (.region [⟨some 15, none, .mov (.t 5)⟩,
        ⟨some 2, none, .mov (.t 15)⟩]
        [2])
      .ret)
      .skip))) [3, 6, 7, 8])
  (.region [⟨some 16, none, .bin .add (.t 8) (.c (.int .i64 1))⟩,
    ⟨some 8, none, .mov (.t 16)⟩]
    [3, 6, 7, 8]))))
def RC.cmp_Or_int : RFn := ⟨1, [.slot 2],
  (.seq (.region [⟨some 2, none, .mov (.c (.int .i64 0))⟩]
    [0])
  (.seq (.region [⟨some 3, none, .mov (.c (.int .i64 0))⟩]
    [0, 3])
  (.seq (.seq (.region [⟨some 6, none, .mov (.t 0)⟩,
    ⟨some 7, none, .len (.t 6)⟩,
    ⟨some 8, none, .mov (.c (.int .i64 0))⟩]
    [3, 6, 7, 8])
  (.block 0
    (.loop [3, 6, 7, 8] RB.cmp_Or_int_1) [3]))
  (.seq (.region [⟨some 17, none, .mov (.t 3)⟩,
    ⟨some 2, none, .mov (.t 17)⟩]
    [2])
  .ret))))⟩

def RC.cmp_Compare_uint64 : RFn := ⟨2, [.slot 4],
  (.seq (.region [⟨some 4, none, .mov (.c (.int .i64 0))⟩]
    [0, 1])
  (.seq (.region [⟨some 7, none, .mov (.t 0)⟩,
    ⟨some 8, none, .call F.cmp_isNaN_uint64 [.t 7]⟩,
    ⟨some 5, none, .mov (.t 8)⟩]
    [0, 1, 5])
  (.seq (.region [⟨some 9, none, .mov (.t 1)⟩,
    ⟨some 10, none, .call F.cmp_isNaN_uint64 [.t 9]⟩,
    ⟨some 6, none, .mov (.t 10)⟩]
    [0, 1, 5, 6])
  (.seq (.seq (.region [⟨some 11, none, .mov (.t 5)⟩]
    [0, 1, 6, 11])
  (.cond (.t 11)
    (.seq (.seq (.region [⟨some 12, none, .mov (.t 6)⟩]
      [12])
    (.cond (.t 12)
      (.seq (.region [⟨some 4, none, .mov (.c (.int .i64 0))⟩]
        [4])
      .ret)
      .skip))
    (.seq (.region [⟨some 4, none, .mov (.c (.int .i64 (-1)))⟩]
      [4])
    .ret))
    .skip))
  (.seq (.seq (.region [⟨some 13, none, .mov (.t 6)⟩]
    [0, 1, 13])
  (.cond (.t 13)
    (.seq (.region [⟨some 4, none, .mov (.c (.int .i64 1))⟩]
      [4])
    .ret)
    .skip))
  (.seq (.seq (.region [⟨some 14, none, .mov (.t 0)⟩,
    ⟨some 15, none, .mov (.t 1)⟩,
    ⟨some 16, none, .bin .lss (.t 14) (.t 15)⟩]
    [0, 1, 16])
  (.cond (.t 16)
    (.seq (.region [⟨some 4, none, .mov (.c (.int .i64 (-1)))⟩]
      [4])
    .ret)
    .skip))
  (.seq (.seq (.region [⟨some 17, none, .mov (.t 0)⟩,
    ⟨some 18, none, .mov (.t 1)⟩,
    ⟨some 19, none, .bin .gtr (.t 17) (.t 18)⟩]
    [19])
  (.cond (.t 19)
    (.seq (.region [⟨some 4, none, .mov (.c (.int .i64 1))⟩]
      [4])
    .ret)
    .skip))
  (.seq (.region [⟨some 4, none, .mov (.c (.int .i64 0))⟩]
    [4])
  .ret))))))))⟩

def RB.slices_siftDownCmpFunc_api_Want_1 : RCode :=
  (.block 1
    (.seq (.region [⟨some 13, none, .mov (.t 10)⟩,
      ⟨some 14, none, .bin .mul (.c (.int .i64 2)) (.t 13)⟩,
      ⟨some 15, none, .bin .add (.t 14) (.c (.int .i64 1))⟩,
      ⟨some 11, none, .mov (.t 15)⟩]
      [0, 2, 3, 4, 10, 11])
    (.seq (.seq (.region [⟨some 16, none, .mov (.t 11)⟩,
      ⟨some 17, none, .mov (.t 2)⟩,
      ⟨some 18, none, .bin .geq (.t 16) (.t 17)⟩]
      [0, 2, 3, 4, 10, 11, 18])
    (.cond (.t 18)
      (.exit 0)
      .skip))
    (.seq (.seq (.drawn [⟨some 19, none, .mov (.t 11)⟩,
      ⟨some 20, none, .bin .add (.t 19) (.c (.int .i64 1))⟩,
      ⟨some 21, none, .mov (.t 2)⟩,
      ⟨some 22, none, .bin .lss (.t 20) (.t 21)⟩,
      ⟨some 23, none, .mov (.t 22)⟩,
      ⟨some 24, some (23, true), .mov (.t 4)⟩,
      ⟨some 25, some (23, true), .mov (.t 0)⟩,
      ⟨some 26, some (23, true), .mov (.t 3)⟩,
      ⟨some 27, some (23, true), .mov (.t 11)⟩,
      ⟨some 28, some (23, true), .bin .add (.t 26) (.t 27)⟩,
      ⟨some 29, some (23, true), .idxS 2 (.t 25) (.t 28)⟩,
      ⟨some 30, some (23, true), .load true 2 (.t 29)⟩,
      ⟨some 31, some (23, true), .mov (.t 0)⟩,
      ⟨some 32, some (23, true), .mov (.t 3)⟩,
      ⟨some 33, some (23, true), .mov (.t 11)⟩,
      ⟨some 34, some (23, true), .bin .add (.t 32) (.t 33)⟩,
      ⟨some 35, some (23, true), .bin .add (.t 34) (.c (.int .i64 1))⟩,
      ⟨some 36, some (23, true), .idxS 2 (.t 31) (.t 35)⟩,
      ⟨some 37, some (23, true), .load true 2 (.t 36)⟩,
      ⟨some 38, some (23, true), .callv (.t 24) [.t 30, .t 37]⟩,
      ⟨some 39, some (23, true), .bin .lss (.t 38) (.c (.int .i64 0))⟩,
      ⟨some 40, none, .pick (.t 23) (.t 39) (.c (.bool false))⟩]
      [[], [0], [], [1, 2], [3], [4], [4], [4], [4], [7, 8, 4], [6, 9, 4], [10, 4], [4], [4], [4], [13, 14, 4], [15, 4], [12, 16, 4], [17, 4], [5, 11, 18, 4, 4], [19, 4], [4, 20]]
      [(0, []), (1, []), (2, []), (3, []), (4, []), (5, []), (6, []), (7, []), (8, []), (9, []), (10, []), (12, []), (13, []), (14, []), (15, []), (16, []), (17, []), (11, []), (18, []), (19, []), (20, []), (21, [])]
      [[], [0], [], [0, 1, 2], [0, 1, 2, 3], [0, 1, 2, 3, 4], [0, 1, 2, 3, 4], [0, 1, 2, 3, 4], [0, 1, 2, 3, 4], [0, 1, 2, 3, 4, 7, 8], [0, 1, 2, 3, 4, 6, 7, 8, 9], [0, 1, 2, 3, 4, 6, 7, 8, 9, 10], [0, 1, 2, 3, 4], [0, 1, 2, 3, 4], [0, 1, 2, 3, 4], [0, 1, 2, 3, 4, 13, 14], [0, 1, 2, 3, 4, 13, 14, 15], [0, 1, 2, 3, 4, 12, 13, 14, 15, 16], [0, 1, 2, 3, 4, 12, 13, 14, 15, 16, 17], [0, 1, 2, 3, 4, 5, 6, 7, 8, 9, 10, 11, 12, 13, 14, 15, 16, 17, 18], [0, 1, 2, 3, 4, 5, 6, 7, 8, 9, 10, 11, 12, 13, 14, 15, 16, 17, 18, 19], [0, 1, 2, 3, 4, 5, 6, 7, 8, 9, 10, 11, 12, 13, 14, 15, 16, 17, 18, 19, 20]]
      [0, 2, 3, 4, 10, 11, 40])
    (.cond (.t 40)
      (.region [⟨some 41, none, .mov (.t 11)⟩,
        ⟨some 42, none, .bin .add (.t 41) (.c (.int .i64 1))⟩,
        ⟨some 11, none, .mov (.t 42)⟩]
        [0, 2, 3, 4, 10, 11])
      .skip))
    (.seq (.seq (.drawn [⟨some 43, none, .mov (.t 4)⟩,
      ⟨some 44, none, .mov (.t 0)⟩,
      ⟨some 45, none, .mov (.t 3)⟩,
      ⟨some 46, none, .mov (.t 10)⟩,
      ⟨some 47, none, .bin .add (.t 45) (.t 46)⟩,
      ⟨some 48, none, .idxS 2 (.t 44) (.t 47)⟩,
      ⟨some 49, none, .load true 2 (.t 48)⟩,
      ⟨some 50, none, .mov (.t 0)⟩,
      ⟨some 51, none, .mov (.t 3)⟩,
      ⟨some 52, none, .mov (.t 11)⟩,
      ⟨some 53, none, .bin .add (.t 51) (.t 52)⟩,
      ⟨some 54, none, .idxS 2 (.t 50) (.t 53)⟩,
      ⟨some 55, none, .load true 2 (.t 54)⟩,
      ⟨some 56, none, .callv (.t 43) [.t 49, .t 55]⟩,
      ⟨some 57, none, .bin .lss (.t 56) (.c (.int .i64 0))⟩,
      ⟨some 58, none, .un .not (.t 57)⟩]
      [[], [], [], [], [2, 3], [1, 4], [5], [], [], [], [8, 9], [7, 10], [11], [0, 6, 12], [13], [14]]
      [(0, []), (1, []), (2, []), (3, []), (4, []), (5, []), (7, []), (8, []), (9, []), (10, []), (11, []), (6, []), (12, []), (13, []), (14, []), (15, [])]
      [[], [], [], [], [2, 3], [1, 2, 3, 4], [1, 2, 3, 4, 5], [], [], [], [8, 9], [7, 8, 9, 10], [7, 8, 9, 10, 11], [0, 1, 2, 3, 4, 5, 6, 7, 8, 9, 10, 11, 12], [0, 1, 2, 3, 4, 5, 6, 7, 8, 9, 10, 11, 12, 13], [0, 1, 2, 3, 4, 5, 6, 7, 8, 9, 10, 11, 12, 13, 14]]
      [0, 2, 3, 4, 10, 11, 58])
    (.cond (.t 58)
      .ret
      .skip))
    (.seq (.drawn [⟨some 59, none, .mov (.t 0)⟩,
      ⟨some 60, none, .mov (.t 3)⟩,
      ⟨some 61, none, .mov (.t 10)⟩,
      ⟨some 62, none, .bin .add (.t 60) (.t 61)⟩,
      ⟨some 63, none, .mov (.t 0)⟩,
      ⟨some 64, none, .mov (.t 3)⟩,
      ⟨some 65, none, .mov (.t 11)⟩,
      ⟨some 66, none, .bin .add (.t 64) (.t 65)⟩,
      ⟨some 67, none, .mov (.t 0)⟩,
      ⟨some 68, none, .mov (.t 3)⟩,
      ⟨some 69, none, .mov (.t 11)⟩,
      ⟨some 70, none, .bin .add (.t 68) (.t 69)⟩,
      ⟨some 71, none, .idxS 2 (.t 67) (.t 70)⟩,
      ⟨some 72, none, .load true 2 (.t 71)⟩,
      ⟨some 73, none, .mov (.t 0)⟩,
      ⟨some 74, none, .mov (.t 3)⟩,
      ⟨some 75, none, .mov (.t 10)⟩,
      ⟨some 76, none, .bin .add (.t 74) (.t 75)⟩,
      ⟨some 77, none, .idxS 2 (.t 73) (.t 76)⟩,
      ⟨some 78, none, .load true 2 (.t 77)⟩,
      ⟨some 79, none, .idxS 2 (.t 59) (.t 62)⟩,
      ⟨none, none, .store 2 (.t 79) (.t 72)⟩,
      ⟨some 80, none, .idxS 2 (.t 63) (.t 66)⟩,
      ⟨none, none, .store 2 (.t 80) (.t 78)⟩]
      [[], [], [], [1, 2], [], [], [], [5, 6], [], [], [], [9, 10], [8, 11], [12], [], [], [], [15, 16], [14, 17], [18], [0, 3, 0, 1, 2, 3, 8, 9, 10, 11, 12, 13, 19], [20, 13, 0, 1, 2, 3, 8, 9, 10, 11, 12, 13, 19], [4, 7, 0, 1, 2, 3, 4, 5, 6, 7, 8, 9, 10, 11, 12, 13, 14, 15, 16, 17, 18, 19, 20, 21], [22, 19, 21, 0, 1, 2, 3, 4, 5, 6, 7, 8, 9, 10, 11, 12, 13, 14, 15, 16, 17, 18, 19, 20, 21]]
      [(0, []), (1, []), (2, []), (3, []), (4, []), (5, []), (6, []), (7, []), (8, []), (9, []), (10, []), (11, []), (12, []), (14, []), (15, []), (16, []), (17, []), (18, []), (13, []), (19, []), (20, []), (21, []), (22, []), (23, [])]
      [[], [], [], [1, 2], [], [], [], [5, 6], [], [], [], [9, 10], [8, 9, 10, 11], [8, 9, 10, 11, 12], [], [], [], [15, 16], [14, 15, 16, 17], [14, 15, 16, 17, 18], [0, 1, 2, 3, 8, 9, 10, 11, 12, 13, 14, 15, 16, 17, 18, 19], [0, 1, 2, 3, 8, 9, 10, 11, 12, 13, 14, 15, 16, 17, 18, 19, 20], [0, 1, 2, 3, 4, 5, 6, 7, 8, 9, 10, 11, 12, 13, 14, 15, 16, 17, 18, 19, 20, 21], [0, 1, 2, 3, 4, 5, 6, 7, 8, 9, 10, 11, 12, 13, 14, 15, 16, 17, 18, 19, 20, 21, 22]]
      [0, 2, 3, 4, 11])
    (.region [⟨some 81, none, .mov (.t 11)⟩,
      ⟨some 10, none, .mov (.t 81)⟩]
      [0, 2, 3, 4, 10])))))) [0, 2, 3, 4, 10])
def RC.slices_siftDownCmpFunc_api_Want : RFn := ⟨5, [],
  (.seq (.region [⟨some 12, none, .mov (.t 1)⟩,
    ⟨some 10, none, .mov (.t 12)⟩]
    [0, 2, 3, 4, 10])
  (.block 0
    (.loop [0, 2, 3, 4, 10] RB.slices_siftDownCmpFunc_api_Want_1) []))⟩

def RC.slices_nextPowerOfTwo : RFn := ⟨1, [.slot 2],
  (.seq (.region [⟨some 2, none, .mov (.c (u64 0#64))⟩]
    [0])
  (.seq (.region [⟨some 3, none, .mov (.t 0)⟩,
    ⟨some 4, none, .conv .u64 (.t 3)⟩,
    ⟨some 5, none, .call F.math_bits_Len [.t 4]⟩,
    ⟨some 6, none, .bin .shl (.c (u64 1#64)) (.t 5)⟩,
    ⟨some 2, none, .mov (.t 6)⟩]
    [2])
  .ret))⟩

def RC.slices_xorshift_Next : RFn := ⟨1, [.slot 2],
  (.seq (.region [⟨some 2, none, .mov (.c (u64 0#64))⟩]
    [0])
  (.seq (.drawn [⟨some 3, none, .mov (.t 0)⟩,
    ⟨some 4, none, .nilchk (.t 3)⟩,
    ⟨some 5, none, .load false 1 (.t 4)⟩,
    ⟨some 6, none, .mov (.t 0)⟩,
    ⟨some 7, none, .nilchk (.t 6)⟩,
    ⟨some 8, none, .load false 1 (.t 7)⟩,
    ⟨some 9, none, .bin .shl (.t 8) (.c (u64 13#64))⟩,
    ⟨some 10, none, .bin .xor (.t 5) (.t 9)⟩,
    ⟨some 11, none, .nilchk (.t 3)⟩,
    ⟨none, none, .store 1 (.t 11) (.t 10)⟩]
    [[], [0], [1], [], [3], [4], [5], [2, 6], [0, 0, 1, 2, 3, 4, 5, 6, 7], [8, 7, 0, 1, 2, 3, 4, 5, 6, 7]]
    [(0, []), (1, []), (3, []), (4, []), (2, []), (5, []), (6, []), (7, []), (8, []), (9, [])]
    [[], [0], [0, 1], [], [3], [3, 4], [3, 4, 5], [0, 1, 2, 3, 4, 5, 6], [0, 1, 2, 3, 4, 5, 6, 7], [0, 1, 2, 3, 4, 5, 6, 7, 8]]
    [0])
  (.seq (.drawn [⟨some 12, none, .mov (.t 0)⟩,
    ⟨some 13, none, .nilchk (.t 12)⟩,
    ⟨some 14, none, .load false 1 (.t 13)⟩,
    ⟨some 15, none, .mov (.t 0)⟩,
    ⟨some 16, none, .nilchk (.t 15)⟩,
    ⟨some 17, none, .load false 1 (.t 16)⟩,
    ⟨some 18, none, .bin .shr (.t 17) (.c (u64 7#64))⟩,
    ⟨some 19, none, .bin .xor (.t 14) (.t 18)⟩,
    ⟨some 20, none, .nilchk (.t 12)⟩,
    ⟨none, none, .store 1 (.t 20) (.t 19)⟩]
    [[], [0], [1], [], [3], [4], [5], [2, 6], [0, 0, 1, 2, 3, 4, 5, 6, 7], [8, 7, 0, 1, 2, 3, 4, 5, 6, 7]]
    [(0, []), (1, []), (3, []), (4, []), (2, []), (5, []), (6, []), (7, []), (8, []), (9, [])]
    [[], [0], [0, 1], [], [3], [3, 4], [3, 4, 5], [0, 1, 2, 3, 4, 5, 6], [0, 1, 2, 3, 4, 5, 6, 7], [0, 1, 2, 3, 4, 5, 6, 7, 8]]
    [0])
  (.seq (.drawn [⟨some 21, none, .mov (.t 0)⟩,
    ⟨some 22, none, .nilchk (.t 21)⟩,
    ⟨some 23, none, .load false 1 (.t 22)⟩,
    ⟨some 24, none, .mov (.t 0)⟩,
    ⟨some 25, none, .nilchk (.t 24)⟩,
    ⟨some 26, none, .load false 1 (.t 25)⟩,
    ⟨some 27, none, .bin .shl (.t 26) (.c (u64 17#64))⟩,
    ⟨some 28, none, .bin .xor (.t 23) (.t 27)⟩,
    ⟨some 29, none, .nilchk (.t 21)⟩,
    ⟨none, none, .store 1 (.t 29) (.t 28)⟩]
    [[], [0], [1], [], [3], [4], [5], [2, 6], [0, 0, 1, 2, 3, 4, 5, 6, 7], [8, 7, 0, 1, 2, 3, 4, 5, 6, 7]]
    [(0, []), (1, []), (3, []), (4, []), (2, []), (5, []), (6, []), (7, []), (8, []), (9, [])]
    [[], [0], [0, 1], [], [3], [3, 4], [3, 4, 5], [0, 1, 2, 3, 4, 5, 6], [0, 1, 2, 3, 4, 5, 6, 7], [0, 1, 2, 3, 4, 5, 6, 7, 8]]
    [0])
  (.seq (.region [⟨some 30, none, .mov (.t 0)⟩,
    ⟨some 31, none, .nilchk (.t 30)⟩,
    ⟨some 32, none, .load false 1 (.t 31)⟩,
    ⟨some 2, none, .mov (.t 32)⟩]
    [2])
  .ret)))))⟩

def RC.slices_medianAdjacentCmpFunc_api_Want : RFn := ⟨4, [.slot 8],
  (.seq (.region [⟨some 8, none, .mov (.c (.int .i64 0))⟩]
    [0, 1, 2, 3])
  (.seq (.region [⟨some 9, none, .mov (.t 0)⟩,
    ⟨some 10, none, .mov (.t 1)⟩,
    ⟨some 11, none, .bin .sub (.t 10) (.c (.int .i64 1))⟩,
    ⟨some 12, none, .mov (.t 1)⟩,
    ⟨some 13, none, .mov (.t 1)⟩,
    ⟨some 14, none, .bin .add (.t 13) (.c (.int .i64 1))⟩,
    ⟨some 15, none, .mov (.t 2)⟩,
    ⟨some 16, none, .mov (.t 3)⟩,
    ⟨some 17, none, .call F.slices_medianCmpFunc_api_Want [.t 9, .t 11, .t 12, .t 14, .t 15, .t 16]⟩,
    ⟨some 8, none, .mov (.t 17)⟩]
    [8])
  .ret))⟩

def RC.slices_medianCmpFunc_api_Want : RFn := ⟨6, [.slot 12],
  (.seq (.region [⟨some 12, none, .mov (.c (.int .i64 0))⟩]
    [0, 1, 2, 3, 4, 5])
  (.seq (.region [⟨some 14, none, .mov (.t 0)⟩,
    ⟨some 15, none, .mov (.t 1)⟩,
    ⟨some 16, none, .mov (.t 2)⟩,
    ⟨some 17, none, .mov (.t 4)⟩,
    ⟨some 18, none, .mov (.t 5)⟩,
    ⟨some 19, none, .call F.slices_order2CmpFunc_api_Want [.t 14, .t 15, .t 16, .t 17, .t 18]⟩,
    ⟨some 13, none, .mov (.t 19)⟩,
    ⟨some 20, none, .ext 0 (.t 13)⟩,
    ⟨some 21, none, .ext 1 (.t 13)⟩,
    ⟨some 1, none, .mov (.t 20)⟩,
    ⟨some 2, none, .mov (.t 21)⟩]
    [0, 1, 2, 3, 4, 5])
  (.seq (.region [⟨some 23, none, .mov (.t 0)⟩,
    ⟨some 24, none, .mov (.t 2)⟩,
    ⟨some 25, none, .mov (.t 3)⟩,
    ⟨some 26, none, .mov (.t 4)⟩,
    ⟨some 27, none, .mov (.t 5)⟩,
    ⟨some 28, none, .call F.slices_order2CmpFunc_api_Want [.t 23, .t 24, .t 25, .t 26, .t 27]⟩,
    ⟨some 22, none, .mov (.t 28)⟩,
    ⟨some 29, none, .ext 0 (.t 22)⟩,
    ⟨some 30, none, .ext 1 (.t 22)⟩,
    ⟨some 2, none, .mov (.t 29)⟩,
    ⟨some 3, none, .mov (.t 30)⟩]
    [0, 1, 2, 4, 5])
  (.seq (.region [⟨some 32, none, .mov (.t 0)⟩,
    ⟨some 33, none, .mov (.t 1)⟩,
    ⟨some 34, none, .mov (.t 2)⟩,
    ⟨some 35, none, .mov (.t 4)⟩,
    ⟨some 36, none, .mov (.t 5)⟩,
    ⟨some 37, none, .call F.slices_order2CmpFunc_api_Want [.t 32, .t 33, .t 34, .t 35, .t 36]⟩,
    ⟨some 31, none, .mov (.t 37)⟩,
    ⟨some 38, none, .ext 0 (.t 31)⟩,
    ⟨some 39, none, .ext 1 (.t 31)⟩,
    ⟨some 1, none, .mov (.t 38)⟩,
    ⟨some 2, none, .mov (.t 39)⟩]
    [2])
  (.seq (.region [⟨some 40, none, .mov (.t 2)⟩,
    ⟨some 12, none, .mov (.t 40)⟩]
    [12])
  .ret)))))⟩

def RC.cmp_isNaN_uint64 : RFn := ⟨1, [.slot 2],
  (.seq (.region [⟨some 2, none, .mov (.c (.bool false))⟩]
    [0])
  (.seq (.region [⟨some 3, none, .mov (.t 0)⟩,
    ⟨some 4, none, .mov (.t 0)⟩,
    ⟨some 5, none, .bin .neq (.t 3) (.t 4)⟩,
    ⟨some 2, none, .mov (.t 5)⟩]
    [2])
  .ret))⟩

def RC.slices_order2CmpFunc_api_Want : RFn := ⟨5, [.slot 10, .slot 11],
  (.seq (.region [⟨some 10, none, .mov (.c (.int .i64 0))⟩,
    ⟨some 11, none, .mov (.c (.int .i64 0))⟩]
    [0, 1, 2, 3, 4])
  (.seq (.seq (.drawn [⟨some 12, none, .mov (.t 4)⟩,
    ⟨some 13, none, .mov (.t 0)⟩,
    ⟨some 14, none, .mov (.t 2)⟩,
    ⟨some 15, none, .idxS 2 (.t 13) (.t 14)⟩,
    ⟨some 16, none, .load true 2 (.t 15)⟩,
    ⟨some 17, none, .mov (.t 0)⟩,
    ⟨some 18, none, .mov (.t 1)⟩,
    ⟨some 19, none, .idxS 2 (.t 17) (.t 18)⟩,
    ⟨some 20, none, .load true 2 (.t 19)⟩,
    ⟨some 21, none, .callv (.t 12) [.t 16, .t 20]⟩,
    ⟨some 22, none, .bin .lss (.t 21) (.c (.int .i64 0))⟩]
    [[], [], [], [1, 2], [3], [], [], [5, 6], [7], [0, 4, 8], [9]]
    [(0, []), (1, []), (2, []), (3, []), (5, []), (6, []), (7, []), (4, []), (8, []), (9, []), (10, [])]
    [[], [], [], [1, 2], [1, 2, 3], [], [], [5, 6], [5, 6, 7], [0, 1, 2, 3, 4, 5, 6, 7, 8], [0, 1, 2, 3, 4, 5, 6, 7, 8, 9]]
    [1, 2, 3, 22])
  (.cond (.t 22)
    (.seq (.region [⟨some 23, none, .mov (.t 3)⟩,
      ⟨some 24, none, .nilchk (.t 23)⟩,
      ⟨some 25, none, .load false 1 (.t 24)⟩,
      ⟨some 26, none, .bin .add (.t 25) (.c (.int .i64 1))⟩,
      ⟨some 27, none, .nilchk (.t 23)⟩,
      ⟨none, none, .store 1 (.t 27) (.t 26)⟩]
      [1, 2])
    (.seq (.region [⟨some 28, none, .mov (.t 2)⟩,
      ⟨some 29, none, .mov (.t 1)⟩,
      ⟨some 10, none, .mov (.t 28)⟩,
      ⟨some 11, none, .mov (.t 29)⟩]
      [10, 11])
    .ret))
    .skip))
  (.seq (.region [⟨some 30, none, .mov (.t 1)⟩,
    ⟨some 31, none, .mov (.t 2)⟩,
    ⟨some 10, none, .mov (.t 30)⟩,
    ⟨some 11, none, .mov (.t 31)⟩]
    [10, 11])
  .ret)))⟩

def tab0 : List (Nat × FEnt) := [(F.law41_ShedChooses, .rc RC.law41_ShedChooses),
  (F.law41_ShedLeast, .rc RC.law41_ShedLeast),
  (F.law41_ShedCores, .rc RC.law41_ShedCores),
  (F.law41_awake, .rc RC.law41_awake),
  (F.shed_Choose, .rc RC.shed_Choose),
  (F.shed_Cost, .rc RC.shed_Cost),
  (F.ref41_Why, .rc RC.ref41_Why),
  (F.shed_Check, .rc RC.shed_Check),
  (F.ref41_Sum, .rc RC.ref41_Sum),
  (F.ref41_Choose, .rc RC.ref41_Choose),
  (F.ref03_Same, .rc RC.ref03_Same),
  (F.ref41_Units, .rc RC.ref41_Units),
  (F.law41_chosen, .rc RC.law41_chosen),
  (F.shed_Core, .rc RC.shed_Core),
  (F.shed_choose, .rc RC.shed_choose),
  (F.ref08_Check, .rc RC.ref08_Check),
  (F.order_Check, .rc RC.order_Check),
  (F.ref41_best, .rc RC.ref41_best),
  (F.ref41_has, .rc RC.ref41_has),
  (F.order_Total, .rc RC.order_Total),
  (F.slices_Clone_api_Want_api_Want, .rc RC.slices_Clone_api_Want_api_Want),
  (F.slices_SortFunc_api_Want_api_Want, .rc RC.slices_SortFunc_api_Want_api_Want),
  (F.shed_choose_1, .rc RC.shed_choose_1),
  (F.cmp_Compare_int, .rc RC.cmp_Compare_int),
  (F.shed_sums, .rc RC.shed_sums),
  (F.ref08_Is, .rc RC.ref08_Is),
  (F.order_Kind, .rc RC.order_Kind),
  (F.ref41_Better, .rc RC.ref41_Better),
  (F.fixq_Add, .rc RC.fixq_Add),
  (F.slices_pdqsortCmpFunc_api_Want, .rc RC.slices_pdqsortCmpFunc_api_Want),
  (F.math_bits_Len, .rc RC.math_bits_Len),
  (F.cmp_isNaN_int, .rc RC.cmp_isNaN_int),
  (F.shed_choice_better, .rc RC.shed_choice_better),
  (F.slices_insertionSortCmpFunc_api_Want, .rc RC.slices_insertionSortCmpFunc_api_Want),
  (F.slices_heapSortCmpFunc_api_Want, .rc RC.slices_heapSortCmpFunc_api_Want),
  (F.slices_breakPatternsCmpFunc_api_Want, .rc RC.slices_breakPatternsCmpFunc_api_Want),
  (F.slices_choosePivotCmpFunc_api_Want, .rc RC.slices_choosePivotCmpFunc_api_Want),
  (F.slices_reverseRangeCmpFunc_api_Want, .rc RC.slices_reverseRangeCmpFunc_api_Want),
  (F.slices_partialInsertionSortCmpFunc_api_Want, .rc RC.slices_partialInsertionSortCmpFunc_api_Want),
  (F.slices_partitionEqualCmpFunc_api_Want, .rc RC.slices_partitionEqualCmpFunc_api_Want),
  (F.slices_partitionCmpFunc_api_Want, .rc RC.slices_partitionCmpFunc_api_Want),
  (F.math_bits_Len32, .rc RC.math_bits_Len32),
  (F.math_bits_Len64, .rc RC.math_bits_Len64),
  (F.cmp_Or_int, .rc RC.cmp_Or_int),
  (F.cmp_Compare_uint64, .rc RC.cmp_Compare_uint64),
  (F.slices_siftDownCmpFunc_api_Want, .rc RC.slices_siftDownCmpFunc_api_Want),
  (F.slices_nextPowerOfTwo, .rc RC.slices_nextPowerOfTwo),
  (F.slices_xorshift_Next, .rc RC.slices_xorshift_Next),
  (F.slices_medianAdjacentCmpFunc_api_Want, .rc RC.slices_medianAdjacentCmpFunc_api_Want),
  (F.slices_medianCmpFunc_api_Want, .rc RC.slices_medianCmpFunc_api_Want),
  (F.cmp_isNaN_uint64, .rc RC.cmp_isNaN_uint64),
  (F.slices_order2CmpFunc_api_Want, .rc RC.slices_order2CmpFunc_api_Want)]
/-- What each number stands for. -/
def R0 : Nat → Option FEnt := lookF tab0
/-- The same, with the examples as known. -/
def tab : List (Nat × FEnt) := (F.law41_awake, .ext X.ok) :: tab0
def R : Nat → Option FEnt := lookF tab
theorem R.law41_awake : R F.law41_awake = some (.ext X.ok) := by with_unfolding_all rfl
theorem R.law41_ShedChooses : R F.law41_ShedChooses = some (.rc RC.law41_ShedChooses) := by with_unfolding_all rfl
theorem R.law41_ShedLeast : R F.law41_ShedLeast = some (.rc RC.law41_ShedLeast) := by with_unfolding_all rfl
theorem R.law41_ShedCores : R F.law41_ShedCores = some (.rc RC.law41_ShedCores) := by with_unfolding_all rfl
theorem R.shed_Choose : R F.shed_Choose = some (.rc RC.shed_Choose) := by with_unfolding_all rfl
theorem R.shed_Cost : R F.shed_Cost = some (.rc RC.shed_Cost) := by with_unfolding_all rfl
theorem R.ref41_Why : R F.ref41_Why = some (.rc RC.ref41_Why) := by with_unfolding_all rfl
theorem R.shed_Check : R F.shed_Check = some (.rc RC.shed_Check) := by with_unfolding_all rfl
theorem R.ref41_Sum : R F.ref41_Sum = some (.rc RC.ref41_Sum) := by with_unfolding_all rfl
theorem R.ref41_Choose : R F.ref41_Choose = some (.rc RC.ref41_Choose) := by with_unfolding_all rfl
theorem R.ref03_Same : R F.ref03_Same = some (.rc RC.ref03_Same) := by with_unfolding_all rfl
theorem R.ref41_Units : R F.ref41_Units = some (.rc RC.ref41_Units) := by with_unfolding_all rfl
theorem R.law41_chosen : R F.law41_chosen = some (.rc RC.law41_chosen) := by with_unfolding_all rfl
theorem R.shed_Core : R F.shed_Core = some (.rc RC.shed_Core) := by with_unfolding_all rfl
theorem R.shed_choose : R F.shed_choose = some (.rc RC.shed_choose) := by with_unfolding_all rfl
theorem R.ref08_Check : R F.ref08_Check = some (.rc RC.ref08_Check) := by with_unfolding_all rfl
theorem R.order_Check : R F.order_Check = some (.rc RC.order_Check) := by with_unfolding_all rfl
theorem R.ref41_best : R F.ref41_best = some (.rc RC.ref41_best) := by with_unfolding_all rfl
theorem R.ref41_has : R F.ref41_has = some (.rc RC.ref41_has) := by with_unfolding_all rfl
theorem R.order_Total : R F.order_Total = some (.rc RC.order_Total) := by with_unfolding_all rfl
theorem R.slices_Clone_api_Want_api_Want : R F.slices_Clone_api_Want_api_Want = some (.rc RC.slices_Clone_api_Want_api_Want) := by with_unfolding_all rfl
theorem R.slices_SortFunc_api_Want_api_Want : R F.slices_SortFunc_api_Want_api_Want = some (.rc RC.slices_SortFunc_api_Want_api_Want) := by with_unfolding_all rfl
theorem R.shed_choose_1 : R F.shed_choose_1 = some (.rc RC.shed_choose_1) := by with_unfolding_all rfl
theorem R.cmp_Compare_int : R F.cmp_Compare_int = some (.rc RC.cmp_Compare_int) := by with_unfolding_all rfl
theorem R.shed_sums : R F.shed_sums = some (.rc RC.shed_sums) := by with_unfolding_all rfl
theorem R.ref08_Is : R F.ref08_Is = some (.rc RC.ref08_Is) := by with_unfolding_all rfl
theorem R.order_Kind : R F.order_Kind = some (.rc RC.order_Kind) := by with_unfolding_all rfl
theorem R.ref41_Better : R F.ref41_Better = some (.rc RC.ref41_Better) := by with_unfolding_all rfl
theorem R.fixq_Add : R F.fixq_Add = some (.rc RC.fixq_Add) := by with_unfolding_all rfl
theorem R.slices_pdqsortCmpFunc_api_Want : R F.slices_pdqsortCmpFunc_api_Want = some (.rc RC.slices_pdqsortCmpFunc_api_Want) := by with_unfolding_all rfl
theorem R.math_bits_Len : R F.math_bits_Len = some (.rc RC.math_bits_Len) := by with_unfolding_all rfl
theorem R.cmp_isNaN_int : R F.cmp_isNaN_int = some (.rc RC.cmp_isNaN_int) := by with_unfolding_all rfl
theorem R.shed_choice_better : R F.shed_choice_better = some (.rc RC.shed_choice_better) := by with_unfolding_all rfl
theorem R.slices_insertionSortCmpFunc_api_Want : R F.slices_insertionSortCmpFunc_api_Want = some (.rc RC.slices_insertionSortCmpFunc_api_Want) := by with_unfolding_all rfl
theorem R.slices_heapSortCmpFunc_api_Want : R F.slices_heapSortCmpFunc_api_Want = some (.rc RC.slices_heapSortCmpFunc_api_Want) := by with_unfolding_all rfl
theorem R.slices_breakPatternsCmpFunc_api_Want : R F.slices_breakPatternsCmpFunc_api_Want = some (.rc RC.slices_breakPatternsCmpFunc_api_Want) := by with_unfolding_all rfl
theorem R.slices_choosePivotCmpFunc_api_Want : R F.slices_choosePivotCmpFunc_api_Want = some (.rc RC.slices_choosePivotCmpFunc_api_Want) := by with_unfolding_all rfl
theorem R.slices_reverseRangeCmpFunc_api_Want : R F.slices_reverseRangeCmpFunc_api_Want = some (.rc RC.slices_reverseRangeCmpFunc_api_Want) := by with_unfolding_all rfl
theorem R.slices_partialInsertionSortCmpFunc_api_Want : R F.slices_partialInsertionSortCmpFunc_api_Want = some (.rc RC.slices_partialInsertionSortCmpFunc_api_Want) := by with_unfolding_all rfl
theorem R.slices_partitionEqualCmpFunc_api_Want : R F.slices_partitionEqualCmpFunc_api_Want = some (.rc RC.slices_partitionEqualCmpFunc_api_Want) := by with_unfolding_all rfl
theorem R.slices_partitionCmpFunc_api_Want : R F.slices_partitionCmpFunc_api_Want = some (.rc RC.slices_partitionCmpFunc_api_Want) := by with_unfolding_all rfl
theorem R.math_bits_Len32 : R F.math_bits_Len32 = some (.rc RC.math_bits_Len32) := by with_unfolding_all rfl
theorem R.math_bits_Len64 : R F.math_bits_Len64 = some (.rc RC.math_bits_Len64) := by with_unfolding_all rfl
theorem R.cmp_Or_int : R F.cmp_Or_int = some (.rc RC.cmp_Or_int) := by with_unfolding_all rfl
theorem R.cmp_Compare_uint64 : R F.cmp_Compare_uint64 = some (.rc RC.cmp_Compare_uint64) := by with_unfolding_all rfl
theorem R.slices_siftDownCmpFunc_api_Want : R F.slices_siftDownCmpFunc_api_Want = some (.rc RC.slices_siftDownCmpFunc_api_Want) := by with_unfolding_all rfl
theorem R.slices_nextPowerOfTwo : R F.slices_nextPowerOfTwo = some (.rc RC.slices_nextPowerOfTwo) := by with_unfolding_all rfl
theorem R.slices_xorshift_Next : R F.slices_xorshift_Next = some (.rc RC.slices_xorshift_Next) := by with_unfolding_all rfl
theorem R.slices_medianAdjacentCmpFunc_api_Want : R F.slices_medianAdjacentCmpFunc_api_Want = some (.rc RC.slices_medianAdjacentCmpFunc_api_Want) := by with_unfolding_all rfl
theorem R.slices_medianCmpFunc_api_Want : R F.slices_medianCmpFunc_api_Want = some (.rc RC.slices_medianCmpFunc_api_Want) := by with_unfolding_all rfl
theorem R.cmp_isNaN_uint64 : R F.cmp_isNaN_uint64 = some (.rc RC.cmp_isNaN_uint64) := by with_unfolding_all rfl
theorem R.slices_order2CmpFunc_api_Want : R F.slices_order2CmpFunc_api_Want = some (.rc RC.slices_order2CmpFunc_api_Want) := by with_unfolding_all rfl
end Go.Am
