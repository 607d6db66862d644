/- Parts of the proofs of the statements of this seat: AmTabOrder, OrderIns. No conditions. -/
import Derived.Test.YtihohfmcaaggoaaOrderSortsPart3
import Derived.Test.YtihohfmcaaggoaaOrderSortsPart4
import Derived.Shelf.Spec.SlicesInsert
import Derived.Lib.AppendZerosOnto
import Derived.Test.YtihohfmcaaggoaaProg
set_option linter.unusedVariables false
set_option linter.unusedSimpArgs false

/- The functions of the layer order in the form of the abstract machine. Printed by amgen.py. -/
set_option linter.unusedVariables false
namespace Go.Am

@[irreducible] def F.law08_OrderUnits : Nat := 3
@[irreducible] def F.law08_OrderChecks : Nat := 4
@[irreducible] def F.law08_OrderOne : Nat := 5
@[irreducible] def F.law08_OrderSorts : Nat := 6
@[irreducible] def F.order_Unit : Nat := 7
@[irreducible] def F.order_Kind : Nat := 8
@[irreducible] def F.ref08_Is : Nat := 9
@[irreducible] def F.ref08_Group : Nat := 10
@[irreducible] def F.law08_awake : Nat := 11
@[irreducible] def F.order_Total : Nat := 12
@[irreducible] def F.ref08_Total : Nat := 13
@[irreducible] def F.order_Check : Nat := 14
@[irreducible] def F.ref08_Check : Nat := 15
@[irreducible] def F.order_Ahead : Nat := 16
@[irreducible] def F.ref08_Ahead : Nat := 17
@[irreducible] def F.order_Put : Nat := 18
@[irreducible] def F.ref08_Same : Nat := 19
@[irreducible] def F.order_Sort : Nat := 20
@[irreducible] def F.ref08_Sort : Nat := 21
@[irreducible] def F.ref08_Put : Nat := 22
@[irreducible] def F.order_Without : Nat := 23
@[irreducible] def F.ref08_Without : Nat := 24
@[irreducible] def F.fixq_Add : Nat := 25
@[irreducible] def F.ref02_Add : Nat := 26
@[irreducible] def F.order_compare : Nat := 27
@[irreducible] def F.slices_Insert_api_Want_api_Want : Nat := 28
@[irreducible] def F.slices_Clone_api_Want_api_Want : Nat := 29
@[irreducible] def F.slices_SortFunc_api_Want_api_Want : Nat := 30
@[irreducible] def F.slices_DeleteFunc_api_Want_api_Want : Nat := 31
@[irreducible] def F.order_Without_1 : Nat := 32
@[irreducible] def F.cmp_Or_int : Nat := 33
@[irreducible] def F.cmp_Compare_int : Nat := 34
@[irreducible] def F.slices_pdqsortCmpFunc_api_Want : Nat := 37
@[irreducible] def F.math_bits_Len : Nat := 38
@[irreducible] def F.slices_IndexFunc_api_Want_api_Want : Nat := 39
@[irreducible] def F.cmp_isNaN_int : Nat := 40
@[irreducible] def F.slices_insertionSortCmpFunc_api_Want : Nat := 42
@[irreducible] def F.slices_heapSortCmpFunc_api_Want : Nat := 43
@[irreducible] def F.slices_breakPatternsCmpFunc_api_Want : Nat := 44
@[irreducible] def F.slices_choosePivotCmpFunc_api_Want : Nat := 45
@[irreducible] def F.slices_reverseRangeCmpFunc_api_Want : Nat := 46
@[irreducible] def F.slices_partialInsertionSortCmpFunc_api_Want : Nat := 47
@[irreducible] def F.slices_partitionEqualCmpFunc_api_Want : Nat := 48
@[irreducible] def F.slices_partitionCmpFunc_api_Want : Nat := 49
@[irreducible] def F.math_bits_Len32 : Nat := 50
@[irreducible] def F.math_bits_Len64 : Nat := 51
@[irreducible] def F.slices_siftDownCmpFunc_api_Want : Nat := 53
@[irreducible] def F.slices_nextPowerOfTwo : Nat := 54
@[irreducible] def F.slices_xorshift_Next : Nat := 55
@[irreducible] def F.slices_medianAdjacentCmpFunc_api_Want : Nat := 56
@[irreducible] def F.slices_medianCmpFunc_api_Want : Nat := 57
@[irreducible] def F.slices_order2CmpFunc_api_Want : Nat := 58

def RC.law08_OrderUnits : RFn := ⟨3, [.slot 6],
  (.seq (.region [⟨some 6, none, .mov (.c (.bool false))⟩]
    [0, 1, 2])
  (.seq (.region [⟨some 19, none, .mov (.t 0)⟩,
    ⟨some 20, none, .mov (.t 1)⟩,
    ⟨some 21, none, .call F.order_Unit [.t 19, .t 20]⟩,
    ⟨some 18, none, .mov (.t 21)⟩,
    ⟨some 22, none, .ext 0 (.t 18)⟩,
    ⟨some 23, none, .ext 1 (.t 18)⟩,
    ⟨some 7, none, .mov (.t 22)⟩,
    ⟨some 8, none, .mov (.t 23)⟩]
    [0, 1, 2, 7, 8])
  (.seq (.region [⟨some 24, none, .mov (.t 0)⟩,
    ⟨some 25, none, .bin .geq (.t 24) (.c (.int .i64 1))⟩,
    ⟨some 26, none, .mov (.t 25)⟩,
    ⟨some 27, some (26, true), .mov (.t 1)⟩,
    ⟨some 28, some (26, true), .mov (.t 27)⟩,
    ⟨some 29, some (28, true), .mov (.t 0)⟩,
    ⟨some 30, some (28, true), .bin .leq (.t 29) (.c (.int .i64 40))⟩,
    ⟨some 31, some (26, true), .pick (.t 28) (.t 30) (.c (.bool false))⟩,
    ⟨some 32, some (26, true), .mov (.t 31)⟩,
    ⟨some 33, some (32, false), .mov (.t 1)⟩,
    ⟨some 34, some (32, false), .un .not (.t 33)⟩,
    ⟨some 35, some (32, false), .mov (.t 34)⟩,
    ⟨some 36, some (35, true), .mov (.t 0)⟩,
    ⟨some 37, some (35, true), .bin .leq (.t 36) (.c (.int .i64 200))⟩,
    ⟨some 38, some (32, false), .pick (.t 35) (.t 37) (.c (.bool false))⟩,
    ⟨some 39, some (26, true), .pick (.t 32) (.c (.bool true)) (.t 38)⟩,
    ⟨some 40, none, .pick (.t 26) (.t 39) (.c (.bool false))⟩,
    ⟨some 9, none, .mov (.t 40)⟩]
    [0, 1, 2, 7, 8, 9])
  (.seq (.seq (.region [⟨some 41, none, .mov (.t 9)⟩,
    ⟨some 42, none, .mov (.t 8)⟩,
    ⟨some 43, none, .bin .eql (.t 42) (.c (.int .i64 0))⟩,
    ⟨some 44, none, .eq true .bool (.t 41) (.t 43)⟩,
    ⟨some 45, none, .mov (.t 44)⟩,
    ⟨some 46, some (45, false), .mov (.t 9)⟩,
    ⟨some 47, some (45, false), .un .not (.t 46)⟩,
    ⟨some 48, some (45, false), .mov (.t 47)⟩,
    ⟨some 49, some (48, true), .mov (.t 7)⟩,
    ⟨some 50, some (48, true), .bin .neq (.t 49) (.c (.int .i64 0))⟩,
    ⟨some 51, some (48, true), .mov (.t 50)⟩,
    ⟨some 52, some (51, false), .mov (.t 8)⟩,
    ⟨some 53, some (51, false), .bin .neq (.t 52) (.c (.int .i64 20))⟩,
    ⟨some 54, some (48, true), .pick (.t 51) (.c (.bool true)) (.t 53)⟩,
    ⟨some 55, some (45, false), .pick (.t 48) (.t 54) (.c (.bool false))⟩,
    ⟨some 56, none, .pick (.t 45) (.c (.bool true)) (.t 55)⟩]
    [0, 1, 2, 7, 9, 56])
  (.cond (.t 56)
    (.seq (.region [⟨some 6, none, .mov (.c (.bool false))⟩]
      [6])
    .ret)
    .skip))
  (.seq (.seq (.region [⟨some 57, none, .mov (.t 9)⟩]
    [0, 1, 2, 7, 57])
  (.cond (.t 57)
    (.seq (.region [⟨some 59, none, .mov (.t 7)⟩,
      ⟨some 60, none, .call F.order_Kind [.t 59]⟩,
      ⟨some 58, none, .mov (.t 60)⟩,
      ⟨some 61, none, .ext 0 (.t 58)⟩,
      ⟨some 62, none, .ext 1 (.t 58)⟩,
      ⟨some 63, none, .ext 2 (.t 58)⟩,
      ⟨some 10, none, .mov (.t 61)⟩,
      ⟨some 11, none, .mov (.t 62)⟩,
      ⟨some 12, none, .mov (.t 63)⟩]
      [0, 1, 2, 7, 10, 11, 12])
    (.seq (.region [⟨some 64, none, .mov (.t 10)⟩,
      ⟨some 65, none, .mov (.t 0)⟩,
      ⟨some 66, none, .bin .neq (.t 64) (.t 65)⟩,
      ⟨some 67, none, .mov (.t 66)⟩,
      ⟨some 68, some (67, false), .mov (.t 11)⟩,
      ⟨some 69, some (67, false), .mov (.t 1)⟩,
      ⟨some 70, some (67, false), .eq true .bool (.t 68) (.t 69)⟩,
      ⟨some 71, none, .pick (.t 67) (.c (.bool true)) (.t 70)⟩,
      ⟨some 72, none, .mov (.t 71)⟩,
      ⟨some 73, some (72, false), .mov (.t 12)⟩,
      ⟨some 74, some (72, false), .un .not (.t 73)⟩,
      ⟨some 75, none, .pick (.t 72) (.c (.bool true)) (.t 74)⟩,
      ⟨some 76, none, .mov (.t 75)⟩,
      ⟨some 77, some (76, false), .mov (.t 7)⟩,
      ⟨some 78, some (76, false), .call F.ref08_Is [.t 77]⟩,
      ⟨some 79, some (76, false), .un .not (.t 78)⟩,
      ⟨some 80, none, .pick (.t 76) (.c (.bool true)) (.t 79)⟩,
      ⟨some 81, none, .mov (.t 80)⟩,
      ⟨some 82, some (81, false), .mov (.t 7)⟩,
      ⟨some 83, some (81, false), .call F.ref08_Group [.t 82]⟩,
      ⟨some 84, some (81, false), .mov (.t 1)⟩,
      ⟨some 85, some (81, false), .eq true .bool (.t 83) (.t 84)⟩,
      ⟨some 86, none, .pick (.t 81) (.c (.bool true)) (.t 85)⟩]
      [2, 86])
    (.cond (.t 86)
      (.seq (.region [⟨some 6, none, .mov (.c (.bool false))⟩]
        [6])
      .ret)
      .skip)))
    .skip))
  (.seq (.region [⟨some 88, none, .mov (.t 2)⟩,
    ⟨some 89, none, .call F.order_Kind [.t 88]⟩,
    ⟨some 87, none, .mov (.t 89)⟩,
    ⟨some 90, none, .ext 0 (.t 87)⟩,
    ⟨some 91, none, .ext 1 (.t 87)⟩,
    ⟨some 92, none, .ext 2 (.t 87)⟩,
    ⟨some 13, none, .mov (.t 90)⟩,
    ⟨some 14, none, .mov (.t 91)⟩,
    ⟨some 15, none, .mov (.t 92)⟩]
    [2, 13, 14, 15])
  (.seq (.seq (.region [⟨some 93, none, .mov (.t 2)⟩,
    ⟨some 94, none, .call F.ref08_Is [.t 93]⟩,
    ⟨some 95, none, .un .not (.t 94)⟩]
    [2, 13, 14, 15, 95])
  (.cond (.t 95)
    (.seq (.region [⟨some 96, none, .mov (.t 13)⟩,
      ⟨some 97, none, .bin .eql (.t 96) (.c (.int .i64 0))⟩,
      ⟨some 98, none, .mov (.t 97)⟩,
      ⟨some 99, some (98, true), .mov (.t 14)⟩,
      ⟨some 100, some (98, true), .un .not (.t 99)⟩,
      ⟨some 101, none, .pick (.t 98) (.t 100) (.c (.bool false))⟩,
      ⟨some 102, none, .mov (.t 101)⟩,
      ⟨some 103, some (102, true), .mov (.t 15)⟩,
      ⟨some 104, some (102, true), .un .not (.t 103)⟩,
      ⟨some 105, none, .pick (.t 102) (.t 104) (.c (.bool false))⟩,
      ⟨some 106, none, .mov (.t 105)⟩,
      ⟨some 107, some (106, true), .call F.law08_awake []⟩,
      ⟨some 108, none, .pick (.t 106) (.t 107) (.c (.bool false))⟩,
      ⟨some 6, none, .mov (.t 108)⟩]
      [6])
    .ret)
    .skip))
  (.seq (.region [⟨some 110, none, .mov (.t 13)⟩,
    ⟨some 111, none, .mov (.t 14)⟩,
    ⟨some 112, none, .call F.order_Unit [.t 110, .t 111]⟩,
    ⟨some 109, none, .mov (.t 112)⟩,
    ⟨some 113, none, .ext 0 (.t 109)⟩,
    ⟨some 114, none, .ext 1 (.t 109)⟩,
    ⟨some 16, none, .mov (.t 113)⟩,
    ⟨some 17, none, .mov (.t 114)⟩]
    [2, 15, 16, 17])
  (.seq (.region [⟨some 115, none, .mov (.t 15)⟩,
    ⟨some 116, none, .mov (.t 115)⟩,
    ⟨some 117, some (116, true), .mov (.t 16)⟩,
    ⟨some 118, some (116, true), .mov (.t 2)⟩,
    ⟨some 119, some (116, true), .bin .eql (.t 117) (.t 118)⟩,
    ⟨some 120, none, .pick (.t 116) (.t 119) (.c (.bool false))⟩,
    ⟨some 121, none, .mov (.t 120)⟩,
    ⟨some 122, some (121, true), .mov (.t 17)⟩,
    ⟨some 123, some (121, true), .bin .eql (.t 122) (.c (.int .i64 0))⟩,
    ⟨some 124, none, .pick (.t 121) (.t 123) (.c (.bool false))⟩,
    ⟨some 125, none, .mov (.t 124)⟩,
    ⟨some 126, some (125, true), .call F.law08_awake []⟩,
    ⟨some 127, none, .pick (.t 125) (.t 126) (.c (.bool false))⟩,
    ⟨some 6, none, .mov (.t 127)⟩]
    [6])
  .ret)))))))))⟩

def RC.law08_OrderChecks : RFn := ⟨2, [.slot 4],
  (.seq (.region [⟨some 4, none, .mov (.c (.bool false))⟩]
    [0, 1])
  (.seq (.region [⟨some 9, none, .mov (.t 1)⟩,
    ⟨some 10, none, .mov (.t 1)⟩,
    ⟨some 11, none, .len (.t 10)⟩,
    ⟨some 12, none, .minmax false [.t 11, .c (.int .i64 100)]⟩,
    ⟨some 13, none, .sub 2 (.t 9) none (some (.t 12)) none⟩,
    ⟨some 1, none, .mov (.t 13)⟩]
    [0, 1])
  (.seq (.region [⟨some 15, none, .mov (.t 1)⟩,
    ⟨some 16, none, .call F.order_Total [.t 15]⟩,
    ⟨some 14, none, .mov (.t 16)⟩,
    ⟨some 17, none, .ext 0 (.t 14)⟩,
    ⟨some 18, none, .ext 1 (.t 14)⟩,
    ⟨some 5, none, .mov (.t 17)⟩,
    ⟨some 6, none, .mov (.t 18)⟩]
    [0, 1, 5, 6])
  (.seq (.region [⟨some 20, none, .mov (.t 1)⟩,
    ⟨some 21, none, .call F.ref08_Total [.t 20]⟩,
    ⟨some 19, none, .mov (.t 21)⟩,
    ⟨some 22, none, .ext 0 (.t 19)⟩,
    ⟨some 23, none, .ext 1 (.t 19)⟩,
    ⟨some 7, none, .mov (.t 22)⟩,
    ⟨some 8, none, .mov (.t 23)⟩]
    [0, 1, 5, 6, 7, 8])
  (.seq (.seq (.region [⟨some 24, none, .mov (.t 8)⟩,
    ⟨some 25, none, .mov (.t 6)⟩,
    ⟨some 26, none, .bin .eql (.t 25) (.c (.int .i64 0))⟩,
    ⟨some 27, none, .eq true .bool (.t 24) (.t 26)⟩,
    ⟨some 28, none, .mov (.t 27)⟩,
    ⟨some 29, some (28, false), .mov (.t 5)⟩,
    ⟨some 30, some (28, false), .mov (.t 7)⟩,
    ⟨some 31, some (28, false), .bin .neq (.t 29) (.t 30)⟩,
    ⟨some 32, none, .pick (.t 28) (.c (.bool true)) (.t 31)⟩,
    ⟨some 33, none, .mov (.t 32)⟩,
    ⟨some 34, some (33, false), .mov (.t 8)⟩,
    ⟨some 35, some (33, false), .un .not (.t 34)⟩,
    ⟨some 36, some (33, false), .mov (.t 35)⟩,
    ⟨some 37, some (36, true), .mov (.t 6)⟩,
    ⟨some 38, some (36, true), .bin .neq (.t 37) (.c (.int .i64 5))⟩,
    ⟨some 39, some (33, false), .pick (.t 36) (.t 38) (.c (.bool false))⟩,
    ⟨some 40, none, .pick (.t 33) (.c (.bool true)) (.t 39)⟩]
    [0, 1, 40])
  (.cond (.t 40)
    (.seq (.region [⟨some 4, none, .mov (.c (.bool false))⟩]
      [4])
    .ret)
    .skip))
  (.seq (.region [⟨some 41, none, .mov (.t 0)⟩,
    ⟨some 42, none, .mov (.t 1)⟩,
    ⟨some 43, none, .call F.order_Check [.t 41, .t 42]⟩,
    ⟨some 44, none, .mov (.t 0)⟩,
    ⟨some 45, none, .mov (.t 1)⟩,
    ⟨some 46, none, .call F.ref08_Check [.t 44, .t 45]⟩,
    ⟨some 47, none, .bin .eql (.t 43) (.t 46)⟩,
    ⟨some 48, none, .mov (.t 47)⟩,
    ⟨some 49, some (48, true), .call F.law08_awake []⟩,
    ⟨some 50, none, .pick (.t 48) (.t 49) (.c (.bool false))⟩,
    ⟨some 4, none, .mov (.t 50)⟩]
    [4])
  .ret))))))⟩

def RB.law08_OrderOne_1 : RCode :=
  (.seq (.seq (.region [⟨some 53, none, .mov (.t 10)⟩,
    ⟨some 54, none, .mov (.t 3)⟩,
    ⟨some 55, none, .len (.t 54)⟩,
    ⟨some 56, none, .bin .lss (.t 53) (.t 55)⟩,
    ⟨some 57, none, .mov (.t 56)⟩,
    ⟨some 58, some (57, true), .mov (.t 10)⟩,
    ⟨some 59, some (57, true), .bin .lss (.t 58) (.c (.int .i64 60))⟩,
    ⟨some 60, none, .pick (.t 57) (.t 59) (.c (.bool false))⟩]
    [3, 9, 10, 60])
  (.cond (.t 60)
    .skip
    (.exit 0)))
  (.seq (.block 1
    (.region [⟨some 63, none, .mov (.t 9)⟩,
      ⟨some 64, none, .mov (.t 3)⟩,
      ⟨some 65, none, .mov (.t 10)⟩,
      ⟨some 66, none, .idxS 2 (.t 64) (.t 65)⟩,
      ⟨some 67, none, .load true 2 (.t 66)⟩,
      ⟨some 68, none, .call F.order_Put [.t 63, .t 67]⟩,
      ⟨some 9, none, .mov (.t 68)⟩]
      [3, 9, 10]) [3, 9, 10])
  (.region [⟨some 61, none, .mov (.t 10)⟩,
    ⟨some 62, none, .bin .add (.t 61) (.c (.int .i64 1))⟩,
    ⟨some 10, none, .mov (.t 62)⟩]
    [3, 9, 10])))
def RC.law08_OrderOne : RFn := ⟨4, [.slot 8],
  (.seq (.region [⟨some 4, none, .box (.t 0)⟩,
    ⟨some 5, none, .box (.t 1)⟩,
    ⟨some 6, none, .box (.t 2)⟩,
    ⟨some 8, none, .mov (.c (.bool false))⟩]
    [3, 4, 5, 6])
  (.seq (.seq (.drawn [⟨some 11, none, .load true 2 (.t 4)⟩,
    ⟨some 12, none, .load true 2 (.t 5)⟩,
    ⟨some 13, none, .call F.order_Ahead [.t 11, .t 12]⟩,
    ⟨some 14, none, .load true 2 (.t 4)⟩,
    ⟨some 15, none, .load true 2 (.t 5)⟩,
    ⟨some 16, none, .call F.ref08_Ahead [.t 14, .t 15]⟩,
    ⟨some 17, none, .eq true .bool (.t 13) (.t 16)⟩,
    ⟨some 18, none, .mov (.t 17)⟩,
    ⟨some 19, some (18, false), .load true 2 (.t 4)⟩,
    ⟨some 20, some (18, false), .load true 2 (.t 4)⟩,
    ⟨some 21, some (18, false), .call F.order_Ahead [.t 19, .t 20]⟩,
    ⟨some 22, none, .pick (.t 18) (.c (.bool true)) (.t 21)⟩,
    ⟨some 23, none, .mov (.t 22)⟩,
    ⟨some 24, some (23, false), .load true 2 (.t 4)⟩,
    ⟨some 25, some (23, false), .load true 2 (.t 5)⟩,
    ⟨some 26, some (23, false), .eq true (.flat [.int, .int]) (.t 24) (.t 25)⟩,
    ⟨some 27, some (23, false), .mov (.t 26)⟩,
    ⟨some 28, some (27, true), .load true 2 (.t 4)⟩,
    ⟨some 29, some (27, true), .load true 2 (.t 5)⟩,
    ⟨some 30, some (27, true), .call F.order_Ahead [.t 28, .t 29]⟩,
    ⟨some 31, some (27, true), .load true 2 (.t 5)⟩,
    ⟨some 32, some (27, true), .load true 2 (.t 4)⟩,
    ⟨some 33, some (27, true), .call F.order_Ahead [.t 31, .t 32]⟩,
    ⟨some 34, some (27, true), .eq false .bool (.t 30) (.t 33)⟩,
    ⟨some 35, some (23, false), .pick (.t 27) (.t 34) (.c (.bool false))⟩,
    ⟨some 36, none, .pick (.t 23) (.c (.bool true)) (.t 35)⟩,
    ⟨some 37, none, .mov (.t 36)⟩,
    ⟨some 38, some (37, false), .load true 2 (.t 4)⟩,
    ⟨some 39, some (37, false), .load true 2 (.t 5)⟩,
    ⟨some 40, some (37, false), .call F.order_Ahead [.t 38, .t 39]⟩,
    ⟨some 41, some (37, false), .mov (.t 40)⟩,
    ⟨some 42, some (41, true), .load true 2 (.t 5)⟩,
    ⟨some 43, some (41, true), .load true 2 (.t 6)⟩,
    ⟨some 44, some (41, true), .call F.order_Ahead [.t 42, .t 43]⟩,
    ⟨some 45, some (37, false), .pick (.t 41) (.t 44) (.c (.bool false))⟩,
    ⟨some 46, some (37, false), .mov (.t 45)⟩,
    ⟨some 47, some (46, true), .load true 2 (.t 4)⟩,
    ⟨some 48, some (46, true), .load true 2 (.t 6)⟩,
    ⟨some 49, some (46, true), .call F.order_Ahead [.t 47, .t 48]⟩,
    ⟨some 50, some (46, true), .un .not (.t 49)⟩,
    ⟨some 51, some (37, false), .pick (.t 46) (.t 50) (.c (.bool false))⟩,
    ⟨some 52, none, .pick (.t 37) (.c (.bool true)) (.t 51)⟩]
    [[], [], [0, 1], [], [], [3, 4, 2], [2, 5], [6, 5], [7], [7], [8, 9, 7, 7], [7, 10], [11, 10], [12], [12], [13, 14, 12], [15, 12, 12], [16], [16], [17, 18, 16, 16], [16], [16], [20, 21, 19, 16], [19, 22, 16], [16, 23, 12], [12, 24], [25, 22], [26], [26], [27, 28, 26, 26], [29, 29, 26], [30], [30], [31, 32, 30, 30], [30, 33, 26], [34, 33, 26], [35], [35], [36, 37, 35, 35], [38, 35], [35, 39, 26], [26, 40]]
    [(0, []), (1, []), (3, []), (4, []), (2, [4, 5]), (5, []), (6, []), (7, []), (8, []), (9, []), (10, []), (11, []), (12, []), (13, []), (14, []), (15, []), (16, []), (17, []), (18, []), (20, []), (21, []), (19, [5, 4]), (22, []), (23, []), (24, []), (25, []), (26, []), (27, []), (28, []), (29, []), (30, []), (31, []), (32, []), (33, []), (34, []), (35, []), (36, []), (37, []), (38, []), (39, []), (40, []), (41, [])]
    [[], [], [0, 1], [], [], [0, 1, 2, 3, 4], [0, 1, 2, 3, 4, 5], [0, 1, 2, 3, 4, 5, 6], [0, 1, 2, 3, 4, 5, 6, 7], [0, 1, 2, 3, 4, 5, 6, 7], [0, 1, 2, 3, 4, 5, 6, 7, 8, 9], [0, 1, 2, 3, 4, 5, 6, 7, 8, 9, 10], [0, 1, 2, 3, 4, 5, 6, 7, 8, 9, 10, 11], [0, 1, 2, 3, 4, 5, 6, 7, 8, 9, 10, 11, 12], [0, 1, 2, 3, 4, 5, 6, 7, 8, 9, 10, 11, 12], [0, 1, 2, 3, 4, 5, 6, 7, 8, 9, 10, 11, 12, 13, 14], [0, 1, 2, 3, 4, 5, 6, 7, 8, 9, 10, 11, 12, 13, 14, 15], [0, 1, 2, 3, 4, 5, 6, 7, 8, 9, 10, 11, 12, 13, 14, 15, 16], [0, 1, 2, 3, 4, 5, 6, 7, 8, 9, 10, 11, 12, 13, 14, 15, 16], [0, 1, 2, 3, 4, 5, 6, 7, 8, 9, 10, 11, 12, 13, 14, 15, 16, 17, 18], [0, 1, 2, 3, 4, 5, 6, 7, 8, 9, 10, 11, 12, 13, 14, 15, 16], [0, 1, 2, 3, 4, 5, 6, 7, 8, 9, 10, 11, 12, 13, 14, 15, 16], [0, 1, 2, 3, 4, 5, 6, 7, 8, 9, 10, 11, 12, 13, 14, 15, 16, 17, 18, 19, 20, 21], [0, 1, 2, 3, 4, 5, 6, 7, 8, 9, 10, 11, 12, 13, 14, 15, 16, 17, 18, 19, 20, 21, 22], [0, 1, 2, 3, 4, 5, 6, 7, 8, 9, 10, 11, 12, 13, 14, 15, 16, 17, 18, 19, 20, 21, 22, 23], [0, 1, 2, 3, 4, 5, 6, 7, 8, 9, 10, 11, 12, 13, 14, 15, 16, 17, 18, 19, 20, 21, 22, 23, 24], [0, 1, 2, 3, 4, 5, 6, 7, 8, 9, 10, 11, 12, 13, 14, 15, 16, 17, 18, 19, 20, 21, 22, 23, 24, 25], [0, 1, 2, 3, 4, 5, 6, 7, 8, 9, 10, 11, 12, 13, 14, 15, 16, 17, 18, 19, 20, 21, 22, 23, 24, 25, 26], [0, 1, 2, 3, 4, 5, 6, 7, 8, 9, 10, 11, 12, 13, 14, 15, 16, 17, 18, 19, 20, 21, 22, 23, 24, 25, 26], [0, 1, 2, 3, 4, 5, 6, 7, 8, 9, 10, 11, 12, 13, 14, 15, 16, 17, 18, 19, 20, 21, 22, 23, 24, 25, 26, 27, 28], [0, 1, 2, 3, 4, 5, 6, 7, 8, 9, 10, 11, 12, 13, 14, 15, 16, 17, 18, 19, 20, 21, 22, 23, 24, 25, 26, 27, 28, 29], [0, 1, 2, 3, 4, 5, 6, 7, 8, 9, 10, 11, 12, 13, 14, 15, 16, 17, 18, 19, 20, 21, 22, 23, 24, 25, 26, 27, 28, 29, 30], [0, 1, 2, 3, 4, 5, 6, 7, 8, 9, 10, 11, 12, 13, 14, 15, 16, 17, 18, 19, 20, 21, 22, 23, 24, 25, 26, 27, 28, 29, 30], [0, 1, 2, 3, 4, 5, 6, 7, 8, 9, 10, 11, 12, 13, 14, 15, 16, 17, 18, 19, 20, 21, 22, 23, 24, 25, 26, 27, 28, 29, 30, 31, 32], [0, 1, 2, 3, 4, 5, 6, 7, 8, 9, 10, 11, 12, 13, 14, 15, 16, 17, 18, 19, 20, 21, 22, 23, 24, 25, 26, 27, 28, 29, 30, 31, 32, 33], [0, 1, 2, 3, 4, 5, 6, 7, 8, 9, 10, 11, 12, 13, 14, 15, 16, 17, 18, 19, 20, 21, 22, 23, 24, 25, 26, 27, 28, 29, 30, 31, 32, 33, 34], [0, 1, 2, 3, 4, 5, 6, 7, 8, 9, 10, 11, 12, 13, 14, 15, 16, 17, 18, 19, 20, 21, 22, 23, 24, 25, 26, 27, 28, 29, 30, 31, 32, 33, 34, 35], [0, 1, 2, 3, 4, 5, 6, 7, 8, 9, 10, 11, 12, 13, 14, 15, 16, 17, 18, 19, 20, 21, 22, 23, 24, 25, 26, 27, 28, 29, 30, 31, 32, 33, 34, 35], [0, 1, 2, 3, 4, 5, 6, 7, 8, 9, 10, 11, 12, 13, 14, 15, 16, 17, 18, 19, 20, 21, 22, 23, 24, 25, 26, 27, 28, 29, 30, 31, 32, 33, 34, 35, 36, 37], [0, 1, 2, 3, 4, 5, 6, 7, 8, 9, 10, 11, 12, 13, 14, 15, 16, 17, 18, 19, 20, 21, 22, 23, 24, 25, 26, 27, 28, 29, 30, 31, 32, 33, 34, 35, 36, 37, 38], [0, 1, 2, 3, 4, 5, 6, 7, 8, 9, 10, 11, 12, 13, 14, 15, 16, 17, 18, 19, 20, 21, 22, 23, 24, 25, 26, 27, 28, 29, 30, 31, 32, 33, 34, 35, 36, 37, 38, 39], [0, 1, 2, 3, 4, 5, 6, 7, 8, 9, 10, 11, 12, 13, 14, 15, 16, 17, 18, 19, 20, 21, 22, 23, 24, 25, 26, 27, 28, 29, 30, 31, 32, 33, 34, 35, 36, 37, 38, 39, 40]]
    [3, 52])
  (.cond (.t 52)
    (.seq (.region [⟨some 8, none, .mov (.c (.bool false))⟩]
      [8])
    .ret)
    .skip))
  (.seq (.region [⟨some 9, none, .mov (.c (.slice none 0 0))⟩]
    [3, 9])
  (.seq (.seq (.region [⟨some 10, none, .mov (.c (.int .i64 0))⟩]
    [3, 9, 10])
  (.block 0
    (.loop [3, 9, 10] RB.law08_OrderOne_1) [3, 9]))
  (.seq (.region [⟨some 69, none, .mov (.t 9)⟩,
    ⟨some 70, none, .mov (.t 3)⟩,
    ⟨some 71, none, .mov (.t 3)⟩,
    ⟨some 72, none, .len (.t 71)⟩,
    ⟨some 73, none, .minmax false [.t 72, .c (.int .i64 60)]⟩,
    ⟨some 74, none, .sub 2 (.t 70) none (some (.t 73)) none⟩,
    ⟨some 75, none, .call F.order_Sort [.t 74]⟩,
    ⟨some 76, none, .call F.ref08_Same [.t 69, .t 75]⟩,
    ⟨some 77, none, .mov (.t 76)⟩,
    ⟨some 78, some (77, true), .call F.law08_awake []⟩,
    ⟨some 79, none, .pick (.t 77) (.t 78) (.c (.bool false))⟩,
    ⟨some 8, none, .mov (.t 79)⟩]
    [8])
  .ret)))))⟩

def RC.law08_OrderSorts : RFn := ⟨3, [.slot 6],
  (.seq (.region [⟨some 4, none, .box (.t 1)⟩,
    ⟨some 6, none, .mov (.c (.bool false))⟩]
    [0, 2, 4])
  (.seq (.region [⟨some 8, none, .mov (.t 0)⟩,
    ⟨some 9, none, .mov (.t 0)⟩,
    ⟨some 10, none, .len (.t 9)⟩,
    ⟨some 11, none, .minmax false [.t 10, .c (.int .i64 60)]⟩,
    ⟨some 12, none, .sub 2 (.t 8) none (some (.t 11)) none⟩,
    ⟨some 0, none, .mov (.t 12)⟩]
    [0, 2, 4])
  (.seq (.region [⟨some 13, none, .mov (.t 0)⟩,
    ⟨some 14, none, .call F.ref08_Sort [.t 13]⟩,
    ⟨some 7, none, .mov (.t 14)⟩]
    [0, 2, 4, 7])
  (.seq (.drawn [⟨some 15, none, .mov (.t 0)⟩,
    ⟨some 16, none, .call F.order_Sort [.t 15]⟩,
    ⟨some 17, none, .mov (.t 7)⟩,
    ⟨some 18, none, .call F.ref08_Same [.t 16, .t 17]⟩,
    ⟨some 19, none, .mov (.t 18)⟩,
    ⟨some 20, some (19, true), .mov (.t 7)⟩,
    ⟨some 21, some (19, true), .load true 2 (.t 4)⟩,
    ⟨some 22, some (19, true), .call F.order_Put [.t 20, .t 21]⟩,
    ⟨some 23, some (19, true), .mov (.t 7)⟩,
    ⟨some 24, some (19, true), .load true 2 (.t 4)⟩,
    ⟨some 25, some (19, true), .call F.ref08_Put [.t 23, .t 24]⟩,
    ⟨some 26, some (19, true), .call F.ref08_Same [.t 22, .t 25]⟩,
    ⟨some 27, none, .pick (.t 19) (.t 26) (.c (.bool false))⟩,
    ⟨some 28, none, .mov (.t 27)⟩,
    ⟨some 29, some (28, true), .mov (.t 0)⟩,
    ⟨some 30, some (28, true), .mov (.t 2)⟩,
    ⟨some 31, some (28, true), .call F.order_Without [.t 29, .t 30]⟩,
    ⟨some 32, some (28, true), .mov (.t 0)⟩,
    ⟨some 33, some (28, true), .mov (.t 2)⟩,
    ⟨some 34, some (28, true), .call F.ref08_Without [.t 32, .t 33]⟩,
    ⟨some 35, some (28, true), .call F.ref08_Same [.t 31, .t 34]⟩,
    ⟨some 36, none, .pick (.t 28) (.t 35) (.c (.bool false))⟩,
    ⟨some 37, none, .mov (.t 36)⟩,
    ⟨some 38, some (37, true), .call F.law08_awake []⟩,
    ⟨some 39, none, .pick (.t 37) (.t 38) (.c (.bool false))⟩,
    ⟨some 6, none, .mov (.t 39)⟩]
    [[], [0], [], [1, 2, 1], [3, 3], [4], [4], [5, 6, 4, 4], [4], [4], [8, 9, 7, 4], [7, 10, 10, 4], [4, 11], [12, 11], [13], [13], [14, 15, 13, 13], [13], [13], [17, 18, 16, 13], [16, 19, 19, 13], [13, 20], [21, 20], [22, 22], [22, 23], [24, 23, 0, 1, 2, 3, 4, 5, 6, 7, 8, 9, 10, 11, 12, 13, 14, 15, 16, 17, 18, 19, 20, 21, 22, 23, 24]]
    [(0, []), (2, []), (1, []), (3, []), (4, []), (5, []), (8, []), (6, []), (9, []), (7, [4]), (10, []), (11, []), (12, []), (13, []), (14, []), (15, []), (17, []), (18, []), (16, []), (19, []), (20, []), (21, []), (22, []), (23, []), (24, []), (25, [])]
    [[], [0], [], [0, 1, 2], [0, 1, 2, 3], [0, 1, 2, 3, 4], [0, 1, 2, 3, 4], [0, 1, 2, 3, 4, 5, 6], [0, 1, 2, 3, 4], [0, 1, 2, 3, 4], [0, 1, 2, 3, 4, 5, 6, 7, 8, 9], [0, 1, 2, 3, 4, 5, 6, 7, 8, 9, 10], [0, 1, 2, 3, 4, 5, 6, 7, 8, 9, 10, 11], [0, 1, 2, 3, 4, 5, 6, 7, 8, 9, 10, 11, 12], [0, 1, 2, 3, 4, 5, 6, 7, 8, 9, 10, 11, 12, 13], [0, 1, 2, 3, 4, 5, 6, 7, 8, 9, 10, 11, 12, 13], [0, 1, 2, 3, 4, 5, 6, 7, 8, 9, 10, 11, 12, 13, 14, 15], [0, 1, 2, 3, 4, 5, 6, 7, 8, 9, 10, 11, 12, 13], [0, 1, 2, 3, 4, 5, 6, 7, 8, 9, 10, 11, 12, 13], [0, 1, 2, 3, 4, 5, 6, 7, 8, 9, 10, 11, 12, 13, 14, 15, 16, 17, 18], [0, 1, 2, 3, 4, 5, 6, 7, 8, 9, 10, 11, 12, 13, 14, 15, 16, 17, 18, 19], [0, 1, 2, 3, 4, 5, 6, 7, 8, 9, 10, 11, 12, 13, 14, 15, 16, 17, 18, 19, 20], [0, 1, 2, 3, 4, 5, 6, 7, 8, 9, 10, 11, 12, 13, 14, 15, 16, 17, 18, 19, 20, 21], [0, 1, 2, 3, 4, 5, 6, 7, 8, 9, 10, 11, 12, 13, 14, 15, 16, 17, 18, 19, 20, 21, 22], [0, 1, 2, 3, 4, 5, 6, 7, 8, 9, 10, 11, 12, 13, 14, 15, 16, 17, 18, 19, 20, 21, 22, 23], [0, 1, 2, 3, 4, 5, 6, 7, 8, 9, 10, 11, 12, 13, 14, 15, 16, 17, 18, 19, 20, 21, 22, 23, 24]]
    [6])
  .ret))))⟩

def RC.order_Unit : RFn := ⟨2, [.slot 4, .slot 5],
  (.seq (.region [⟨some 4, none, .mov (.c (.int .i64 0))⟩,
    ⟨some 5, none, .mov (.c (.int .i64 0))⟩]
    [0, 1])
  (.seq (.block 0
    (.seq (.region [⟨some 7, none, .mov (.t 0)⟩,
      ⟨some 8, none, .bin .lss (.t 7) (.c (.int .i64 1))⟩,
      ⟨some 9, none, .mov (.t 8)⟩,
      ⟨some 10, some (9, false), .mov (.t 1)⟩,
      ⟨some 11, some (9, false), .un .not (.t 10)⟩,
      ⟨some 12, some (9, false), .mov (.t 11)⟩,
      ⟨some 13, some (12, true), .mov (.t 0)⟩,
      ⟨some 14, some (12, true), .bin .gtr (.t 13) (.c (.int .i64 200))⟩,
      ⟨some 15, some (9, false), .pick (.t 12) (.t 14) (.c (.bool false))⟩,
      ⟨some 16, none, .pick (.t 9) (.c (.bool true)) (.t 15)⟩,
      ⟨some 17, none, .mov (.t 16)⟩,
      ⟨some 18, some (17, false), .mov (.t 1)⟩,
      ⟨some 19, some (17, false), .mov (.t 18)⟩,
      ⟨some 20, some (19, true), .mov (.t 0)⟩,
      ⟨some 21, some (19, true), .bin .gtr (.t 20) (.c (.int .i64 40))⟩,
      ⟨some 22, some (17, false), .pick (.t 19) (.t 21) (.c (.bool false))⟩,
      ⟨some 23, none, .pick (.t 17) (.c (.bool true)) (.t 22)⟩,
      ⟨some 6, none, .mov (.t 23)⟩]
      [0, 1, 6])
    (.cond (.t 6)
      (.seq (.region [⟨some 4, none, .mov (.c (.int .i64 0))⟩,
        ⟨some 5, none, .mov (.c (.int .i64 20))⟩]
        [4, 5])
      .ret)
      (.seq (.region [⟨some 25, none, .mov (.t 1)⟩,
        ⟨some 24, none, .mov (.t 25)⟩]
        [0, 24])
      (.cond (.t 24)
        (.seq (.region [⟨some 26, none, .mov (.t 0)⟩,
          ⟨some 27, none, .bin .add (.c (.int .i64 1000)) (.t 26)⟩,
          ⟨some 4, none, .mov (.t 27)⟩,
          ⟨some 5, none, .mov (.c (.int .i64 0))⟩]
          [4, 5])
        .ret)
        .skip)))) [0])
  (.seq (.region [⟨some 28, none, .mov (.t 0)⟩,
    ⟨some 4, none, .mov (.t 28)⟩,
    ⟨some 5, none, .mov (.c (.int .i64 0))⟩]
    [4, 5])
  .ret)))⟩

def RC.order_Kind : RFn := ⟨1, [.slot 2, .slot 3, .slot 4],
  (.seq (.region [⟨some 2, none, .mov (.c (.int .i64 0))⟩,
    ⟨some 3, none, .mov (.c (.bool false))⟩,
    ⟨some 4, none, .mov (.c (.bool false))⟩]
    [0])
  (.seq (.block 0
    (.seq (.region [⟨some 6, none, .mov (.t 0)⟩,
      ⟨some 7, none, .bin .geq (.t 6) (.c (.int .i64 1))⟩,
      ⟨some 8, none, .mov (.t 7)⟩,
      ⟨some 9, some (8, true), .mov (.t 0)⟩,
      ⟨some 10, some (8, true), .bin .leq (.t 9) (.c (.int .i64 200))⟩,
      ⟨some 11, none, .pick (.t 8) (.t 10) (.c (.bool false))⟩,
      ⟨some 5, none, .mov (.t 11)⟩]
      [0, 5])
    (.cond (.t 5)
      (.seq (.region [⟨some 12, none, .mov (.t 0)⟩,
        ⟨some 2, none, .mov (.t 12)⟩,
        ⟨some 3, none, .mov (.c (.bool false))⟩,
        ⟨some 4, none, .mov (.c (.bool true))⟩]
        [2, 3, 4])
      .ret)
      (.seq (.region [⟨some 14, none, .mov (.t 0)⟩,
        ⟨some 15, none, .bin .gtr (.t 14) (.c (.int .i64 1000))⟩,
        ⟨some 16, none, .mov (.t 15)⟩,
        ⟨some 17, some (16, true), .mov (.t 0)⟩,
        ⟨some 18, some (16, true), .bin .leq (.t 17) (.c (.int .i64 1040))⟩,
        ⟨some 19, none, .pick (.t 16) (.t 18) (.c (.bool false))⟩,
        ⟨some 13, none, .mov (.t 19)⟩]
        [0, 13])
      (.cond (.t 13)
        (.seq (.region [⟨some 20, none, .mov (.t 0)⟩,
          ⟨some 21, none, .bin .sub (.t 20) (.c (.int .i64 1000))⟩,
          ⟨some 2, none, .mov (.t 21)⟩,
          ⟨some 3, none, .mov (.c (.bool true))⟩,
          ⟨some 4, none, .mov (.c (.bool true))⟩]
          [2, 3, 4])
        .ret)
        .skip)))) [])
  (.seq (.region [⟨some 2, none, .mov (.c (.int .i64 0))⟩,
    ⟨some 3, none, .mov (.c (.bool false))⟩,
    ⟨some 4, none, .mov (.c (.bool false))⟩]
    [2, 3, 4])
  .ret)))⟩

def RC.ref08_Is : RFn := ⟨1, [.slot 2],
  (.seq (.region [⟨some 2, none, .mov (.c (.bool false))⟩]
    [0])
  (.seq (.region [⟨some 3, none, .mov (.t 0)⟩,
    ⟨some 4, none, .bin .geq (.t 3) (.c (.int .i64 1))⟩,
    ⟨some 5, none, .mov (.t 4)⟩,
    ⟨some 6, some (5, true), .mov (.t 0)⟩,
    ⟨some 7, some (5, true), .bin .leq (.t 6) (.c (.int .i64 200))⟩,
    ⟨some 8, none, .pick (.t 5) (.t 7) (.c (.bool false))⟩,
    ⟨some 9, none, .mov (.t 8)⟩,
    ⟨some 10, some (9, false), .mov (.t 0)⟩,
    ⟨some 11, some (9, false), .bin .geq (.t 10) (.c (.int .i64 1001))⟩,
    ⟨some 12, some (9, false), .mov (.t 11)⟩,
    ⟨some 13, some (12, true), .mov (.t 0)⟩,
    ⟨some 14, some (12, true), .bin .leq (.t 13) (.c (.int .i64 1040))⟩,
    ⟨some 15, some (9, false), .pick (.t 12) (.t 14) (.c (.bool false))⟩,
    ⟨some 16, none, .pick (.t 9) (.c (.bool true)) (.t 15)⟩,
    ⟨some 2, none, .mov (.t 16)⟩]
    [2])
  .ret))⟩

def RC.ref08_Group : RFn := ⟨1, [.slot 2],
  (.seq (.region [⟨some 2, none, .mov (.c (.bool false))⟩]
    [0])
  (.seq (.region [⟨some 3, none, .mov (.t 0)⟩,
    ⟨some 4, none, .bin .gtr (.t 3) (.c (.int .i64 1000))⟩,
    ⟨some 2, none, .mov (.t 4)⟩]
    [2])
  .ret))⟩

def RC.law08_awake : RFn := ⟨0, [.slot 0],
  (.seq (.region [⟨some 0, none, .mov (.c (.bool false))⟩]
    [])
  (.seq (.region [⟨some 7, none, .build [(.int .i64 0), (.int .i64 0)] [(0, 1, .c (.int .i64 3)), (1, 1, .c (.int .i64 2))]⟩,
    ⟨some 8, none, .build [(.int .i64 0), (.int .i64 0)] [(0, 1, .c (.int .i64 5)), (1, 1, .c (.int .i64 7))]⟩,
    ⟨some 9, none, .build [(.int .i64 0), (.int .i64 0)] [(0, 1, .c (.int .i64 1)), (1, 1, .c (.int .i64 2))]⟩,
    ⟨some 10, none, .bslice [(.int .i64 0), (.int .i64 0), (.int .i64 0), (.int .i64 0), (.int .i64 0), (.int .i64 0)] [(0, 2, .t 7), (2, 2, .t 8), (4, 2, .t 9)] 3 2⟩,
    ⟨some 11, none, .call F.order_Sort [.t 10]⟩,
    ⟨some 1, none, .mov (.t 11)⟩]
    [1])
  (.seq (.region [⟨some 13, none, .call F.order_Kind [.c (.int .i64 1007)]⟩,
    ⟨some 12, none, .mov (.t 13)⟩,
    ⟨some 14, none, .ext 0 (.t 12)⟩,
    ⟨some 15, none, .ext 1 (.t 12)⟩,
    ⟨some 16, none, .ext 2 (.t 12)⟩,
    ⟨some 2, none, .mov (.t 14)⟩,
    ⟨some 3, none, .mov (.t 15)⟩,
    ⟨some 4, none, .mov (.t 16)⟩]
    [1, 2, 3, 4])
  (.seq (.region [⟨some 18, none, .mov (.t 1)⟩,
    ⟨some 19, none, .call F.order_Total [.t 18]⟩,
    ⟨some 17, none, .mov (.t 19)⟩,
    ⟨some 20, none, .ext 0 (.t 17)⟩,
    ⟨some 21, none, .ext 1 (.t 17)⟩,
    ⟨some 5, none, .mov (.t 20)⟩,
    ⟨some 6, none, .mov (.t 21)⟩]
    [1, 2, 3, 4, 5, 6])
  (.seq (.region [⟨some 22, none, .mov (.t 1)⟩,
    ⟨some 23, none, .build [(.int .i64 0), (.int .i64 0)] [(0, 1, .c (.int .i64 5)), (1, 1, .c (.int .i64 7))]⟩,
    ⟨some 24, none, .build [(.int .i64 0), (.int .i64 0)] [(0, 1, .c (.int .i64 1)), (1, 1, .c (.int .i64 2))]⟩,
    ⟨some 25, none, .build [(.int .i64 0), (.int .i64 0)] [(0, 1, .c (.int .i64 3)), (1, 1, .c (.int .i64 2))]⟩,
    ⟨some 26, none, .bslice [(.int .i64 0), (.int .i64 0), (.int .i64 0), (.int .i64 0), (.int .i64 0), (.int .i64 0)] [(0, 2, .t 23), (2, 2, .t 24), (4, 2, .t 25)] 3 2⟩,
    ⟨some 27, none, .call F.ref08_Same [.t 22, .t 26]⟩,
    ⟨some 28, none, .mov (.t 27)⟩,
    ⟨some 29, some (28, true), .mov (.t 2)⟩,
    ⟨some 30, some (28, true), .bin .eql (.t 29) (.c (.int .i64 7))⟩,
    ⟨some 31, none, .pick (.t 28) (.t 30) (.c (.bool false))⟩,
    ⟨some 32, none, .mov (.t 31)⟩,
    ⟨some 33, some (32, true), .mov (.t 3)⟩,
    ⟨some 34, none, .pick (.t 32) (.t 33) (.c (.bool false))⟩,
    ⟨some 35, none, .mov (.t 34)⟩,
    ⟨some 36, some (35, true), .mov (.t 4)⟩,
    ⟨some 37, none, .pick (.t 35) (.t 36) (.c (.bool false))⟩,
    ⟨some 38, none, .mov (.t 37)⟩,
    ⟨some 39, some (38, true), .mov (.t 5)⟩,
    ⟨some 40, some (38, true), .bin .eql (.t 39) (.c (.int .i64 11))⟩,
    ⟨some 41, none, .pick (.t 38) (.t 40) (.c (.bool false))⟩,
    ⟨some 42, none, .mov (.t 41)⟩,
    ⟨some 43, some (42, true), .mov (.t 6)⟩,
    ⟨some 44, some (42, true), .bin .eql (.t 43) (.c (.int .i64 0))⟩,
    ⟨some 45, none, .pick (.t 42) (.t 44) (.c (.bool false))⟩,
    ⟨some 0, none, .mov (.t 45)⟩]
    [0])
  .ret)))))⟩

def RB.order_Total_1 : RCode :=
  (.seq (.region [⟨some 12, none, .bin .lss (.t 11) (.t 10)⟩]
    [4, 9, 10, 11, 12])
  (.seq (.cond (.t 12)
    .skip
    (.exit 0))
  (.seq (.block 1
    (.seq (.region [⟨some 13, none, .idxS 2 (.t 9) (.t 11)⟩,
      ⟨some 14, none, .load true 2 (.t 13)⟩,
      ⟨some 6, none, .alloc [(.int .i64 0), (.int .i64 0)]⟩,
      ⟨none, none, .store 2 (.t 6) (.t 14)⟩]
      [4, 6, 9, 10, 11])
    (.seq (.region [⟨some 16, none, .mov (.t 4)⟩,
      ⟨some 17, none, .fieldAddr 1 (.t 6)⟩,
      ⟨some 18, none, .load false 1 (.t 17)⟩,
      ⟨some 19, none, .call F.fixq_Add [.t 16, .t 18]⟩,
      ⟨some 15, none, .mov (.t 19)⟩,
      ⟨some 20, none, .ext 0 (.t 15)⟩,
      ⟨some 21, none, .ext 1 (.t 15)⟩,
      ⟨some 7, none, .mov (.t 20)⟩,
      ⟨some 8, none, .mov (.t 21)⟩]
      [7, 8, 9, 10, 11])
    (.seq (.seq (.region [⟨some 22, none, .mov (.t 8)⟩,
      ⟨some 23, none, .bin .neq (.t 22) (.c (.int .i64 0))⟩]
      [7, 8, 9, 10, 11, 23])
    (.cond (.t 23)
      (.seq (.region [⟨some 24, none, .mov (.t 8)⟩,
        ⟨some 2, none, .mov (.c (.int .i64 0))⟩,
        ⟨some 3, none, .mov (.t 24)⟩]
        [2, 3])
      .ret)
      .skip))
    (.region [⟨some 25, none, .mov (.t 7)⟩,
      ⟨some 4, none, .mov (.t 25)⟩]
      [4, 9, 10, 11])))) [4, 9, 10, 11])
  (.region [⟨some 26, none, .bin .add (.t 11) (.c (.int .i64 1))⟩,
    ⟨some 11, none, .mov (.t 26)⟩]
    [4, 9, 10, 11]))))
def RC.order_Total : RFn := ⟨1, [.slot 2, .slot 3],
  (.seq (.region [⟨some 2, none, .mov (.c (.int .i64 0))⟩,
    ⟨some 3, none, .mov (.c (.int .i64 0))⟩]
    [0])
  (.seq (.region [⟨some 4, none, .mov (.c (.int .i64 0))⟩]
    [0, 4])
  (.seq (.seq (.region [⟨some 9, none, .mov (.t 0)⟩,
    ⟨some 10, none, .len (.t 9)⟩,
    ⟨some 11, none, .mov (.c (.int .i64 0))⟩]
    [4, 9, 10, 11])
  (.block 0
    (.loop [4, 9, 10, 11] RB.order_Total_1) [4]))
  (.seq (.region [⟨some 27, none, .mov (.t 4)⟩,
    ⟨some 2, none, .mov (.t 27)⟩,
    ⟨some 3, none, .mov (.c (.int .i64 0))⟩]
    [2, 3])
  .ret))))⟩

def RB.ref08_Total_1 : RCode :=
  (.seq (.seq (.region [⟨some 8, none, .mov (.t 5)⟩,
    ⟨some 9, none, .mov (.t 0)⟩,
    ⟨some 10, none, .len (.t 9)⟩,
    ⟨some 11, none, .bin .lss (.t 8) (.t 10)⟩]
    [0, 4, 5, 11])
  (.cond (.t 11)
    .skip
    (.exit 0)))
  (.seq (.block 1
    (.seq (.region [⟨some 15, none, .mov (.t 4)⟩,
      ⟨some 16, none, .mov (.t 0)⟩,
      ⟨some 17, none, .mov (.t 5)⟩,
      ⟨some 18, none, .idxS 2 (.t 16) (.t 17)⟩,
      ⟨some 19, none, .fieldAddr 1 (.t 18)⟩,
      ⟨some 20, none, .load false 1 (.t 19)⟩,
      ⟨some 21, none, .call F.ref02_Add [.t 15, .t 20]⟩,
      ⟨some 14, none, .mov (.t 21)⟩,
      ⟨some 22, none, .ext 0 (.t 14)⟩,
      ⟨some 23, none, .ext 1 (.t 14)⟩,
      ⟨some 6, none, .mov (.t 22)⟩,
      ⟨some 7, none, .mov (.t 23)⟩]
      [0, 5, 6, 7])
    (.seq (.seq (.region [⟨some 24, none, .mov (.t 7)⟩,
      ⟨some 25, none, .un .not (.t 24)⟩]
      [0, 5, 6, 25])
    (.cond (.t 25)
      (.seq (.region [⟨some 2, none, .mov (.c (.int .i64 0))⟩,
        ⟨some 3, none, .mov (.c (.bool false))⟩]
        [2, 3])
      .ret)
      .skip))
    (.region [⟨some 26, none, .mov (.t 6)⟩,
      ⟨some 4, none, .mov (.t 26)⟩]
      [0, 4, 5]))) [0, 4, 5])
  (.region [⟨some 12, none, .mov (.t 5)⟩,
    ⟨some 13, none, .bin .add (.t 12) (.c (.int .i64 1))⟩,
    ⟨some 5, none, .mov (.t 13)⟩]
    [0, 4, 5])))
def RC.ref08_Total : RFn := ⟨1, [.slot 2, .slot 3],
  (.seq (.region [⟨some 2, none, .mov (.c (.int .i64 0))⟩,
    ⟨some 3, none, .mov (.c (.bool false))⟩]
    [0])
  (.seq (.region [⟨some 4, none, .mov (.c (.int .i64 0))⟩]
    [0, 4])
  (.seq (.seq (.region [⟨some 5, none, .mov (.c (.int .i64 0))⟩]
    [0, 4, 5])
  (.block 0
    (.loop [0, 4, 5] RB.ref08_Total_1) [4]))
  (.seq (.region [⟨some 27, none, .mov (.t 4)⟩,
    ⟨some 2, none, .mov (.t 27)⟩,
    ⟨some 3, none, .mov (.c (.bool true))⟩]
    [2, 3])
  .ret))))⟩

def RB.order_Check_1 : RCode :=
  (.seq (.region [⟨some 23, none, .bin .lss (.t 22) (.t 21)⟩]
    [0, 5, 20, 21, 22, 23])
  (.seq (.cond (.t 23)
    .skip
    (.exit 0))
  (.seq (.block 1
    (.seq (.region [⟨some 24, none, .idxS 2 (.t 20) (.t 22)⟩,
      ⟨some 25, none, .load true 2 (.t 24)⟩,
      ⟨some 7, none, .alloc [(.int .i64 0), (.int .i64 0)]⟩,
      ⟨none, none, .store 2 (.t 7) (.t 25)⟩]
      [0, 5, 7, 20, 21, 22])
    (.seq (.seq (.region [⟨some 27, none, .fieldAddr 0 (.t 7)⟩,
      ⟨some 28, none, .load false 1 (.t 27)⟩,
      ⟨some 29, none, .call F.order_Kind [.t 28]⟩,
      ⟨some 26, none, .mov (.t 29)⟩,
      ⟨some 30, none, .ext 0 (.t 26)⟩,
      ⟨some 31, none, .ext 1 (.t 26)⟩,
      ⟨some 32, none, .ext 2 (.t 26)⟩,
      ⟨some 8, none, .mov (.t 30)⟩,
      ⟨some 9, none, .mov (.t 31)⟩,
      ⟨some 10, none, .mov (.t 32)⟩]
      [0, 5, 7, 10, 20, 21, 22])
    (.seq (.region [⟨some 33, none, .mov (.t 10)⟩,
      ⟨some 34, none, .un .not (.t 33)⟩]
      [0, 5, 7, 20, 21, 22, 34])
    (.cond (.t 34)
      (.seq (.region [⟨some 4, none, .mov (.c (.int .i64 20))⟩]
        [4])
      .ret)
      .skip)))
    (.seq (.seq (.region [⟨some 35, none, .fieldAddr 1 (.t 7)⟩,
      ⟨some 36, none, .load false 1 (.t 35)⟩,
      ⟨some 37, none, .bin .lss (.t 36) (.c (.int .i64 1))⟩,
      ⟨some 38, none, .mov (.t 37)⟩,
      ⟨some 39, some (38, false), .fieldAddr 1 (.t 7)⟩,
      ⟨some 40, some (38, false), .load false 1 (.t 39)⟩,
      ⟨some 41, some (38, false), .mov (.t 0)⟩,
      ⟨some 42, some (38, false), .bin .gtr (.t 40) (.t 41)⟩,
      ⟨some 43, none, .pick (.t 38) (.c (.bool true)) (.t 42)⟩]
      [0, 5, 7, 20, 21, 22, 43])
    (.cond (.t 43)
      (.seq (.region [⟨some 4, none, .mov (.c (.int .i64 21))⟩]
        [4])
      .ret)
      .skip))
    (.seq (.seq (.region [⟨some 45, none, .mov (.t 5)⟩,
      ⟨some 46, none, .fieldAddr 0 (.t 7)⟩,
      ⟨some 47, none, .load false 1 (.t 46)⟩,
      ⟨some 48, none, .look .int (.agg #[]) true (.t 45) (.t 47)⟩,
      ⟨some 44, none, .mov (.t 48)⟩,
      ⟨some 49, none, .ext 0 (.t 44)⟩,
      ⟨some 50, none, .ext 1 (.t 44)⟩,
      ⟨some 11, none, .alloc []⟩,
      ⟨none, none, .store 0 (.t 11) (.t 49)⟩,
      ⟨some 12, none, .mov (.t 50)⟩]
      [0, 5, 7, 12, 20, 21, 22])
    (.seq (.region [⟨some 51, none, .mov (.t 12)⟩]
      [0, 5, 7, 20, 21, 22, 51])
    (.cond (.t 51)
      (.seq (.region [⟨some 4, none, .mov (.c (.int .i64 11))⟩]
        [4])
      .ret)
      .skip)))
    (.region [⟨some 52, none, .mov (.t 5)⟩,
      ⟨some 53, none, .fieldAddr 0 (.t 7)⟩,
      ⟨some 54, none, .load false 1 (.t 53)⟩,
      ⟨some 55, none, .build [] []⟩,
      ⟨none, none, .upd .int (.t 52) (.t 54) (.t 55)⟩]
      [0, 5, 20, 21, 22]))))) [0, 5, 20, 21, 22])
  (.region [⟨some 56, none, .bin .add (.t 22) (.c (.int .i64 1))⟩,
    ⟨some 22, none, .mov (.t 56)⟩]
    [0, 5, 20, 21, 22]))))
def RC.order_Check : RFn := ⟨2, [.slot 4],
  (.seq (.region [⟨some 4, none, .mov (.c (.int .i64 0))⟩]
    [0, 1])
  (.seq (.seq (.region [⟨some 13, none, .mov (.t 0)⟩,
    ⟨some 14, none, .bin .lss (.t 13) (.c (.int .i64 2))⟩,
    ⟨some 15, none, .mov (.t 14)⟩,
    ⟨some 16, some (15, false), .mov (.t 0)⟩,
    ⟨some 17, some (15, false), .bin .gtr (.t 16) (.c (.int .i64 64))⟩,
    ⟨some 18, none, .pick (.t 15) (.c (.bool true)) (.t 17)⟩]
    [0, 1, 18])
  (.cond (.t 18)
    (.seq (.region [⟨some 4, none, .mov (.c (.int .i64 1))⟩]
      [4])
    .ret)
    .skip))
  (.seq (.region [⟨some 19, none, .mkmap⟩,
    ⟨some 5, none, .mov (.t 19)⟩]
    [0, 1, 5])
  (.seq (.seq (.region [⟨some 20, none, .mov (.t 1)⟩,
    ⟨some 21, none, .len (.t 20)⟩,
    ⟨some 22, none, .mov (.c (.int .i64 0))⟩]
    [0, 5, 20, 21, 22])
  (.block 0
    (.loop [0, 5, 20, 21, 22] RB.order_Check_1) []))
  (.seq (.region [⟨some 4, none, .mov (.c (.int .i64 0))⟩]
    [4])
  .ret)))))⟩

def RB.ref08_Check_1 : RCode :=
  (.seq (.seq (.region [⟨some 41, none, .mov (.t 6)⟩,
    ⟨some 42, none, .mov (.t 5)⟩,
    ⟨some 43, none, .bin .lss (.t 41) (.t 42)⟩]
    [0, 1, 5, 6, 43])
  (.cond (.t 43)
    .skip
    (.exit 2)))
  (.seq (.block 3
    (.seq (.drawn [⟨some 46, none, .mov (.t 1)⟩,
      ⟨some 47, none, .mov (.t 6)⟩,
      ⟨some 48, none, .idxS 2 (.t 46) (.t 47)⟩,
      ⟨some 49, none, .fieldAddr 0 (.t 48)⟩,
      ⟨some 50, none, .load false 1 (.t 49)⟩,
      ⟨some 51, none, .mov (.t 1)⟩,
      ⟨some 52, none, .mov (.t 5)⟩,
      ⟨some 53, none, .idxS 2 (.t 51) (.t 52)⟩,
      ⟨some 54, none, .fieldAddr 0 (.t 53)⟩,
      ⟨some 55, none, .load false 1 (.t 54)⟩,
      ⟨some 56, none, .bin .eql (.t 50) (.t 55)⟩]
      [[], [], [0, 1], [2], [3], [], [], [5, 6], [7], [8], [4, 9]]
      [(0, []), (1, []), (2, []), (3, []), (5, []), (6, []), (7, []), (8, []), (4, []), (9, []), (10, [])]
      [[], [], [0, 1], [0, 1, 2], [0, 1, 2, 3], [], [], [5, 6], [5, 6, 7], [5, 6, 7, 8], [0, 1, 2, 3, 4, 5, 6, 7, 8, 9]]
      [0, 1, 5, 6, 56])
    (.cond (.t 56)
      (.seq (.region [⟨some 4, none, .mov (.c (.int .i64 11))⟩]
        [4])
      .ret)
      .skip)) [0, 1, 5, 6])
  (.region [⟨some 44, none, .mov (.t 6)⟩,
    ⟨some 45, none, .bin .add (.t 44) (.c (.int .i64 1))⟩,
    ⟨some 6, none, .mov (.t 45)⟩]
    [0, 1, 5, 6])))
def RB.ref08_Check_2 : RCode :=
  (.seq (.seq (.region [⟨some 13, none, .mov (.t 5)⟩,
    ⟨some 14, none, .mov (.t 1)⟩,
    ⟨some 15, none, .len (.t 14)⟩,
    ⟨some 16, none, .bin .lss (.t 13) (.t 15)⟩]
    [0, 1, 5, 16])
  (.cond (.t 16)
    .skip
    (.exit 0)))
  (.seq (.block 1
    (.seq (.seq (.region [⟨some 19, none, .mov (.t 1)⟩,
      ⟨some 20, none, .mov (.t 5)⟩,
      ⟨some 21, none, .idxS 2 (.t 19) (.t 20)⟩,
      ⟨some 22, none, .fieldAddr 0 (.t 21)⟩,
      ⟨some 23, none, .load false 1 (.t 22)⟩,
      ⟨some 24, none, .call F.ref08_Is [.t 23]⟩,
      ⟨some 25, none, .un .not (.t 24)⟩]
      [0, 1, 5, 25])
    (.cond (.t 25)
      (.seq (.region [⟨some 4, none, .mov (.c (.int .i64 20))⟩]
        [4])
      .ret)
      .skip))
    (.seq (.seq (.region [⟨some 26, none, .mov (.t 1)⟩,
      ⟨some 27, none, .mov (.t 5)⟩,
      ⟨some 28, none, .idxS 2 (.t 26) (.t 27)⟩,
      ⟨some 29, none, .fieldAddr 1 (.t 28)⟩,
      ⟨some 30, none, .load false 1 (.t 29)⟩,
      ⟨some 31, none, .bin .lss (.t 30) (.c (.int .i64 1))⟩,
      ⟨some 32, none, .mov (.t 31)⟩,
      ⟨some 33, some (32, false), .mov (.t 1)⟩,
      ⟨some 34, some (32, false), .mov (.t 5)⟩,
      ⟨some 35, some (32, false), .idxS 2 (.t 33) (.t 34)⟩,
      ⟨some 36, some (32, false), .fieldAddr 1 (.t 35)⟩,
      ⟨some 37, some (32, false), .load false 1 (.t 36)⟩,
      ⟨some 38, some (32, false), .mov (.t 0)⟩,
      ⟨some 39, some (32, false), .bin .gtr (.t 37) (.t 38)⟩,
      ⟨some 40, none, .pick (.t 32) (.c (.bool true)) (.t 39)⟩]
      [0, 1, 5, 40])
    (.cond (.t 40)
      (.seq (.region [⟨some 4, none, .mov (.c (.int .i64 21))⟩]
        [4])
      .ret)
      .skip))
    (.seq (.region [⟨some 6, none, .mov (.c (.int .i64 0))⟩]
      [0, 1, 5, 6])
    (.block 2
      (.loop [0, 1, 5, 6] RB.ref08_Check_1) [0, 1, 5])))) [0, 1, 5])
  (.region [⟨some 17, none, .mov (.t 5)⟩,
    ⟨some 18, none, .bin .add (.t 17) (.c (.int .i64 1))⟩,
    ⟨some 5, none, .mov (.t 18)⟩]
    [0, 1, 5])))
def RC.ref08_Check : RFn := ⟨2, [.slot 4],
  (.seq (.region [⟨some 4, none, .mov (.c (.int .i64 0))⟩]
    [0, 1])
  (.seq (.seq (.region [⟨some 7, none, .mov (.t 0)⟩,
    ⟨some 8, none, .bin .lss (.t 7) (.c (.int .i64 2))⟩,
    ⟨some 9, none, .mov (.t 8)⟩,
    ⟨some 10, some (9, false), .mov (.t 0)⟩,
    ⟨some 11, some (9, false), .bin .gtr (.t 10) (.c (.int .i64 64))⟩,
    ⟨some 12, none, .pick (.t 9) (.c (.bool true)) (.t 11)⟩]
    [0, 1, 12])
  (.cond (.t 12)
    (.seq (.region [⟨some 4, none, .mov (.c (.int .i64 1))⟩]
      [4])
    .ret)
    .skip))
  (.seq (.seq (.region [⟨some 5, none, .mov (.c (.int .i64 0))⟩]
    [0, 1, 5])
  (.block 0
    (.loop [0, 1, 5] RB.ref08_Check_2) []))
  (.seq (.region [⟨some 4, none, .mov (.c (.int .i64 0))⟩]
    [4])
  .ret))))⟩

def RC.order_Ahead : RFn := ⟨2, [.slot 4],
  (.seq (.region [⟨some 2, none, .box (.t 0)⟩,
    ⟨some 3, none, .box (.t 1)⟩,
    ⟨some 4, none, .mov (.c (.bool false))⟩]
    [2, 3])
  (.seq (.region [⟨some 5, none, .load true 2 (.t 2)⟩,
    ⟨some 6, none, .load true 2 (.t 3)⟩,
    ⟨some 7, none, .call F.order_compare [.t 5, .t 6]⟩,
    ⟨some 8, none, .bin .lss (.t 7) (.c (.int .i64 0))⟩,
    ⟨some 4, none, .mov (.t 8)⟩]
    [4])
  .ret))⟩

def RC.ref08_Ahead : RFn := ⟨2, [.slot 4],
  (.seq (.region [⟨some 2, none, .box (.t 0)⟩,
    ⟨some 3, none, .box (.t 1)⟩,
    ⟨some 4, none, .mov (.c (.bool false))⟩]
    [2, 3])
  (.seq (.region [⟨some 5, none, .fieldAddr 1 (.t 2)⟩,
    ⟨some 6, none, .load false 1 (.t 5)⟩,
    ⟨some 7, none, .fieldAddr 1 (.t 3)⟩,
    ⟨some 8, none, .load false 1 (.t 7)⟩,
    ⟨some 9, none, .bin .gtr (.t 6) (.t 8)⟩,
    ⟨some 10, none, .mov (.t 9)⟩,
    ⟨some 11, some (10, false), .fieldAddr 1 (.t 2)⟩,
    ⟨some 12, some (10, false), .load false 1 (.t 11)⟩,
    ⟨some 13, some (10, false), .fieldAddr 1 (.t 3)⟩,
    ⟨some 14, some (10, false), .load false 1 (.t 13)⟩,
    ⟨some 15, some (10, false), .bin .eql (.t 12) (.t 14)⟩,
    ⟨some 16, some (10, false), .mov (.t 15)⟩,
    ⟨some 17, some (16, true), .fieldAddr 0 (.t 2)⟩,
    ⟨some 18, some (16, true), .load false 1 (.t 17)⟩,
    ⟨some 19, some (16, true), .fieldAddr 0 (.t 3)⟩,
    ⟨some 20, some (16, true), .load false 1 (.t 19)⟩,
    ⟨some 21, some (16, true), .bin .lss (.t 18) (.t 20)⟩,
    ⟨some 22, some (10, false), .pick (.t 16) (.t 21) (.c (.bool false))⟩,
    ⟨some 23, none, .pick (.t 10) (.c (.bool true)) (.t 22)⟩,
    ⟨some 4, none, .mov (.t 23)⟩]
    [4])
  .ret))⟩

def RB.order_Put_1 : RCode :=
  (.seq (.seq (.drawn [⟨some 6, none, .mov (.t 5)⟩,
    ⟨some 7, none, .mov (.t 0)⟩,
    ⟨some 8, none, .len (.t 7)⟩,
    ⟨some 9, none, .bin .lss (.t 6) (.t 8)⟩,
    ⟨some 10, none, .mov (.t 9)⟩,
    ⟨some 11, some (10, true), .load true 2 (.t 3)⟩,
    ⟨some 12, some (10, true), .mov (.t 0)⟩,
    ⟨some 13, some (10, true), .mov (.t 5)⟩,
    ⟨some 14, some (10, true), .idxS 2 (.t 12) (.t 13)⟩,
    ⟨some 15, some (10, true), .load true 2 (.t 14)⟩,
    ⟨some 16, some (10, true), .call F.order_Ahead [.t 11, .t 15]⟩,
    ⟨some 17, some (10, true), .un .not (.t 16)⟩,
    ⟨some 18, none, .pick (.t 10) (.t 17) (.c (.bool false))⟩]
    [[], [], [1], [0, 2], [3], [4], [4], [4], [6, 7, 4], [8, 4], [5, 9, 4, 4], [10, 4], [4, 11]]
    [(0, []), (1, []), (2, []), (3, []), (4, []), (6, []), (7, []), (8, []), (5, []), (9, []), (10, []), (11, []), (12, [])]
    [[], [], [1], [0, 1, 2], [0, 1, 2, 3], [0, 1, 2, 3, 4], [0, 1, 2, 3, 4], [0, 1, 2, 3, 4], [0, 1, 2, 3, 4, 6, 7], [0, 1, 2, 3, 4, 6, 7, 8], [0, 1, 2, 3, 4, 5, 6, 7, 8, 9], [0, 1, 2, 3, 4, 5, 6, 7, 8, 9, 10], [0, 1, 2, 3, 4, 5, 6, 7, 8, 9, 10, 11]]
    [0, 3, 5, 18])
  (.cond (.t 18)
    .skip
    (.exit 0)))
  (.block 1
    (.region [⟨some 19, none, .mov (.t 5)⟩,
      ⟨some 20, none, .bin .add (.t 19) (.c (.int .i64 1))⟩,
      ⟨some 5, none, .mov (.t 20)⟩]
      [0, 3, 5]) [0, 3, 5]))
def RC.order_Put : RFn := ⟨2, [.slot 4],
  (.seq (.region [⟨some 3, none, .box (.t 1)⟩,
    ⟨some 4, none, .mov (.c (.slice none 0 0))⟩]
    [0, 3])
  (.seq (.region [⟨some 5, none, .mov (.c (.int .i64 0))⟩]
    [0, 3, 5])
  (.seq (.block 0
    (.loop [0, 3, 5] RB.order_Put_1) [0, 3, 5])
  (.seq (.drawn [⟨some 21, none, .mov (.t 0)⟩,
    ⟨some 22, none, .call F.slices_Clone_api_Want_api_Want [.t 21]⟩,
    ⟨some 23, none, .mov (.t 5)⟩,
    ⟨some 24, none, .load true 2 (.t 3)⟩,
    ⟨some 25, none, .bslice [(.int .i64 0), (.int .i64 0)] [(0, 2, .t 24)] 1 2⟩,
    ⟨some 26, none, .call F.slices_Insert_api_Want_api_Want [.t 22, .t 23, .t 25]⟩,
    ⟨some 4, none, .mov (.t 26)⟩]
    [[], [0], [], [], [3], [1, 2, 4, 1], [5, 5, 0, 1, 2, 3, 4, 5]]
    [(0, []), (2, []), (3, []), (1, [3]), (4, []), (5, []), (6, [])]
    [[], [0], [], [], [3], [0, 1, 2, 3, 4], [0, 1, 2, 3, 4, 5]]
    [4])
  .ret))))⟩

def RB.ref08_Same_1 : RCode :=
  (.seq (.seq (.region [⟨some 11, none, .mov (.t 5)⟩,
    ⟨some 12, none, .mov (.t 0)⟩,
    ⟨some 13, none, .len (.t 12)⟩,
    ⟨some 14, none, .bin .lss (.t 11) (.t 13)⟩]
    [0, 1, 5, 14])
  (.cond (.t 14)
    .skip
    (.exit 0)))
  (.seq (.block 1
    (.seq (.drawn [⟨some 17, none, .mov (.t 0)⟩,
      ⟨some 18, none, .mov (.t 5)⟩,
      ⟨some 19, none, .idxS 2 (.t 17) (.t 18)⟩,
      ⟨some 20, none, .load true 2 (.t 19)⟩,
      ⟨some 21, none, .mov (.t 1)⟩,
      ⟨some 22, none, .mov (.t 5)⟩,
      ⟨some 23, none, .idxS 2 (.t 21) (.t 22)⟩,
      ⟨some 24, none, .load true 2 (.t 23)⟩,
      ⟨some 25, none, .eq true (.flat [.int, .int]) (.t 20) (.t 24)⟩]
      [[], [], [0, 1], [2], [], [], [4, 5], [6], [3, 7]]
      [(0, []), (1, []), (2, []), (4, []), (5, []), (6, []), (3, []), (7, []), (8, [])]
      [[], [], [0, 1], [0, 1, 2], [], [], [4, 5], [4, 5, 6], [0, 1, 2, 3, 4, 5, 6, 7]]
      [0, 1, 5, 25])
    (.cond (.t 25)
      (.seq (.region [⟨some 4, none, .mov (.c (.bool false))⟩]
        [4])
      .ret)
      .skip)) [0, 1, 5])
  (.region [⟨some 15, none, .mov (.t 5)⟩,
    ⟨some 16, none, .bin .add (.t 15) (.c (.int .i64 1))⟩,
    ⟨some 5, none, .mov (.t 16)⟩]
    [0, 1, 5])))
def RC.ref08_Same : RFn := ⟨2, [.slot 4],
  (.seq (.region [⟨some 4, none, .mov (.c (.bool false))⟩]
    [0, 1])
  (.seq (.seq (.region [⟨some 6, none, .mov (.t 0)⟩,
    ⟨some 7, none, .len (.t 6)⟩,
    ⟨some 8, none, .mov (.t 1)⟩,
    ⟨some 9, none, .len (.t 8)⟩,
    ⟨some 10, none, .bin .neq (.t 7) (.t 9)⟩]
    [0, 1, 10])
  (.cond (.t 10)
    (.seq (.region [⟨some 4, none, .mov (.c (.bool false))⟩]
      [4])
    .ret)
    .skip))
  (.seq (.seq (.region [⟨some 5, none, .mov (.c (.int .i64 0))⟩]
    [0, 1, 5])
  (.block 0
    (.loop [0, 1, 5] RB.ref08_Same_1) []))
  (.seq (.region [⟨some 4, none, .mov (.c (.bool true))⟩]
    [4])
  .ret))))⟩

def RC.order_Sort : RFn := ⟨1, [.slot 2],
  (.seq (.region [⟨some 2, none, .mov (.c (.slice none 0 0))⟩]
    [0])
  (.seq (.region [⟨some 4, none, .mov (.t 0)⟩,
    ⟨some 5, none, .call F.slices_Clone_api_Want_api_Want [.t 4]⟩,
    ⟨some 3, none, .mov (.t 5)⟩]
    [3])
  (.seq (.region [⟨some 6, none, .mov (.t 3)⟩,
    ⟨some 7, none, .call F.slices_SortFunc_api_Want_api_Want [.t 6, .f F.order_compare]⟩]
    [3])
  (.seq (.region [⟨some 8, none, .mov (.t 3)⟩,
    ⟨some 2, none, .mov (.t 8)⟩]
    [2])
  .ret))))⟩

def RB.ref08_Sort_1 : RCode :=
  (.seq (.seq (.region [⟨some 6, none, .mov (.t 4)⟩,
    ⟨some 7, none, .mov (.t 0)⟩,
    ⟨some 8, none, .len (.t 7)⟩,
    ⟨some 9, none, .bin .lss (.t 6) (.t 8)⟩]
    [0, 3, 4, 9])
  (.cond (.t 9)
    .skip
    (.exit 0)))
  (.seq (.block 1
    (.region [⟨some 12, none, .mov (.t 3)⟩,
      ⟨some 13, none, .mov (.t 0)⟩,
      ⟨some 14, none, .mov (.t 4)⟩,
      ⟨some 15, none, .idxS 2 (.t 13) (.t 14)⟩,
      ⟨some 16, none, .load true 2 (.t 15)⟩,
      ⟨some 17, none, .call F.ref08_Put [.t 12, .t 16]⟩,
      ⟨some 3, none, .mov (.t 17)⟩]
      [0, 3, 4]) [0, 3, 4])
  (.region [⟨some 10, none, .mov (.t 4)⟩,
    ⟨some 11, none, .bin .add (.t 10) (.c (.int .i64 1))⟩,
    ⟨some 4, none, .mov (.t 11)⟩]
    [0, 3, 4])))
def RC.ref08_Sort : RFn := ⟨1, [.slot 2],
  (.seq (.region [⟨some 2, none, .mov (.c (.slice none 0 0))⟩]
    [0])
  (.seq (.region [⟨some 5, none, .bslice [] [] 0 2⟩,
    ⟨some 3, none, .mov (.t 5)⟩]
    [0, 3])
  (.seq (.seq (.region [⟨some 4, none, .mov (.c (.int .i64 0))⟩]
    [0, 3, 4])
  (.block 0
    (.loop [0, 3, 4] RB.ref08_Sort_1) [3]))
  (.seq (.region [⟨some 18, none, .mov (.t 3)⟩,
    ⟨some 2, none, .mov (.t 18)⟩]
    [2])
  .ret))))⟩

def RB.ref08_Put_1 : RCode :=
  (.seq (.seq (.drawn [⟨some 7, none, .mov (.t 5)⟩,
    ⟨some 8, none, .mov (.t 0)⟩,
    ⟨some 9, none, .len (.t 8)⟩,
    ⟨some 10, none, .bin .lss (.t 7) (.t 9)⟩,
    ⟨some 11, none, .mov (.t 10)⟩,
    ⟨some 12, some (11, true), .load true 2 (.t 3)⟩,
    ⟨some 13, some (11, true), .mov (.t 0)⟩,
    ⟨some 14, some (11, true), .mov (.t 5)⟩,
    ⟨some 15, some (11, true), .idxS 2 (.t 13) (.t 14)⟩,
    ⟨some 16, some (11, true), .load true 2 (.t 15)⟩,
    ⟨some 17, some (11, true), .call F.ref08_Ahead [.t 12, .t 16]⟩,
    ⟨some 18, some (11, true), .un .not (.t 17)⟩,
    ⟨some 19, none, .pick (.t 11) (.t 18) (.c (.bool false))⟩]
    [[], [], [1], [0, 2], [3], [4], [4], [4], [6, 7, 4], [8, 4], [5, 9, 4, 4], [10, 4], [4, 11]]
    [(0, []), (1, []), (2, []), (3, []), (4, []), (6, []), (7, []), (8, []), (5, []), (9, []), (10, []), (11, []), (12, [])]
    [[], [], [1], [0, 1, 2], [0, 1, 2, 3], [0, 1, 2, 3, 4], [0, 1, 2, 3, 4], [0, 1, 2, 3, 4], [0, 1, 2, 3, 4, 6, 7], [0, 1, 2, 3, 4, 6, 7, 8], [0, 1, 2, 3, 4, 5, 6, 7, 8, 9], [0, 1, 2, 3, 4, 5, 6, 7, 8, 9, 10], [0, 1, 2, 3, 4, 5, 6, 7, 8, 9, 10, 11]]
    [0, 3, 5, 19])
  (.cond (.t 19)
    .skip
    (.exit 0)))
  (.block 1
    (.region [⟨some 20, none, .mov (.t 5)⟩,
      ⟨some 21, none, .bin .add (.t 20) (.c (.int .i64 1))⟩,
      ⟨some 5, none, .mov (.t 21)⟩]
      [0, 3, 5]) [0, 3, 5]))
def RC.ref08_Put : RFn := ⟨2, [.slot 4],
  (.seq (.region [⟨some 3, none, .box (.t 1)⟩,
    ⟨some 4, none, .mov (.c (.slice none 0 0))⟩]
    [0, 3])
  (.seq (.region [⟨some 5, none, .mov (.c (.int .i64 0))⟩]
    [0, 3, 5])
  (.seq (.block 0
    (.loop [0, 3, 5] RB.ref08_Put_1) [0, 3, 5])
  (.seq (.region [⟨some 22, none, .bslice [] [] 0 2⟩,
    ⟨some 23, none, .mov (.t 0)⟩,
    ⟨some 24, none, .mov (.t 5)⟩,
    ⟨some 25, none, .sub 2 (.t 23) none (some (.t 24)) none⟩,
    ⟨some 26, none, .app 2 16 (.t 22) (.t 25)⟩,
    ⟨some 6, none, .mov (.t 26)⟩]
    [0, 3, 5, 6])
  (.seq (.region [⟨some 27, none, .mov (.t 6)⟩,
    ⟨some 28, none, .load true 2 (.t 3)⟩,
    ⟨some 29, none, .bslice [(.int .i64 0), (.int .i64 0)] [(0, 2, .t 28)] 1 2⟩,
    ⟨some 30, none, .app 2 16 (.t 27) (.t 29)⟩,
    ⟨some 6, none, .mov (.t 30)⟩]
    [0, 5, 6])
  (.seq (.region [⟨some 31, none, .mov (.t 6)⟩,
    ⟨some 32, none, .mov (.t 0)⟩,
    ⟨some 33, none, .mov (.t 5)⟩,
    ⟨some 34, none, .sub 2 (.t 32) (some (.t 33)) none none⟩,
    ⟨some 35, none, .app 2 16 (.t 31) (.t 34)⟩,
    ⟨some 4, none, .mov (.t 35)⟩]
    [4])
  .ret))))))⟩

def RC.order_Without : RFn := ⟨2, [.slot 4],
  (.seq (.region [⟨some 3, none, .box (.t 1)⟩,
    ⟨some 4, none, .mov (.c (.slice none 0 0))⟩]
    [0, 3])
  (.seq (.region [⟨some 5, none, .mov (.t 0)⟩,
    ⟨some 6, none, .call F.slices_Clone_api_Want_api_Want [.t 5]⟩,
    ⟨some 7, none, .mkfn (.func F.order_Without_1) [] [.t 3]⟩,
    ⟨some 8, none, .call F.slices_DeleteFunc_api_Want_api_Want [.t 6, .t 7]⟩,
    ⟨some 4, none, .mov (.t 8)⟩]
    [4])
  .ret))⟩

def RB.ref08_Without_1 : RCode :=
  (.seq (.seq (.region [⟨some 8, none, .mov (.t 6)⟩,
    ⟨some 9, none, .mov (.t 0)⟩,
    ⟨some 10, none, .len (.t 9)⟩,
    ⟨some 11, none, .bin .lss (.t 8) (.t 10)⟩]
    [0, 1, 5, 6, 11])
  (.cond (.t 11)
    .skip
    (.exit 0)))
  (.seq (.block 1
    (.seq (.region [⟨some 14, none, .mov (.t 0)⟩,
      ⟨some 15, none, .mov (.t 6)⟩,
      ⟨some 16, none, .idxS 2 (.t 14) (.t 15)⟩,
      ⟨some 17, none, .fieldAddr 0 (.t 16)⟩,
      ⟨some 18, none, .load false 1 (.t 17)⟩,
      ⟨some 19, none, .mov (.t 1)⟩,
      ⟨some 20, none, .bin .neq (.t 18) (.t 19)⟩]
      [0, 1, 5, 6, 20])
    (.cond (.t 20)
      (.region [⟨some 21, none, .mov (.t 5)⟩,
        ⟨some 22, none, .mov (.t 0)⟩,
        ⟨some 23, none, .mov (.t 6)⟩,
        ⟨some 24, none, .idxS 2 (.t 22) (.t 23)⟩,
        ⟨some 25, none, .load true 2 (.t 24)⟩,
        ⟨some 26, none, .bslice [(.int .i64 0), (.int .i64 0)] [(0, 2, .t 25)] 1 2⟩,
        ⟨some 27, none, .app 2 16 (.t 21) (.t 26)⟩,
        ⟨some 5, none, .mov (.t 27)⟩]
        [0, 1, 5, 6])
      .skip)) [0, 1, 5, 6])
  (.region [⟨some 12, none, .mov (.t 6)⟩,
    ⟨some 13, none, .bin .add (.t 12) (.c (.int .i64 1))⟩,
    ⟨some 6, none, .mov (.t 13)⟩]
    [0, 1, 5, 6])))
def RC.ref08_Without : RFn := ⟨2, [.slot 4],
  (.seq (.region [⟨some 4, none, .mov (.c (.slice none 0 0))⟩]
    [0, 1])
  (.seq (.region [⟨some 7, none, .bslice [] [] 0 2⟩,
    ⟨some 5, none, .mov (.t 7)⟩]
    [0, 1, 5])
  (.seq (.seq (.region [⟨some 6, none, .mov (.c (.int .i64 0))⟩]
    [0, 1, 5, 6])
  (.block 0
    (.loop [0, 1, 5, 6] RB.ref08_Without_1) [5]))
  (.seq (.region [⟨some 28, none, .mov (.t 5)⟩,
    ⟨some 4, none, .mov (.t 28)⟩]
    [4])
  .ret))))⟩

def RC.fixq_Add : RFn := ⟨2, [.slot 4, .slot 5],
  (.seq (.region [⟨some 4, none, .mov (.c (.int .i64 0))⟩,
    ⟨some 5, none, .mov (.c (.int .i64 0))⟩]
    [0, 1])
  (.seq (.region [⟨some 7, none, .mov (.t 0)⟩,
    ⟨some 8, none, .mov (.t 1)⟩,
    ⟨some 9, none, .bin .add (.t 7) (.t 8)⟩,
    ⟨some 6, none, .mov (.t 9)⟩]
    [0, 1, 6])
  (.seq (.seq (.region [⟨some 10, none, .mov (.t 0)⟩,
    ⟨some 11, none, .bin .geq (.t 10) (.c (.int .i64 0))⟩,
    ⟨some 12, none, .mov (.t 1)⟩,
    ⟨some 13, none, .bin .geq (.t 12) (.c (.int .i64 0))⟩,
    ⟨some 14, none, .eq false .bool (.t 11) (.t 13)⟩,
    ⟨some 15, none, .mov (.t 14)⟩,
    ⟨some 16, some (15, true), .mov (.t 6)⟩,
    ⟨some 17, some (15, true), .bin .geq (.t 16) (.c (.int .i64 0))⟩,
    ⟨some 18, some (15, true), .mov (.t 0)⟩,
    ⟨some 19, some (15, true), .bin .geq (.t 18) (.c (.int .i64 0))⟩,
    ⟨some 20, some (15, true), .eq true .bool (.t 17) (.t 19)⟩,
    ⟨some 21, none, .pick (.t 15) (.t 20) (.c (.bool false))⟩]
    [6, 21])
  (.cond (.t 21)
    (.seq (.region [⟨some 4, none, .mov (.c (.int .i64 0))⟩,
      ⟨some 5, none, .mov (.c (.int .i64 5))⟩]
      [4, 5])
    .ret)
    .skip))
  (.seq (.region [⟨some 22, none, .mov (.t 6)⟩,
    ⟨some 4, none, .mov (.t 22)⟩,
    ⟨some 5, none, .mov (.c (.int .i64 0))⟩]
    [4, 5])
  .ret))))⟩

def RC.ref02_Add : RFn := ⟨2, [.slot 4, .slot 5],
  (.seq (.region [⟨some 4, none, .mov (.c (.int .i64 0))⟩,
    ⟨some 5, none, .mov (.c (.bool false))⟩]
    [0, 1])
  (.seq (.seq (.region [⟨some 6, none, .mov (.t 1)⟩,
    ⟨some 7, none, .bin .gtr (.t 6) (.c (.int .i64 0))⟩,
    ⟨some 8, none, .mov (.t 7)⟩,
    ⟨some 9, some (8, true), .mov (.t 0)⟩,
    ⟨some 10, some (8, true), .mov (.t 1)⟩,
    ⟨some 11, some (8, true), .bin .sub (.c (.int .i64 9223372036854775807)) (.t 10)⟩,
    ⟨some 12, some (8, true), .bin .gtr (.t 9) (.t 11)⟩,
    ⟨some 13, none, .pick (.t 8) (.t 12) (.c (.bool false))⟩,
    ⟨some 14, none, .mov (.t 13)⟩,
    ⟨some 15, some (14, false), .mov (.t 1)⟩,
    ⟨some 16, some (14, false), .bin .lss (.t 15) (.c (.int .i64 0))⟩,
    ⟨some 17, some (14, false), .mov (.t 16)⟩,
    ⟨some 18, some (17, true), .mov (.t 0)⟩,
    ⟨some 19, some (17, true), .mov (.t 1)⟩,
    ⟨some 20, some (17, true), .bin .sub (.c (.int .i64 (-9223372036854775808))) (.t 19)⟩,
    ⟨some 21, some (17, true), .bin .lss (.t 18) (.t 20)⟩,
    ⟨some 22, some (14, false), .pick (.t 17) (.t 21) (.c (.bool false))⟩,
    ⟨some 23, none, .pick (.t 14) (.c (.bool true)) (.t 22)⟩]
    [0, 1, 23])
  (.cond (.t 23)
    (.seq (.region [⟨some 4, none, .mov (.c (.int .i64 0))⟩,
      ⟨some 5, none, .mov (.c (.bool false))⟩]
      [4, 5])
    .ret)
    .skip))
  (.seq (.region [⟨some 24, none, .mov (.t 0)⟩,
    ⟨some 25, none, .mov (.t 1)⟩,
    ⟨some 26, none, .bin .add (.t 24) (.t 25)⟩,
    ⟨some 4, none, .mov (.t 26)⟩,
    ⟨some 5, none, .mov (.c (.bool true))⟩]
    [4, 5])
  .ret)))⟩

def RC.order_compare : RFn := ⟨2, [.slot 4],
  (.seq (.region [⟨some 2, none, .box (.t 0)⟩,
    ⟨some 3, none, .box (.t 1)⟩,
    ⟨some 4, none, .mov (.c (.int .i64 0))⟩]
    [2, 3])
  (.seq (.drawn [⟨some 5, none, .fieldAddr 1 (.t 3)⟩,
    ⟨some 6, none, .load false 1 (.t 5)⟩,
    ⟨some 7, none, .fieldAddr 1 (.t 2)⟩,
    ⟨some 8, none, .load false 1 (.t 7)⟩,
    ⟨some 9, none, .call F.cmp_Compare_int [.t 6, .t 8]⟩,
    ⟨some 10, none, .fieldAddr 0 (.t 2)⟩,
    ⟨some 11, none, .load false 1 (.t 10)⟩,
    ⟨some 12, none, .fieldAddr 0 (.t 3)⟩,
    ⟨some 13, none, .load false 1 (.t 12)⟩,
    ⟨some 14, none, .call F.cmp_Compare_int [.t 11, .t 13]⟩,
    ⟨some 15, none, .bslice [(.int .i64 0), (.int .i64 0)] [(0, 1, .t 9), (1, 1, .t 14)] 2 1⟩,
    ⟨some 16, none, .call F.cmp_Or_int [.t 15]⟩,
    ⟨some 4, none, .mov (.t 16)⟩]
    [[], [0], [], [2], [1, 3], [], [5], [], [7], [6, 8, 4], [4, 9], [10, 9], [11, 11, 0, 1, 2, 3, 4, 5, 6, 7, 8, 9, 10, 11]]
    [(0, []), (2, []), (5, []), (7, []), (1, []), (3, []), (6, []), (8, []), (4, [10, 12]), (9, []), (10, []), (11, []), (12, [])]
    [[], [0], [], [2], [0, 1, 2, 3], [], [5], [], [7], [0, 1, 2, 3, 4, 5, 6, 7, 8], [0, 1, 2, 3, 4, 5, 6, 7, 8, 9], [0, 1, 2, 3, 4, 5, 6, 7, 8, 9, 10], [0, 1, 2, 3, 4, 5, 6, 7, 8, 9, 10, 11]]
    [4])
  .ret))⟩

def RC.slices_Clone_api_Want_api_Want : RFn := ⟨1, [.slot 2],
  (.seq (.region [⟨some 2, none, .mov (.c (.slice none 0 0))⟩]
    [0])
  (.seq (.seq (.region [⟨some 3, none, .mov (.t 0)⟩,
    ⟨some 4, none, .eq false .slice (.t 3) (.c (.slice none 0 0))⟩]
    [0, 4])
  (.cond (.t 4)
    (.seq (.region [⟨some 2, none, .mov (.c (.slice none 0 0))⟩]
      [2])
    .ret)
    .skip))
  (.seq (.region [⟨some 5, none, .bslice [] [] 0 2⟩,
    ⟨some 6, none, .mov (.t 0)⟩,
    ⟨some 7, none, .app 2 16 (.t 5) (.t 6)⟩,
    ⟨some 2, none, .mov (.t 7)⟩]
    [2])
  .ret)))⟩

def RC.slices_SortFunc_api_Want_api_Want : RFn := ⟨2, [],
  (.seq (.region [⟨some 5, none, .mov (.t 0)⟩,
    ⟨some 6, none, .len (.t 5)⟩,
    ⟨some 4, none, .mov (.t 6)⟩]
    [0, 1, 4])
  (.region [⟨some 7, none, .mov (.t 0)⟩,
    ⟨some 8, none, .mov (.t 4)⟩,
    ⟨some 9, none, .mov (.t 4)⟩,
    ⟨some 10, none, .conv .u64 (.t 9)⟩,
    ⟨some 11, none, .call F.math_bits_Len [.t 10]⟩,
    ⟨some 12, none, .mov (.t 1)⟩,
    ⟨some 13, none, .call F.slices_pdqsortCmpFunc_api_Want [.t 7, .c (.int .i64 0), .t 8, .t 11, .t 12]⟩]
    []))⟩

def RB.slices_DeleteFunc_api_Want_api_Want_1 : RCode :=
  (.seq (.seq (.region [⟨some 16, none, .mov (.t 6)⟩,
    ⟨some 17, none, .mov (.t 0)⟩,
    ⟨some 18, none, .len (.t 17)⟩,
    ⟨some 19, none, .bin .lss (.t 16) (.t 18)⟩]
    [0, 1, 5, 6, 19])
  (.cond (.t 19)
    .skip
    (.exit 0)))
  (.seq (.block 1
    (.seq (.region [⟨some 22, none, .mov (.t 0)⟩,
      ⟨some 23, none, .mov (.t 6)⟩,
      ⟨some 24, none, .idxS 2 (.t 22) (.t 23)⟩,
      ⟨some 25, none, .load true 2 (.t 24)⟩,
      ⟨some 7, none, .alloc [(.int .i64 0), (.int .i64 0)]⟩,
      ⟨none, none, .store 2 (.t 7) (.t 25)⟩]
      [0, 1, 5, 6, 7])
    (.seq (.region [⟨some 26, none, .mov (.t 1)⟩,
      ⟨some 27, none, .load true 2 (.t 7)⟩,
      ⟨some 28, none, .callv (.t 26) [.t 27]⟩,
      ⟨some 29, none, .un .not (.t 28)⟩]
      [0, 1, 5, 6, 7, 29])
    (.cond (.t 29)
      (.seq (.region [⟨some 30, none, .mov (.t 0)⟩,
        ⟨some 31, none, .mov (.t 5)⟩,
        ⟨some 32, none, .load true 2 (.t 7)⟩,
        ⟨some 33, none, .idxS 2 (.t 30) (.t 31)⟩,
        ⟨none, none, .store 2 (.t 33) (.t 32)⟩]
        [0, 1, 5, 6])
      (.region [⟨some 34, none, .mov (.t 5)⟩,
        ⟨some 35, none, .bin .add (.t 34) (.c (.int .i64 1))⟩,
        ⟨some 5, none, .mov (.t 35)⟩]
        [0, 1, 5, 6]))
      .skip))) [0, 1, 5, 6])
  (.region [⟨some 20, none, .mov (.t 6)⟩,
    ⟨some 21, none, .bin .add (.t 20) (.c (.int .i64 1))⟩,
    ⟨some 6, none, .mov (.t 21)⟩]
    [0, 1, 5, 6])))
def RC.slices_DeleteFunc_api_Want_api_Want : RFn := ⟨2, [.slot 4],
  (.seq (.region [⟨some 4, none, .mov (.c (.slice none 0 0))⟩]
    [0, 1])
  (.seq (.region [⟨some 8, none, .mov (.t 0)⟩,
    ⟨some 9, none, .mov (.t 1)⟩,
    ⟨some 10, none, .call F.slices_IndexFunc_api_Want_api_Want [.t 8, .t 9]⟩,
    ⟨some 5, none, .mov (.t 10)⟩]
    [0, 1, 5])
  (.seq (.seq (.region [⟨some 11, none, .mov (.t 5)⟩,
    ⟨some 12, none, .bin .eql (.t 11) (.c (.int .i64 (-1)))⟩]
    [0, 1, 5, 12])
  (.cond (.t 12)
    (.seq (.region [⟨some 13, none, .mov (.t 0)⟩,
      ⟨some 4, none, .mov (.t 13)⟩]
      [4])
    .ret)
    .skip))
  (.seq (.seq (.region [⟨some 14, none, .mov (.t 5)⟩,
    ⟨some 15, none, .bin .add (.t 14) (.c (.int .i64 1))⟩,
    ⟨some 6, none, .mov (.t 15)⟩]
    [0, 1, 5, 6])
  (.block 0
    (.loop [0, 1, 5, 6] RB.slices_DeleteFunc_api_Want_api_Want_1) [0, 5]))
  (.seq (.region [⟨some 36, none, .mov (.t 0)⟩,
    ⟨some 37, none, .mov (.t 5)⟩,
    ⟨some 38, none, .sub 2 (.t 36) (some (.t 37)) none none⟩,
    ⟨none, none, .clr 2 [(.int .i64 0), (.int .i64 0)] (.t 38)⟩]
    [0, 5])
  (.seq (.region [⟨some 39, none, .mov (.t 0)⟩,
    ⟨some 40, none, .mov (.t 5)⟩,
    ⟨some 41, none, .sub 2 (.t 39) none (some (.t 40)) none⟩,
    ⟨some 4, none, .mov (.t 41)⟩]
    [4])
  .ret))))))⟩

def RC.order_Without_1 : RFn := ⟨2, [.slot 3],
  (.seq (.region [⟨some 2, none, .box (.t 0)⟩,
    ⟨some 3, none, .mov (.c (.bool false))⟩]
    [1, 2])
  (.seq (.region [⟨some 4, none, .fieldAddr 0 (.t 2)⟩,
    ⟨some 5, none, .load false 1 (.t 4)⟩,
    ⟨some 6, none, .load false 1 (.t 1)⟩,
    ⟨some 7, none, .bin .eql (.t 5) (.t 6)⟩,
    ⟨some 3, none, .mov (.t 7)⟩]
    [3])
  .ret))⟩

def RB.cmp_Or_int_1 : RCode :=
  (.seq (.region [⟨some 9, none, .bin .lss (.t 8) (.t 7)⟩]
    [3, 6, 7, 8, 9])
  (.seq (.cond (.t 9)
    .skip
    (.exit 0))
  (.seq (.block 1
    (.seq (.region [⟨some 10, none, .idxS 1 (.t 6) (.t 8)⟩,
      ⟨some 11, none, .load false 1 (.t 10)⟩,
      ⟨some 5, none, .mov (.t 11)⟩]
      [3, 5, 6, 7, 8])
    (.seq (.region [⟨some 12, none, .mov (.t 5)⟩,
      ⟨some 13, none, .mov (.t 3)⟩,
      ⟨some 14, none, .bin .neq (.t 12) (.t 13)⟩]
      [3, 5, 6, 7, 8, 14])
    (.cond (.t 14)
      (.seq (.region [⟨some 15, none, .mov (.t 5)⟩,
        ⟨some 2, none, .mov (.t 15)⟩]
        [2])
      .ret)
      .skip))) [3, 6, 7, 8])
  (.region [⟨some 16, none, .bin .add (.t 8) (.c (.int .i64 1))⟩,
    ⟨some 8, none, .mov (.t 16)⟩]
    [3, 6, 7, 8]))))
def RC.cmp_Or_int : RFn := ⟨1, [.slot 2],
  (.seq (.region [⟨some 2, none, .mov (.c (.int .i64 0))⟩]
    [0])
  (.seq (.region [⟨some 3, none, .mov (.c (.int .i64 0))⟩]
    [0, 3])
  (.seq (.seq (.region [⟨some 6, none, .mov (.t 0)⟩,
    ⟨some 7, none, .len (.t 6)⟩,
    ⟨some 8, none, .mov (.c (.int .i64 0))⟩]
    [3, 6, 7, 8])
  (.block 0
    (.loop [3, 6, 7, 8] RB.cmp_Or_int_1) [3]))
  (.seq (.region [⟨some 17, none, .mov (.t 3)⟩,
    ⟨some 2, none, .mov (.t 17)⟩]
    [2])
  .ret))))⟩

def RC.cmp_Compare_int : RFn := ⟨2, [.slot 4],
  (.seq (.region [⟨some 4, none, .mov (.c (.int .i64 0))⟩]
    [0, 1])
  (.seq (.region [⟨some 7, none, .mov (.t 0)⟩,
    ⟨some 8, none, .call F.cmp_isNaN_int [.t 7]⟩,
    ⟨some 5, none, .mov (.t 8)⟩]
    [0, 1, 5])
  (.seq (.region [⟨some 9, none, .mov (.t 1)⟩,
    ⟨some 10, none, .call F.cmp_isNaN_int [.t 9]⟩,
    ⟨some 6, none, .mov (.t 10)⟩]
    [0, 1, 5, 6])
  (.seq (.seq (.region [⟨some 11, none, .mov (.t 5)⟩]
    [0, 1, 6, 11])
  (.cond (.t 11)
    (.seq (.seq (.region [⟨some 12, none, .mov (.t 6)⟩]
      [12])
    (.cond (.t 12)
      (.seq (.region [⟨some 4, none, .mov (.c (.int .i64 0))⟩]
        [4])
      .ret)
      .skip))
    (.seq (.region [⟨some 4, none, .mov (.c (.int .i64 (-1)))⟩]
      [4])
    .ret))
    .skip))
  (.seq (.seq (.region [⟨some 13, none, .mov (.t 6)⟩]
    [0, 1, 13])
  (.cond (.t 13)
    (.seq (.region [⟨some 4, none, .mov (.c (.int .i64 1))⟩]
      [4])
    .ret)
    .skip))
  (.seq (.seq (.region [⟨some 14, none, .mov (.t 0)⟩,
    ⟨some 15, none, .mov (.t 1)⟩,
    ⟨some 16, none, .bin .lss (.t 14) (.t 15)⟩]
    [0, 1, 16])
  (.cond (.t 16)
    (.seq (.region [⟨some 4, none, .mov (.c (.int .i64 (-1)))⟩]
      [4])
    .ret)
    .skip))
  (.seq (.seq (.region [⟨some 17, none, .mov (.t 0)⟩,
    ⟨some 18, none, .mov (.t 1)⟩,
    ⟨some 19, none, .bin .gtr (.t 17) (.t 18)⟩]
    [19])
  (.cond (.t 19)
    (.seq (.region [⟨some 4, none, .mov (.c (.int .i64 1))⟩]
      [4])
    .ret)
    .skip))
  (.seq (.region [⟨some 4, none, .mov (.c (.int .i64 0))⟩]
    [4])
  .ret))))))))⟩

def RB.slices_pdqsortCmpFunc_api_Want_1 : RCode :=
  (.block 1
    (.seq (.region [⟨some 21, none, .mov (.t 2)⟩,
      ⟨some 22, none, .mov (.t 1)⟩,
      ⟨some 23, none, .bin .sub (.t 21) (.t 22)⟩,
      ⟨some 12, none, .mov (.t 23)⟩]
      [0, 1, 2, 3, 4, 10, 11, 12])
    (.seq (.seq (.region [⟨some 24, none, .mov (.t 12)⟩,
      ⟨some 25, none, .bin .leq (.t 24) (.c (.int .i64 12))⟩]
      [0, 1, 2, 3, 4, 10, 11, 12, 25])
    (.cond (.t 25)
      (.seq (.region [⟨some 26, none, .mov (.t 0)⟩,
        ⟨some 27, none, .mov (.t 1)⟩,
        ⟨some 28, none, .mov (.t 2)⟩,
        ⟨some 29, none, .mov (.t 4)⟩,
        ⟨some 30, none, .call F.slices_insertionSortCmpFunc_api_Want [.t 26, .t 27, .t 28, .t 29]⟩]
        [])
      .ret)
      .skip))
    (.seq (.seq (.region [⟨some 31, none, .mov (.t 3)⟩,
      ⟨some 32, none, .bin .eql (.t 31) (.c (.int .i64 0))⟩]
      [0, 1, 2, 3, 4, 10, 11, 12, 32])
    (.cond (.t 32)
      (.seq (.region [⟨some 33, none, .mov (.t 0)⟩,
        ⟨some 34, none, .mov (.t 1)⟩,
        ⟨some 35, none, .mov (.t 2)⟩,
        ⟨some 36, none, .mov (.t 4)⟩,
        ⟨some 37, none, .call F.slices_heapSortCmpFunc_api_Want [.t 33, .t 34, .t 35, .t 36]⟩]
        [])
      .ret)
      .skip))
    (.seq (.seq (.region [⟨some 38, none, .mov (.t 10)⟩,
      ⟨some 39, none, .un .not (.t 38)⟩]
      [0, 1, 2, 3, 4, 10, 11, 12, 39])
    (.cond (.t 39)
      (.seq (.region [⟨some 40, none, .mov (.t 0)⟩,
        ⟨some 41, none, .mov (.t 1)⟩,
        ⟨some 42, none, .mov (.t 2)⟩,
        ⟨some 43, none, .mov (.t 4)⟩,
        ⟨some 44, none, .call F.slices_breakPatternsCmpFunc_api_Want [.t 40, .t 41, .t 42, .t 43]⟩]
        [0, 1, 2, 3, 4, 10, 11, 12])
      (.region [⟨some 45, none, .mov (.t 3)⟩,
        ⟨some 46, none, .bin .sub (.t 45) (.c (.int .i64 1))⟩,
        ⟨some 3, none, .mov (.t 46)⟩]
        [0, 1, 2, 3, 4, 10, 11, 12]))
      .skip))
    (.seq (.region [⟨some 48, none, .mov (.t 0)⟩,
      ⟨some 49, none, .mov (.t 1)⟩,
      ⟨some 50, none, .mov (.t 2)⟩,
      ⟨some 51, none, .mov (.t 4)⟩,
      ⟨some 52, none, .call F.slices_choosePivotCmpFunc_api_Want [.t 48, .t 49, .t 50, .t 51]⟩,
      ⟨some 47, none, .mov (.t 52)⟩,
      ⟨some 53, none, .ext 0 (.t 47)⟩,
      ⟨some 54, none, .ext 1 (.t 47)⟩,
      ⟨some 13, none, .mov (.t 53)⟩,
      ⟨some 14, none, .mov (.t 54)⟩]
      [0, 1, 2, 3, 4, 10, 11, 12, 13, 14])
    (.seq (.seq (.region [⟨some 55, none, .mov (.t 14)⟩,
      ⟨some 56, none, .bin .eql (.t 55) (.c (.int .i64 2))⟩]
      [0, 1, 2, 3, 4, 10, 11, 12, 13, 14, 56])
    (.cond (.t 56)
      (.seq (.region [⟨some 57, none, .mov (.t 0)⟩,
        ⟨some 58, none, .mov (.t 1)⟩,
        ⟨some 59, none, .mov (.t 2)⟩,
        ⟨some 60, none, .mov (.t 4)⟩,
        ⟨some 61, none, .call F.slices_reverseRangeCmpFunc_api_Want [.t 57, .t 58, .t 59, .t 60]⟩]
        [0, 1, 2, 3, 4, 10, 11, 12, 13])
      (.seq (.region [⟨some 62, none, .mov (.t 2)⟩,
        ⟨some 63, none, .bin .sub (.t 62) (.c (.int .i64 1))⟩,
        ⟨some 64, none, .mov (.t 13)⟩,
        ⟨some 65, none, .mov (.t 1)⟩,
        ⟨some 66, none, .bin .sub (.t 64) (.t 65)⟩,
        ⟨some 67, none, .bin .sub (.t 63) (.t 66)⟩,
        ⟨some 13, none, .mov (.t 67)⟩]
        [0, 1, 2, 3, 4, 10, 11, 12, 13])
      (.region [⟨some 14, none, .mov (.c (.int .i64 1))⟩]
        [0, 1, 2, 3, 4, 10, 11, 12, 13, 14])))
      .skip))
    (.seq (.seq (.region [⟨some 68, none, .mov (.t 10)⟩,
      ⟨some 69, none, .mov (.t 68)⟩,
      ⟨some 70, some (69, true), .mov (.t 11)⟩,
      ⟨some 71, none, .pick (.t 69) (.t 70) (.c (.bool false))⟩,
      ⟨some 72, none, .mov (.t 71)⟩,
      ⟨some 73, some (72, true), .mov (.t 14)⟩,
      ⟨some 74, some (72, true), .bin .eql (.t 73) (.c (.int .i64 1))⟩,
      ⟨some 75, none, .pick (.t 72) (.t 74) (.c (.bool false))⟩]
      [0, 1, 2, 3, 4, 10, 11, 12, 13, 75])
    (.cond (.t 75)
      (.seq (.region [⟨some 76, none, .mov (.t 0)⟩,
        ⟨some 77, none, .mov (.t 1)⟩,
        ⟨some 78, none, .mov (.t 2)⟩,
        ⟨some 79, none, .mov (.t 4)⟩,
        ⟨some 80, none, .call F.slices_partialInsertionSortCmpFunc_api_Want [.t 76, .t 77, .t 78, .t 79]⟩]
        [0, 1, 2, 3, 4, 10, 11, 12, 13, 80])
      (.cond (.t 80)
        .ret
        .skip))
      .skip))
    (.seq (.seq (.drawn [⟨some 81, none, .mov (.t 1)⟩,
      ⟨some 82, none, .bin .gtr (.t 81) (.c (.int .i64 0))⟩,
      ⟨some 83, none, .mov (.t 82)⟩,
      ⟨some 84, some (83, true), .mov (.t 4)⟩,
      ⟨some 85, some (83, true), .mov (.t 0)⟩,
      ⟨some 86, some (83, true), .mov (.t 1)⟩,
      ⟨some 87, some (83, true), .bin .sub (.t 86) (.c (.int .i64 1))⟩,
      ⟨some 88, some (83, true), .idxS 2 (.t 85) (.t 87)⟩,
      ⟨some 89, some (83, true), .load true 2 (.t 88)⟩,
      ⟨some 90, some (83, true), .mov (.t 0)⟩,
      ⟨some 91, some (83, true), .mov (.t 13)⟩,
      ⟨some 92, some (83, true), .idxS 2 (.t 90) (.t 91)⟩,
      ⟨some 93, some (83, true), .load true 2 (.t 92)⟩,
      ⟨some 94, some (83, true), .callv (.t 84) [.t 89, .t 93]⟩,
      ⟨some 95, some (83, true), .bin .lss (.t 94) (.c (.int .i64 0))⟩,
      ⟨some 96, some (83, true), .un .not (.t 95)⟩,
      ⟨some 97, none, .pick (.t 83) (.t 96) (.c (.bool false))⟩]
      [[], [0], [1], [2], [2], [2], [5, 2], [4, 6, 2], [7, 2], [2], [2], [9, 10, 2], [11, 2], [3, 8, 12, 2, 2], [13, 2], [14, 2], [2, 15]]
      [(0, []), (1, []), (2, []), (3, []), (4, []), (5, []), (6, []), (7, []), (9, []), (10, []), (11, []), (8, []), (12, []), (13, []), (14, []), (15, []), (16, [])]
      [[], [0], [0, 1], [0, 1, 2], [0, 1, 2], [0, 1, 2], [0, 1, 2, 5], [0, 1, 2, 4, 5, 6], [0, 1, 2, 4, 5, 6, 7], [0, 1, 2], [0, 1, 2], [0, 1, 2, 9, 10], [0, 1, 2, 9, 10, 11], [0, 1, 2, 3, 4, 5, 6, 7, 8, 9, 10, 11, 12], [0, 1, 2, 3, 4, 5, 6, 7, 8, 9, 10, 11, 12, 13], [0, 1, 2, 3, 4, 5, 6, 7, 8, 9, 10, 11, 12, 13, 14], [0, 1, 2, 3, 4, 5, 6, 7, 8, 9, 10, 11, 12, 13, 14, 15]]
      [0, 1, 2, 3, 4, 10, 11, 12, 13, 97])
    (.cond (.t 97)
      (.seq (.region [⟨some 98, none, .mov (.t 0)⟩,
        ⟨some 99, none, .mov (.t 1)⟩,
        ⟨some 100, none, .mov (.t 2)⟩,
        ⟨some 101, none, .mov (.t 13)⟩,
        ⟨some 102, none, .mov (.t 4)⟩,
        ⟨some 103, none, .call F.slices_partitionEqualCmpFunc_api_Want [.t 98, .t 99, .t 100, .t 101, .t 102]⟩,
        ⟨some 15, none, .mov (.t 103)⟩]
        [0, 2, 3, 4, 10, 11, 15])
      (.seq (.region [⟨some 104, none, .mov (.t 15)⟩,
        ⟨some 1, none, .mov (.t 104)⟩]
        [0, 1, 2, 3, 4, 10, 11])
      (.exit 1)))
      .skip))
    (.seq (.region [⟨some 106, none, .mov (.t 0)⟩,
      ⟨some 107, none, .mov (.t 1)⟩,
      ⟨some 108, none, .mov (.t 2)⟩,
      ⟨some 109, none, .mov (.t 13)⟩,
      ⟨some 110, none, .mov (.t 4)⟩,
      ⟨some 111, none, .call F.slices_partitionCmpFunc_api_Want [.t 106, .t 107, .t 108, .t 109, .t 110]⟩,
      ⟨some 105, none, .mov (.t 111)⟩,
      ⟨some 112, none, .ext 0 (.t 105)⟩,
      ⟨some 113, none, .ext 1 (.t 105)⟩,
      ⟨some 16, none, .mov (.t 112)⟩,
      ⟨some 17, none, .mov (.t 113)⟩]
      [0, 1, 2, 3, 4, 12, 16, 17])
    (.seq (.region [⟨some 114, none, .mov (.t 17)⟩,
      ⟨some 11, none, .mov (.t 114)⟩]
      [0, 1, 2, 3, 4, 11, 12, 16])
    (.seq (.region [⟨some 115, none, .mov (.t 16)⟩,
      ⟨some 116, none, .mov (.t 1)⟩,
      ⟨some 117, none, .bin .sub (.t 115) (.t 116)⟩,
      ⟨some 118, none, .mov (.t 2)⟩,
      ⟨some 119, none, .mov (.t 16)⟩,
      ⟨some 120, none, .bin .sub (.t 118) (.t 119)⟩,
      ⟨some 18, none, .mov (.t 117)⟩,
      ⟨some 19, none, .mov (.t 120)⟩]
      [0, 1, 2, 3, 4, 11, 12, 16, 18, 19])
    (.seq (.region [⟨some 121, none, .mov (.t 12)⟩,
      ⟨some 122, none, .bin .quo (.t 121) (.c (.int .i64 8))⟩,
      ⟨some 20, none, .mov (.t 122)⟩]
      [0, 1, 2, 3, 4, 11, 16, 18, 19, 20])
    (.seq (.region [⟨some 123, none, .mov (.t 18)⟩,
      ⟨some 124, none, .mov (.t 19)⟩,
      ⟨some 125, none, .bin .lss (.t 123) (.t 124)⟩]
      [0, 1, 2, 3, 4, 11, 16, 18, 19, 20, 125])
    (.cond (.t 125)
      (.seq (.region [⟨some 126, none, .mov (.t 18)⟩,
        ⟨some 127, none, .mov (.t 20)⟩,
        ⟨some 128, none, .bin .geq (.t 126) (.t 127)⟩,
        ⟨some 10, none, .mov (.t 128)⟩]
        [0, 1, 2, 3, 4, 10, 11, 16])
      (.seq (.region [⟨some 129, none, .mov (.t 0)⟩,
        ⟨some 130, none, .mov (.t 1)⟩,
        ⟨some 131, none, .mov (.t 16)⟩,
        ⟨some 132, none, .mov (.t 3)⟩,
        ⟨some 133, none, .mov (.t 4)⟩,
        ⟨some 134, none, .call F.slices_pdqsortCmpFunc_api_Want [.t 129, .t 130, .t 131, .t 132, .t 133]⟩]
        [0, 2, 3, 4, 10, 11, 16])
      (.region [⟨some 135, none, .mov (.t 16)⟩,
        ⟨some 136, none, .bin .add (.t 135) (.c (.int .i64 1))⟩,
        ⟨some 1, none, .mov (.t 136)⟩]
        [0, 1, 2, 3, 4, 10, 11])))
      (.seq (.region [⟨some 137, none, .mov (.t 19)⟩,
        ⟨some 138, none, .mov (.t 20)⟩,
        ⟨some 139, none, .bin .geq (.t 137) (.t 138)⟩,
        ⟨some 10, none, .mov (.t 139)⟩]
        [0, 1, 2, 3, 4, 10, 11, 16])
      (.seq (.region [⟨some 140, none, .mov (.t 0)⟩,
        ⟨some 141, none, .mov (.t 16)⟩,
        ⟨some 142, none, .bin .add (.t 141) (.c (.int .i64 1))⟩,
        ⟨some 143, none, .mov (.t 2)⟩,
        ⟨some 144, none, .mov (.t 3)⟩,
        ⟨some 145, none, .mov (.t 4)⟩,
        ⟨some 146, none, .call F.slices_pdqsortCmpFunc_api_Want [.t 140, .t 142, .t 143, .t 144, .t 145]⟩]
        [0, 1, 3, 4, 10, 11, 16])
      (.region [⟨some 147, none, .mov (.t 16)⟩,
        ⟨some 2, none, .mov (.t 147)⟩]
        [0, 1, 2, 3, 4, 10, 11]))))))))))))))))) [0, 1, 2, 3, 4, 10, 11])
def RC.slices_pdqsortCmpFunc_api_Want : RFn := ⟨5, [],
  (.seq (.region [⟨some 10, none, .mov (.c (.bool true))⟩]
    [0, 1, 2, 3, 4, 10])
  (.seq (.region [⟨some 11, none, .mov (.c (.bool true))⟩]
    [0, 1, 2, 3, 4, 10, 11])
  (.block 0
    (.loop [0, 1, 2, 3, 4, 10, 11] RB.slices_pdqsortCmpFunc_api_Want_1) [])))⟩

def RC.math_bits_Len : RFn := ⟨1, [.slot 2],
  (.seq (.region [⟨some 2, none, .mov (.c (.int .i64 0))⟩]
    [0])
  (.seq (.cond (.c (.bool false))
    (.seq (.region [⟨some 3, none, .mov (.t 0)⟩,
      ⟨some 4, none, .conv .u32 (.t 3)⟩,
      ⟨some 5, none, .call F.math_bits_Len32 [.t 4]⟩,
      ⟨some 2, none, .mov (.t 5)⟩]
      [2])
    .ret)
    .skip)
  (.seq (.region [⟨some 6, none, .mov (.t 0)⟩,
    ⟨some 7, none, .call F.math_bits_Len64 [.t 6]⟩,
    ⟨some 2, none, .mov (.t 7)⟩]
    [2])
  .ret)))⟩

def RB.slices_IndexFunc_api_Want_api_Want_1 : RCode :=
  (.seq (.region [⟨some 9, none, .bin .lss (.t 8) (.t 7)⟩]
    [0, 1, 7, 8, 9])
  (.seq (.cond (.t 9)
    .skip
    (.exit 0))
  (.seq (.block 1
    (.seq (.region [⟨some 10, none, .mov (.t 8)⟩,
      ⟨some 5, none, .mov (.t 10)⟩]
      [0, 1, 5, 7, 8])
    (.seq (.region [⟨some 11, none, .mov (.t 1)⟩,
      ⟨some 12, none, .mov (.t 0)⟩,
      ⟨some 13, none, .mov (.t 5)⟩,
      ⟨some 14, none, .idxS 2 (.t 12) (.t 13)⟩,
      ⟨some 15, none, .load true 2 (.t 14)⟩,
      ⟨some 16, none, .callv (.t 11) [.t 15]⟩]
      [0, 1, 5, 7, 8, 16])
    (.cond (.t 16)
      (.seq (.region [⟨some 17, none, .mov (.t 5)⟩,
        ⟨some 4, none, .mov (.t 17)⟩]
        [4])
      .ret)
      .skip))) [0, 1, 7, 8])
  (.region [⟨some 18, none, .bin .add (.t 8) (.c (.int .i64 1))⟩,
    ⟨some 8, none, .mov (.t 18)⟩]
    [0, 1, 7, 8]))))
def RC.slices_IndexFunc_api_Want_api_Want : RFn := ⟨2, [.slot 4],
  (.seq (.region [⟨some 4, none, .mov (.c (.int .i64 0))⟩]
    [0, 1])
  (.seq (.seq (.region [⟨some 6, none, .mov (.t 0)⟩,
    ⟨some 7, none, .len (.t 6)⟩,
    ⟨some 8, none, .mov (.c (.int .i64 0))⟩]
    [0, 1, 7, 8])
  (.block 0
    (.loop [0, 1, 7, 8] RB.slices_IndexFunc_api_Want_api_Want_1) []))
  (.seq (.region [⟨some 4, none, .mov (.c (.int .i64 (-1)))⟩]
    [4])
  .ret)))⟩

def RC.cmp_isNaN_int : RFn := ⟨1, [.slot 2],
  (.seq (.region [⟨some 2, none, .mov (.c (.bool false))⟩]
    [0])
  (.seq (.region [⟨some 3, none, .mov (.t 0)⟩,
    ⟨some 4, none, .mov (.t 0)⟩,
    ⟨some 5, none, .bin .neq (.t 3) (.t 4)⟩,
    ⟨some 2, none, .mov (.t 5)⟩]
    [2])
  .ret))⟩

def RB.slices_insertionSortCmpFunc_api_Want_1 : RCode :=
  (.seq (.seq (.drawn [⟨some 18, none, .mov (.t 9)⟩,
    ⟨some 19, none, .mov (.t 1)⟩,
    ⟨some 20, none, .bin .gtr (.t 18) (.t 19)⟩,
    ⟨some 21, none, .mov (.t 20)⟩,
    ⟨some 22, some (21, true), .mov (.t 3)⟩,
    ⟨some 23, some (21, true), .mov (.t 0)⟩,
    ⟨some 24, some (21, true), .mov (.t 9)⟩,
    ⟨some 25, some (21, true), .idxS 2 (.t 23) (.t 24)⟩,
    ⟨some 26, some (21, true), .load true 2 (.t 25)⟩,
    ⟨some 27, some (21, true), .mov (.t 0)⟩,
    ⟨some 28, some (21, true), .mov (.t 9)⟩,
    ⟨some 29, some (21, true), .bin .sub (.t 28) (.c (.int .i64 1))⟩,
    ⟨some 30, some (21, true), .idxS 2 (.t 27) (.t 29)⟩,
    ⟨some 31, some (21, true), .load true 2 (.t 30)⟩,
    ⟨some 32, some (21, true), .callv (.t 22) [.t 26, .t 31]⟩,
    ⟨some 33, some (21, true), .bin .lss (.t 32) (.c (.int .i64 0))⟩,
    ⟨some 34, none, .pick (.t 21) (.t 33) (.c (.bool false))⟩]
    [[], [], [0, 1], [2], [3], [3], [3], [5, 6, 3], [7, 3], [3], [3], [10, 3], [9, 11, 3], [12, 3], [4, 8, 13, 3, 3], [14, 3], [3, 15]]
    [(0, []), (1, []), (2, []), (3, []), (4, []), (5, []), (6, []), (7, []), (9, []), (10, []), (11, []), (12, []), (8, []), (13, []), (14, []), (15, []), (16, [])]
    [[], [], [0, 1], [0, 1, 2], [0, 1, 2, 3], [0, 1, 2, 3], [0, 1, 2, 3], [0, 1, 2, 3, 5, 6], [0, 1, 2, 3, 5, 6, 7], [0, 1, 2, 3], [0, 1, 2, 3], [0, 1, 2, 3, 10], [0, 1, 2, 3, 9, 10, 11], [0, 1, 2, 3, 9, 10, 11, 12], [0, 1, 2, 3, 4, 5, 6, 7, 8, 9, 10, 11, 12, 13], [0, 1, 2, 3, 4, 5, 6, 7, 8, 9, 10, 11, 12, 13, 14], [0, 1, 2, 3, 4, 5, 6, 7, 8, 9, 10, 11, 12, 13, 14, 15]]
    [0, 1, 2, 3, 8, 9, 34])
  (.cond (.t 34)
    .skip
    (.exit 2)))
  (.seq (.block 3
    (.drawn [⟨some 37, none, .mov (.t 0)⟩,
      ⟨some 38, none, .mov (.t 9)⟩,
      ⟨some 39, none, .mov (.t 0)⟩,
      ⟨some 40, none, .mov (.t 9)⟩,
      ⟨some 41, none, .bin .sub (.t 40) (.c (.int .i64 1))⟩,
      ⟨some 42, none, .mov (.t 0)⟩,
      ⟨some 43, none, .mov (.t 9)⟩,
      ⟨some 44, none, .bin .sub (.t 43) (.c (.int .i64 1))⟩,
      ⟨some 45, none, .idxS 2 (.t 42) (.t 44)⟩,
      ⟨some 46, none, .load true 2 (.t 45)⟩,
      ⟨some 47, none, .mov (.t 0)⟩,
      ⟨some 48, none, .mov (.t 9)⟩,
      ⟨some 49, none, .idxS 2 (.t 47) (.t 48)⟩,
      ⟨some 50, none, .load true 2 (.t 49)⟩,
      ⟨some 51, none, .idxS 2 (.t 37) (.t 38)⟩,
      ⟨none, none, .store 2 (.t 51) (.t 46)⟩,
      ⟨some 52, none, .idxS 2 (.t 39) (.t 41)⟩,
      ⟨none, none, .store 2 (.t 52) (.t 50)⟩]
      [[], [], [], [], [3], [], [], [6], [5, 7], [8], [], [], [10, 11], [12], [0, 1, 0, 1, 5, 6, 7, 8, 9, 13], [14, 9, 0, 1, 5, 6, 7, 8, 9, 13], [2, 4, 0, 1, 2, 3, 4, 5, 6, 7, 8, 9, 10, 11, 12, 13, 14, 15], [16, 13, 15, 0, 1, 2, 3, 4, 5, 6, 7, 8, 9, 10, 11, 12, 13, 14, 15]]
      [(0, []), (1, []), (2, []), (3, []), (4, []), (5, []), (6, []), (7, []), (8, []), (10, []), (11, []), (12, []), (9, []), (13, []), (14, []), (15, []), (16, []), (17, [])]
      [[], [], [], [], [3], [], [], [6], [5, 6, 7], [5, 6, 7, 8], [], [], [10, 11], [10, 11, 12], [0, 1, 5, 6, 7, 8, 9, 10, 11, 12, 13], [0, 1, 5, 6, 7, 8, 9, 10, 11, 12, 13, 14], [0, 1, 2, 3, 4, 5, 6, 7, 8, 9, 10, 11, 12, 13, 14, 15], [0, 1, 2, 3, 4, 5, 6, 7, 8, 9, 10, 11, 12, 13, 14, 15, 16]]
      [0, 1, 2, 3, 8, 9]) [0, 1, 2, 3, 8, 9])
  (.region [⟨some 35, none, .mov (.t 9)⟩,
    ⟨some 36, none, .bin .sub (.t 35) (.c (.int .i64 1))⟩,
    ⟨some 9, none, .mov (.t 36)⟩]
    [0, 1, 2, 3, 8, 9])))
def RB.slices_insertionSortCmpFunc_api_Want_2 : RCode :=
  (.seq (.seq (.region [⟨some 12, none, .mov (.t 8)⟩,
    ⟨some 13, none, .mov (.t 2)⟩,
    ⟨some 14, none, .bin .lss (.t 12) (.t 13)⟩]
    [0, 1, 2, 3, 8, 14])
  (.cond (.t 14)
    .skip
    (.exit 0)))
  (.seq (.block 1
    (.seq (.region [⟨some 17, none, .mov (.t 8)⟩,
      ⟨some 9, none, .mov (.t 17)⟩]
      [0, 1, 2, 3, 8, 9])
    (.block 2
      (.loop [0, 1, 2, 3, 8, 9] RB.slices_insertionSortCmpFunc_api_Want_1) [0, 1, 2, 3, 8])) [0, 1, 2, 3, 8])
  (.region [⟨some 15, none, .mov (.t 8)⟩,
    ⟨some 16, none, .bin .add (.t 15) (.c (.int .i64 1))⟩,
    ⟨some 8, none, .mov (.t 16)⟩]
    [0, 1, 2, 3, 8])))
def RC.slices_insertionSortCmpFunc_api_Want : RFn := ⟨4, [],
  (.seq (.region [⟨some 10, none, .mov (.t 1)⟩,
    ⟨some 11, none, .bin .add (.t 10) (.c (.int .i64 1))⟩,
    ⟨some 8, none, .mov (.t 11)⟩]
    [0, 1, 2, 3, 8])
  (.block 0
    (.loop [0, 1, 2, 3, 8] RB.slices_insertionSortCmpFunc_api_Want_2) []))⟩

def RB.slices_heapSortCmpFunc_api_Want_1 : RCode :=
  (.seq (.seq (.region [⟨some 32, none, .mov (.t 12)⟩,
    ⟨some 33, none, .bin .geq (.t 32) (.c (.int .i64 0))⟩]
    [0, 3, 8, 9, 12, 33])
  (.cond (.t 33)
    .skip
    (.exit 2)))
  (.seq (.block 3
    (.seq (.drawn [⟨some 36, none, .mov (.t 0)⟩,
      ⟨some 37, none, .mov (.t 8)⟩,
      ⟨some 38, none, .mov (.t 0)⟩,
      ⟨some 39, none, .mov (.t 8)⟩,
      ⟨some 40, none, .mov (.t 12)⟩,
      ⟨some 41, none, .bin .add (.t 39) (.t 40)⟩,
      ⟨some 42, none, .mov (.t 0)⟩,
      ⟨some 43, none, .mov (.t 8)⟩,
      ⟨some 44, none, .mov (.t 12)⟩,
      ⟨some 45, none, .bin .add (.t 43) (.t 44)⟩,
      ⟨some 46, none, .idxS 2 (.t 42) (.t 45)⟩,
      ⟨some 47, none, .load true 2 (.t 46)⟩,
      ⟨some 48, none, .mov (.t 0)⟩,
      ⟨some 49, none, .mov (.t 8)⟩,
      ⟨some 50, none, .idxS 2 (.t 48) (.t 49)⟩,
      ⟨some 51, none, .load true 2 (.t 50)⟩,
      ⟨some 52, none, .idxS 2 (.t 36) (.t 37)⟩,
      ⟨none, none, .store 2 (.t 52) (.t 47)⟩,
      ⟨some 53, none, .idxS 2 (.t 38) (.t 41)⟩,
      ⟨none, none, .store 2 (.t 53) (.t 51)⟩]
      [[], [], [], [], [], [3, 4], [], [], [], [7, 8], [6, 9], [10], [], [], [12, 13], [14], [0, 1, 0, 1, 6, 7, 8, 9, 10, 11, 15], [16, 11, 0, 1, 6, 7, 8, 9, 10, 11, 15], [2, 5, 0, 1, 2, 3, 4, 5, 6, 7, 8, 9, 10, 11, 12, 13, 14, 15, 16, 17], [18, 15, 17, 0, 1, 2, 3, 4, 5, 6, 7, 8, 9, 10, 11, 12, 13, 14, 15, 16, 17]]
      [(0, []), (1, []), (2, []), (3, []), (4, []), (5, []), (6, []), (7, []), (8, []), (9, []), (10, []), (12, []), (13, []), (14, []), (11, []), (15, []), (16, []), (17, []), (18, []), (19, [])]
      [[], [], [], [], [], [3, 4], [], [], [], [7, 8], [6, 7, 8, 9], [6, 7, 8, 9, 10], [], [], [12, 13], [12, 13, 14], [0, 1, 6, 7, 8, 9, 10, 11, 12, 13, 14, 15], [0, 1, 6, 7, 8, 9, 10, 11, 12, 13, 14, 15, 16], [0, 1, 2, 3, 4, 5, 6, 7, 8, 9, 10, 11, 12, 13, 14, 15, 16, 17], [0, 1, 2, 3, 4, 5, 6, 7, 8, 9, 10, 11, 12, 13, 14, 15, 16, 17, 18]]
      [0, 3, 8, 9, 12])
    (.region [⟨some 54, none, .mov (.t 0)⟩,
      ⟨some 55, none, .mov (.t 9)⟩,
      ⟨some 56, none, .mov (.t 12)⟩,
      ⟨some 57, none, .mov (.t 8)⟩,
      ⟨some 58, none, .mov (.t 3)⟩,
      ⟨some 59, none, .call F.slices_siftDownCmpFunc_api_Want [.t 54, .t 55, .t 56, .t 57, .t 58]⟩]
      [0, 3, 8, 9, 12])) [0, 3, 8, 9, 12])
  (.region [⟨some 34, none, .mov (.t 12)⟩,
    ⟨some 35, none, .bin .sub (.t 34) (.c (.int .i64 1))⟩,
    ⟨some 12, none, .mov (.t 35)⟩]
    [0, 3, 8, 9, 12])))
def RB.slices_heapSortCmpFunc_api_Want_2 : RCode :=
  (.seq (.seq (.region [⟨some 20, none, .mov (.t 11)⟩,
    ⟨some 21, none, .bin .geq (.t 20) (.c (.int .i64 0))⟩]
    [0, 3, 8, 9, 10, 11, 21])
  (.cond (.t 21)
    .skip
    (.exit 0)))
  (.seq (.block 1
    (.region [⟨some 24, none, .mov (.t 0)⟩,
      ⟨some 25, none, .mov (.t 11)⟩,
      ⟨some 26, none, .mov (.t 10)⟩,
      ⟨some 27, none, .mov (.t 8)⟩,
      ⟨some 28, none, .mov (.t 3)⟩,
      ⟨some 29, none, .call F.slices_siftDownCmpFunc_api_Want [.t 24, .t 25, .t 26, .t 27, .t 28]⟩]
      [0, 3, 8, 9, 10, 11]) [0, 3, 8, 9, 10, 11])
  (.region [⟨some 22, none, .mov (.t 11)⟩,
    ⟨some 23, none, .bin .sub (.t 22) (.c (.int .i64 1))⟩,
    ⟨some 11, none, .mov (.t 23)⟩]
    [0, 3, 8, 9, 10, 11])))
def RC.slices_heapSortCmpFunc_api_Want : RFn := ⟨4, [],
  (.seq (.region [⟨some 13, none, .mov (.t 1)⟩,
    ⟨some 8, none, .mov (.t 13)⟩]
    [0, 1, 2, 3, 8])
  (.seq (.region [⟨some 9, none, .mov (.c (.int .i64 0))⟩]
    [0, 1, 2, 3, 8, 9])
  (.seq (.region [⟨some 14, none, .mov (.t 2)⟩,
    ⟨some 15, none, .mov (.t 1)⟩,
    ⟨some 16, none, .bin .sub (.t 14) (.t 15)⟩,
    ⟨some 10, none, .mov (.t 16)⟩]
    [0, 3, 8, 9, 10])
  (.seq (.seq (.region [⟨some 17, none, .mov (.t 10)⟩,
    ⟨some 18, none, .bin .sub (.t 17) (.c (.int .i64 1))⟩,
    ⟨some 19, none, .bin .quo (.t 18) (.c (.int .i64 2))⟩,
    ⟨some 11, none, .mov (.t 19)⟩]
    [0, 3, 8, 9, 10, 11])
  (.block 0
    (.loop [0, 3, 8, 9, 10, 11] RB.slices_heapSortCmpFunc_api_Want_2) [0, 3, 8, 9, 10]))
  (.seq (.region [⟨some 30, none, .mov (.t 10)⟩,
    ⟨some 31, none, .bin .sub (.t 30) (.c (.int .i64 1))⟩,
    ⟨some 12, none, .mov (.t 31)⟩]
    [0, 3, 8, 9, 12])
  (.block 2
    (.loop [0, 3, 8, 9, 12] RB.slices_heapSortCmpFunc_api_Want_1) []))))))⟩

def RB.slices_breakPatternsCmpFunc_api_Want_1 : RCode :=
  (.seq (.seq (.region [⟨some 28, none, .mov (.t 11)⟩,
    ⟨some 29, none, .mov (.t 1)⟩,
    ⟨some 30, none, .mov (.t 8)⟩,
    ⟨some 31, none, .bin .quo (.t 30) (.c (.int .i64 4))⟩,
    ⟨some 32, none, .bin .mul (.t 31) (.c (.int .i64 2))⟩,
    ⟨some 33, none, .bin .add (.t 29) (.t 32)⟩,
    ⟨some 34, none, .bin .add (.t 33) (.c (.int .i64 1))⟩,
    ⟨some 35, none, .bin .leq (.t 28) (.t 34)⟩]
    [0, 1, 8, 9, 10, 11, 35])
  (.cond (.t 35)
    .skip
    (.exit 0)))
  (.seq (.block 1
    (.seq (.region [⟨some 38, none, .call F.slices_xorshift_Next [.t 9]⟩,
      ⟨some 39, none, .mov (.t 10)⟩,
      ⟨some 40, none, .bin .sub (.t 39) (.c (u64 1#64))⟩,
      ⟨some 41, none, .bin .and (.t 38) (.t 40)⟩,
      ⟨some 42, none, .conv .i64 (.t 41)⟩,
      ⟨some 12, none, .mov (.t 42)⟩]
      [0, 1, 8, 9, 10, 11, 12])
    (.seq (.seq (.region [⟨some 43, none, .mov (.t 12)⟩,
      ⟨some 44, none, .mov (.t 8)⟩,
      ⟨some 45, none, .bin .geq (.t 43) (.t 44)⟩]
      [0, 1, 8, 9, 10, 11, 12, 45])
    (.cond (.t 45)
      (.region [⟨some 46, none, .mov (.t 12)⟩,
        ⟨some 47, none, .mov (.t 8)⟩,
        ⟨some 48, none, .bin .sub (.t 46) (.t 47)⟩,
        ⟨some 12, none, .mov (.t 48)⟩]
        [0, 1, 8, 9, 10, 11, 12])
      .skip))
    (.drawn [⟨some 49, none, .mov (.t 0)⟩,
      ⟨some 50, none, .mov (.t 11)⟩,
      ⟨some 51, none, .mov (.t 0)⟩,
      ⟨some 52, none, .mov (.t 1)⟩,
      ⟨some 53, none, .mov (.t 12)⟩,
      ⟨some 54, none, .bin .add (.t 52) (.t 53)⟩,
      ⟨some 55, none, .mov (.t 0)⟩,
      ⟨some 56, none, .mov (.t 1)⟩,
      ⟨some 57, none, .mov (.t 12)⟩,
      ⟨some 58, none, .bin .add (.t 56) (.t 57)⟩,
      ⟨some 59, none, .idxS 2 (.t 55) (.t 58)⟩,
      ⟨some 60, none, .load true 2 (.t 59)⟩,
      ⟨some 61, none, .mov (.t 0)⟩,
      ⟨some 62, none, .mov (.t 11)⟩,
      ⟨some 63, none, .idxS 2 (.t 61) (.t 62)⟩,
      ⟨some 64, none, .load true 2 (.t 63)⟩,
      ⟨some 65, none, .idxS 2 (.t 49) (.t 50)⟩,
      ⟨none, none, .store 2 (.t 65) (.t 60)⟩,
      ⟨some 66, none, .idxS 2 (.t 51) (.t 54)⟩,
      ⟨none, none, .store 2 (.t 66) (.t 64)⟩]
      [[], [], [], [], [], [3, 4], [], [], [], [7, 8], [6, 9], [10], [], [], [12, 13], [14], [0, 1, 0, 1, 6, 7, 8, 9, 10, 11, 15], [16, 11, 0, 1, 6, 7, 8, 9, 10, 11, 15], [2, 5, 0, 1, 2, 3, 4, 5, 6, 7, 8, 9, 10, 11, 12, 13, 14, 15, 16, 17], [18, 15, 17, 0, 1, 2, 3, 4, 5, 6, 7, 8, 9, 10, 11, 12, 13, 14, 15, 16, 17]]
      [(0, []), (1, []), (2, []), (3, []), (4, []), (5, []), (6, []), (7, []), (8, []), (9, []), (10, []), (12, []), (13, []), (14, []), (11, []), (15, []), (16, []), (17, []), (18, []), (19, [])]
      [[], [], [], [], [], [3, 4], [], [], [], [7, 8], [6, 7, 8, 9], [6, 7, 8, 9, 10], [], [], [12, 13], [12, 13, 14], [0, 1, 6, 7, 8, 9, 10, 11, 12, 13, 14, 15], [0, 1, 6, 7, 8, 9, 10, 11, 12, 13, 14, 15, 16], [0, 1, 2, 3, 4, 5, 6, 7, 8, 9, 10, 11, 12, 13, 14, 15, 16, 17], [0, 1, 2, 3, 4, 5, 6, 7, 8, 9, 10, 11, 12, 13, 14, 15, 16, 17, 18]]
      [0, 1, 8, 9, 10, 11]))) [0, 1, 8, 9, 10, 11])
  (.region [⟨some 36, none, .mov (.t 11)⟩,
    ⟨some 37, none, .bin .add (.t 36) (.c (.int .i64 1))⟩,
    ⟨some 11, none, .mov (.t 37)⟩]
    [0, 1, 8, 9, 10, 11])))
def RC.slices_breakPatternsCmpFunc_api_Want : RFn := ⟨4, [],
  (.seq (.region [⟨some 13, none, .mov (.t 2)⟩,
    ⟨some 14, none, .mov (.t 1)⟩,
    ⟨some 15, none, .bin .sub (.t 13) (.t 14)⟩,
    ⟨some 8, none, .mov (.t 15)⟩]
    [0, 1, 8])
  (.seq (.region [⟨some 16, none, .mov (.t 8)⟩,
    ⟨some 17, none, .bin .geq (.t 16) (.c (.int .i64 8))⟩]
    [0, 1, 8, 17])
  (.cond (.t 17)
    (.seq (.region [⟨some 18, none, .mov (.t 8)⟩,
      ⟨some 19, none, .conv .u64 (.t 18)⟩,
      ⟨some 9, none, .alloc [(u64 0#64)]⟩,
      ⟨none, none, .store 1 (.t 9) (.t 19)⟩]
      [0, 1, 8, 9])
    (.seq (.region [⟨some 20, none, .mov (.t 8)⟩,
      ⟨some 21, none, .call F.slices_nextPowerOfTwo [.t 20]⟩,
      ⟨some 10, none, .mov (.t 21)⟩]
      [0, 1, 8, 9, 10])
    (.seq (.region [⟨some 22, none, .mov (.t 1)⟩,
      ⟨some 23, none, .mov (.t 8)⟩,
      ⟨some 24, none, .bin .quo (.t 23) (.c (.int .i64 4))⟩,
      ⟨some 25, none, .bin .mul (.t 24) (.c (.int .i64 2))⟩,
      ⟨some 26, none, .bin .add (.t 22) (.t 25)⟩,
      ⟨some 27, none, .bin .sub (.t 26) (.c (.int .i64 1))⟩,
      ⟨some 11, none, .mov (.t 27)⟩]
      [0, 1, 8, 9, 10, 11])
    (.block 0
      (.loop [0, 1, 8, 9, 10, 11] RB.slices_breakPatternsCmpFunc_api_Want_1) []))))
    .skip)))⟩

def RC.slices_choosePivotCmpFunc_api_Want : RFn := ⟨4, [.slot 8, .slot 9],
  (.seq (.region [⟨some 8, none, .mov (.c (.int .i64 0))⟩,
    ⟨some 9, none, .mov (.c (.int .i64 0))⟩]
    [0, 1, 2, 3])
  (.seq (.region [⟨some 15, none, .mov (.t 2)⟩,
    ⟨some 16, none, .mov (.t 1)⟩,
    ⟨some 17, none, .bin .sub (.t 15) (.t 16)⟩,
    ⟨some 10, none, .mov (.t 17)⟩]
    [0, 1, 3, 10])
  (.seq (.region [⟨some 11, none, .alloc [(.int .i64 0)]⟩]
    [0, 1, 3, 10, 11])
  (.seq (.region [⟨some 18, none, .mov (.t 1)⟩,
    ⟨some 19, none, .mov (.t 10)⟩,
    ⟨some 20, none, .bin .quo (.t 19) (.c (.int .i64 4))⟩,
    ⟨some 21, none, .bin .mul (.t 20) (.c (.int .i64 1))⟩,
    ⟨some 22, none, .bin .add (.t 18) (.t 21)⟩,
    ⟨some 12, none, .mov (.t 22)⟩]
    [0, 1, 3, 10, 11, 12])
  (.seq (.region [⟨some 23, none, .mov (.t 1)⟩,
    ⟨some 24, none, .mov (.t 10)⟩,
    ⟨some 25, none, .bin .quo (.t 24) (.c (.int .i64 4))⟩,
    ⟨some 26, none, .bin .mul (.t 25) (.c (.int .i64 2))⟩,
    ⟨some 27, none, .bin .add (.t 23) (.t 26)⟩,
    ⟨some 13, none, .mov (.t 27)⟩]
    [0, 1, 3, 10, 11, 12, 13])
  (.seq (.region [⟨some 28, none, .mov (.t 1)⟩,
    ⟨some 29, none, .mov (.t 10)⟩,
    ⟨some 30, none, .bin .quo (.t 29) (.c (.int .i64 4))⟩,
    ⟨some 31, none, .bin .mul (.t 30) (.c (.int .i64 3))⟩,
    ⟨some 32, none, .bin .add (.t 28) (.t 31)⟩,
    ⟨some 14, none, .mov (.t 32)⟩]
    [0, 3, 10, 11, 12, 13, 14])
  (.seq (.seq (.region [⟨some 33, none, .mov (.t 10)⟩,
    ⟨some 34, none, .bin .geq (.t 33) (.c (.int .i64 8))⟩]
    [0, 3, 10, 11, 12, 13, 14, 34])
  (.cond (.t 34)
    (.seq (.seq (.region [⟨some 35, none, .mov (.t 10)⟩,
      ⟨some 36, none, .bin .geq (.t 35) (.c (.int .i64 50))⟩]
      [0, 3, 11, 12, 13, 14, 36])
    (.cond (.t 36)
      (.seq (.region [⟨some 37, none, .mov (.t 0)⟩,
        ⟨some 38, none, .mov (.t 12)⟩,
        ⟨some 39, none, .mov (.t 3)⟩,
        ⟨some 40, none, .call F.slices_medianAdjacentCmpFunc_api_Want [.t 37, .t 38, .t 11, .t 39]⟩,
        ⟨some 12, none, .mov (.t 40)⟩]
        [0, 3, 11, 12, 13, 14])
      (.seq (.region [⟨some 41, none, .mov (.t 0)⟩,
        ⟨some 42, none, .mov (.t 13)⟩,
        ⟨some 43, none, .mov (.t 3)⟩,
        ⟨some 44, none, .call F.slices_medianAdjacentCmpFunc_api_Want [.t 41, .t 42, .t 11, .t 43]⟩,
        ⟨some 13, none, .mov (.t 44)⟩]
        [0, 3, 11, 12, 13, 14])
      (.region [⟨some 45, none, .mov (.t 0)⟩,
        ⟨some 46, none, .mov (.t 14)⟩,
        ⟨some 47, none, .mov (.t 3)⟩,
        ⟨some 48, none, .call F.slices_medianAdjacentCmpFunc_api_Want [.t 45, .t 46, .t 11, .t 47]⟩,
        ⟨some 14, none, .mov (.t 48)⟩]
        [0, 3, 11, 12, 13, 14])))
      .skip))
    (.region [⟨some 49, none, .mov (.t 0)⟩,
      ⟨some 50, none, .mov (.t 12)⟩,
      ⟨some 51, none, .mov (.t 13)⟩,
      ⟨some 52, none, .mov (.t 14)⟩,
      ⟨some 53, none, .mov (.t 3)⟩,
      ⟨some 54, none, .call F.slices_medianCmpFunc_api_Want [.t 49, .t 50, .t 51, .t 52, .t 11, .t 53]⟩,
      ⟨some 13, none, .mov (.t 54)⟩]
      [11, 13]))
    .skip))
  (.seq (.region [⟨some 55, none, .load false 1 (.t 11)⟩]
    [13, 55])
  (.block 0
    (.seq (.region [⟨some 58, none, .bin .eql (.t 55) (.c (.int .i64 0))⟩,
      ⟨some 57, none, .mov (.t 58)⟩]
      [13, 55, 57])
    (.cond (.t 57)
      (.seq (.region [⟨some 59, none, .mov (.t 13)⟩,
        ⟨some 8, none, .mov (.t 59)⟩,
        ⟨some 9, none, .mov (.c (.int .i64 1))⟩]
        [8, 9])
      .ret)
      (.seq (.region [⟨some 61, none, .bin .eql (.t 55) (.c (.int .i64 12))⟩,
        ⟨some 60, none, .mov (.t 61)⟩]
        [13, 60])
      (.cond (.t 60)
        (.seq (.region [⟨some 62, none, .mov (.t 13)⟩,
          ⟨some 8, none, .mov (.t 62)⟩,
          ⟨some 9, none, .mov (.c (.int .i64 2))⟩]
          [8, 9])
        .ret)
        (.seq (.region [⟨some 56, none, .mov (.t 13)⟩,
          ⟨some 8, none, .mov (.t 56)⟩,
          ⟨some 9, none, .mov (.c (.int .i64 0))⟩]
          [8, 9])
        .ret))))) [8, 9])))))))))⟩

def RB.slices_reverseRangeCmpFunc_api_Want_1 : RCode :=
  (.seq (.seq (.region [⟨some 13, none, .mov (.t 8)⟩,
    ⟨some 14, none, .mov (.t 9)⟩,
    ⟨some 15, none, .bin .lss (.t 13) (.t 14)⟩]
    [0, 8, 9, 15])
  (.cond (.t 15)
    .skip
    (.exit 0)))
  (.block 1
    (.seq (.drawn [⟨some 16, none, .mov (.t 0)⟩,
      ⟨some 17, none, .mov (.t 8)⟩,
      ⟨some 18, none, .mov (.t 0)⟩,
      ⟨some 19, none, .mov (.t 9)⟩,
      ⟨some 20, none, .mov (.t 0)⟩,
      ⟨some 21, none, .mov (.t 9)⟩,
      ⟨some 22, none, .idxS 2 (.t 20) (.t 21)⟩,
      ⟨some 23, none, .load true 2 (.t 22)⟩,
      ⟨some 24, none, .mov (.t 0)⟩,
      ⟨some 25, none, .mov (.t 8)⟩,
      ⟨some 26, none, .idxS 2 (.t 24) (.t 25)⟩,
      ⟨some 27, none, .load true 2 (.t 26)⟩,
      ⟨some 28, none, .idxS 2 (.t 16) (.t 17)⟩,
      ⟨none, none, .store 2 (.t 28) (.t 23)⟩,
      ⟨some 29, none, .idxS 2 (.t 18) (.t 19)⟩,
      ⟨none, none, .store 2 (.t 29) (.t 27)⟩]
      [[], [], [], [], [], [], [4, 5], [6], [], [], [8, 9], [10], [0, 1, 0, 1, 4, 5, 6, 7, 11], [12, 7, 0, 1, 4, 5, 6, 7, 11], [2, 3, 0, 1, 2, 3, 4, 5, 6, 7, 8, 9, 10, 11, 12, 13], [14, 11, 13, 0, 1, 2, 3, 4, 5, 6, 7, 8, 9, 10, 11, 12, 13]]
      [(0, []), (1, []), (2, []), (3, []), (4, []), (5, []), (6, []), (8, []), (9, []), (10, []), (7, []), (11, []), (12, []), (13, []), (14, []), (15, [])]
      [[], [], [], [], [], [], [4, 5], [4, 5, 6], [], [], [8, 9], [8, 9, 10], [0, 1, 4, 5, 6, 7, 8, 9, 10, 11], [0, 1, 4, 5, 6, 7, 8, 9, 10, 11, 12], [0, 1, 2, 3, 4, 5, 6, 7, 8, 9, 10, 11, 12, 13], [0, 1, 2, 3, 4, 5, 6, 7, 8, 9, 10, 11, 12, 13, 14]]
      [0, 8, 9])
    (.seq (.region [⟨some 30, none, .mov (.t 8)⟩,
      ⟨some 31, none, .bin .add (.t 30) (.c (.int .i64 1))⟩,
      ⟨some 8, none, .mov (.t 31)⟩]
      [0, 8, 9])
    (.region [⟨some 32, none, .mov (.t 9)⟩,
      ⟨some 33, none, .bin .sub (.t 32) (.c (.int .i64 1))⟩,
      ⟨some 9, none, .mov (.t 33)⟩]
      [0, 8, 9]))) [0, 8, 9]))
def RC.slices_reverseRangeCmpFunc_api_Want : RFn := ⟨4, [],
  (.seq (.region [⟨some 10, none, .mov (.t 1)⟩,
    ⟨some 8, none, .mov (.t 10)⟩]
    [0, 2, 8])
  (.seq (.region [⟨some 11, none, .mov (.t 2)⟩,
    ⟨some 12, none, .bin .sub (.t 11) (.c (.int .i64 1))⟩,
    ⟨some 9, none, .mov (.t 12)⟩]
    [0, 8, 9])
  (.block 0
    (.loop [0, 8, 9] RB.slices_reverseRangeCmpFunc_api_Want_1) [])))⟩

def RB.slices_partialInsertionSortCmpFunc_api_Want_1 : RCode :=
  (.seq (.seq (.region [⟨some 107, none, .mov (.t 12)⟩,
    ⟨some 108, none, .mov (.t 2)⟩,
    ⟨some 109, none, .bin .lss (.t 107) (.t 108)⟩]
    [0, 1, 2, 3, 9, 10, 12, 109])
  (.cond (.t 109)
    .skip
    (.exit 6)))
  (.seq (.block 7
    (.seq (.seq (.drawn [⟨some 112, none, .mov (.t 3)⟩,
      ⟨some 113, none, .mov (.t 0)⟩,
      ⟨some 114, none, .mov (.t 12)⟩,
      ⟨some 115, none, .idxS 2 (.t 113) (.t 114)⟩,
      ⟨some 116, none, .load true 2 (.t 115)⟩,
      ⟨some 117, none, .mov (.t 0)⟩,
      ⟨some 118, none, .mov (.t 12)⟩,
      ⟨some 119, none, .bin .sub (.t 118) (.c (.int .i64 1))⟩,
      ⟨some 120, none, .idxS 2 (.t 117) (.t 119)⟩,
      ⟨some 121, none, .load true 2 (.t 120)⟩,
      ⟨some 122, none, .callv (.t 112) [.t 116, .t 121]⟩,
      ⟨some 123, none, .bin .lss (.t 122) (.c (.int .i64 0))⟩,
      ⟨some 124, none, .un .not (.t 123)⟩]
      [[], [], [], [1, 2], [3], [], [], [6], [5, 7], [8], [0, 4, 9], [10], [11]]
      [(0, []), (1, []), (2, []), (3, []), (5, []), (6, []), (7, []), (8, []), (4, []), (9, []), (10, []), (11, []), (12, [])]
      [[], [], [], [1, 2], [1, 2, 3], [], [], [6], [5, 6, 7], [5, 6, 7, 8], [0, 1, 2, 3, 4, 5, 6, 7, 8, 9], [0, 1, 2, 3, 4, 5, 6, 7, 8, 9, 10], [0, 1, 2, 3, 4, 5, 6, 7, 8, 9, 10, 11]]
      [0, 1, 2, 3, 9, 10, 12, 124])
    (.cond (.t 124)
      (.exit 6)
      .skip))
    (.drawn [⟨some 125, none, .mov (.t 0)⟩,
      ⟨some 126, none, .mov (.t 12)⟩,
      ⟨some 127, none, .mov (.t 0)⟩,
      ⟨some 128, none, .mov (.t 12)⟩,
      ⟨some 129, none, .bin .sub (.t 128) (.c (.int .i64 1))⟩,
      ⟨some 130, none, .mov (.t 0)⟩,
      ⟨some 131, none, .mov (.t 12)⟩,
      ⟨some 132, none, .bin .sub (.t 131) (.c (.int .i64 1))⟩,
      ⟨some 133, none, .idxS 2 (.t 130) (.t 132)⟩,
      ⟨some 134, none, .load true 2 (.t 133)⟩,
      ⟨some 135, none, .mov (.t 0)⟩,
      ⟨some 136, none, .mov (.t 12)⟩,
      ⟨some 137, none, .idxS 2 (.t 135) (.t 136)⟩,
      ⟨some 138, none, .load true 2 (.t 137)⟩,
      ⟨some 139, none, .idxS 2 (.t 125) (.t 126)⟩,
      ⟨none, none, .store 2 (.t 139) (.t 134)⟩,
      ⟨some 140, none, .idxS 2 (.t 127) (.t 129)⟩,
      ⟨none, none, .store 2 (.t 140) (.t 138)⟩]
      [[], [], [], [], [3], [], [], [6], [5, 7], [8], [], [], [10, 11], [12], [0, 1, 0, 1, 5, 6, 7, 8, 9, 13], [14, 9, 0, 1, 5, 6, 7, 8, 9, 13], [2, 4, 0, 1, 2, 3, 4, 5, 6, 7, 8, 9, 10, 11, 12, 13, 14, 15], [16, 13, 15, 0, 1, 2, 3, 4, 5, 6, 7, 8, 9, 10, 11, 12, 13, 14, 15]]
      [(0, []), (1, []), (2, []), (3, []), (4, []), (5, []), (6, []), (7, []), (8, []), (10, []), (11, []), (12, []), (9, []), (13, []), (14, []), (15, []), (16, []), (17, [])]
      [[], [], [], [], [3], [], [], [6], [5, 6, 7], [5, 6, 7, 8], [], [], [10, 11], [10, 11, 12], [0, 1, 5, 6, 7, 8, 9, 10, 11, 12, 13], [0, 1, 5, 6, 7, 8, 9, 10, 11, 12, 13, 14], [0, 1, 2, 3, 4, 5, 6, 7, 8, 9, 10, 11, 12, 13, 14, 15], [0, 1, 2, 3, 4, 5, 6, 7, 8, 9, 10, 11, 12, 13, 14, 15, 16]]
      [0, 1, 2, 3, 9, 10, 12])) [0, 1, 2, 3, 9, 10, 12])
  (.region [⟨some 110, none, .mov (.t 12)⟩,
    ⟨some 111, none, .bin .add (.t 110) (.c (.int .i64 1))⟩,
    ⟨some 12, none, .mov (.t 111)⟩]
    [0, 1, 2, 3, 9, 10, 12])))
def RB.slices_partialInsertionSortCmpFunc_api_Want_2 : RCode :=
  (.seq (.seq (.region [⟨some 68, none, .mov (.t 11)⟩,
    ⟨some 69, none, .bin .geq (.t 68) (.c (.int .i64 1))⟩]
    [0, 1, 2, 3, 9, 10, 11, 69])
  (.cond (.t 69)
    .skip
    (.exit 4)))
  (.seq (.block 5
    (.seq (.seq (.drawn [⟨some 72, none, .mov (.t 3)⟩,
      ⟨some 73, none, .mov (.t 0)⟩,
      ⟨some 74, none, .mov (.t 11)⟩,
      ⟨some 75, none, .idxS 2 (.t 73) (.t 74)⟩,
      ⟨some 76, none, .load true 2 (.t 75)⟩,
      ⟨some 77, none, .mov (.t 0)⟩,
      ⟨some 78, none, .mov (.t 11)⟩,
      ⟨some 79, none, .bin .sub (.t 78) (.c (.int .i64 1))⟩,
      ⟨some 80, none, .idxS 2 (.t 77) (.t 79)⟩,
      ⟨some 81, none, .load true 2 (.t 80)⟩,
      ⟨some 82, none, .callv (.t 72) [.t 76, .t 81]⟩,
      ⟨some 83, none, .bin .lss (.t 82) (.c (.int .i64 0))⟩,
      ⟨some 84, none, .un .not (.t 83)⟩]
      [[], [], [], [1, 2], [3], [], [], [6], [5, 7], [8], [0, 4, 9], [10], [11]]
      [(0, []), (1, []), (2, []), (3, []), (5, []), (6, []), (7, []), (8, []), (4, []), (9, []), (10, []), (11, []), (12, [])]
      [[], [], [], [1, 2], [1, 2, 3], [], [], [6], [5, 6, 7], [5, 6, 7, 8], [0, 1, 2, 3, 4, 5, 6, 7, 8, 9], [0, 1, 2, 3, 4, 5, 6, 7, 8, 9, 10], [0, 1, 2, 3, 4, 5, 6, 7, 8, 9, 10, 11]]
      [0, 1, 2, 3, 9, 10, 11, 84])
    (.cond (.t 84)
      (.exit 4)
      .skip))
    (.drawn [⟨some 85, none, .mov (.t 0)⟩,
      ⟨some 86, none, .mov (.t 11)⟩,
      ⟨some 87, none, .mov (.t 0)⟩,
      ⟨some 88, none, .mov (.t 11)⟩,
      ⟨some 89, none, .bin .sub (.t 88) (.c (.int .i64 1))⟩,
      ⟨some 90, none, .mov (.t 0)⟩,
      ⟨some 91, none, .mov (.t 11)⟩,
      ⟨some 92, none, .bin .sub (.t 91) (.c (.int .i64 1))⟩,
      ⟨some 93, none, .idxS 2 (.t 90) (.t 92)⟩,
      ⟨some 94, none, .load true 2 (.t 93)⟩,
      ⟨some 95, none, .mov (.t 0)⟩,
      ⟨some 96, none, .mov (.t 11)⟩,
      ⟨some 97, none, .idxS 2 (.t 95) (.t 96)⟩,
      ⟨some 98, none, .load true 2 (.t 97)⟩,
      ⟨some 99, none, .idxS 2 (.t 85) (.t 86)⟩,
      ⟨none, none, .store 2 (.t 99) (.t 94)⟩,
      ⟨some 100, none, .idxS 2 (.t 87) (.t 89)⟩,
      ⟨none, none, .store 2 (.t 100) (.t 98)⟩]
      [[], [], [], [], [3], [], [], [6], [5, 7], [8], [], [], [10, 11], [12], [0, 1, 0, 1, 5, 6, 7, 8, 9, 13], [14, 9, 0, 1, 5, 6, 7, 8, 9, 13], [2, 4, 0, 1, 2, 3, 4, 5, 6, 7, 8, 9, 10, 11, 12, 13, 14, 15], [16, 13, 15, 0, 1, 2, 3, 4, 5, 6, 7, 8, 9, 10, 11, 12, 13, 14, 15]]
      [(0, []), (1, []), (2, []), (3, []), (4, []), (5, []), (6, []), (7, []), (8, []), (10, []), (11, []), (12, []), (9, []), (13, []), (14, []), (15, []), (16, []), (17, [])]
      [[], [], [], [], [3], [], [], [6], [5, 6, 7], [5, 6, 7, 8], [], [], [10, 11], [10, 11, 12], [0, 1, 5, 6, 7, 8, 9, 10, 11, 12, 13], [0, 1, 5, 6, 7, 8, 9, 10, 11, 12, 13, 14], [0, 1, 2, 3, 4, 5, 6, 7, 8, 9, 10, 11, 12, 13, 14, 15], [0, 1, 2, 3, 4, 5, 6, 7, 8, 9, 10, 11, 12, 13, 14, 15, 16]]
      [0, 1, 2, 3, 9, 10, 11])) [0, 1, 2, 3, 9, 10, 11])
  (.region [⟨some 70, none, .mov (.t 11)⟩,
    ⟨some 71, none, .bin .sub (.t 70) (.c (.int .i64 1))⟩,
    ⟨some 11, none, .mov (.t 71)⟩]
    [0, 1, 2, 3, 9, 10, 11])))
def RB.slices_partialInsertionSortCmpFunc_api_Want_3 : RCode :=
  (.seq (.seq (.drawn [⟨some 19, none, .mov (.t 9)⟩,
    ⟨some 20, none, .mov (.t 2)⟩,
    ⟨some 21, none, .bin .lss (.t 19) (.t 20)⟩,
    ⟨some 22, none, .mov (.t 21)⟩,
    ⟨some 23, some (22, true), .mov (.t 3)⟩,
    ⟨some 24, some (22, true), .mov (.t 0)⟩,
    ⟨some 25, some (22, true), .mov (.t 9)⟩,
    ⟨some 26, some (22, true), .idxS 2 (.t 24) (.t 25)⟩,
    ⟨some 27, some (22, true), .load true 2 (.t 26)⟩,
    ⟨some 28, some (22, true), .mov (.t 0)⟩,
    ⟨some 29, some (22, true), .mov (.t 9)⟩,
    ⟨some 30, some (22, true), .bin .sub (.t 29) (.c (.int .i64 1))⟩,
    ⟨some 31, some (22, true), .idxS 2 (.t 28) (.t 30)⟩,
    ⟨some 32, some (22, true), .load true 2 (.t 31)⟩,
    ⟨some 33, some (22, true), .callv (.t 23) [.t 27, .t 32]⟩,
    ⟨some 34, some (22, true), .bin .lss (.t 33) (.c (.int .i64 0))⟩,
    ⟨some 35, some (22, true), .un .not (.t 34)⟩,
    ⟨some 36, none, .pick (.t 22) (.t 35) (.c (.bool false))⟩]
    [[], [], [0, 1], [2], [3], [3], [3], [5, 6, 3], [7, 3], [3], [3], [10, 3], [9, 11, 3], [12, 3], [4, 8, 13, 3, 3], [14, 3], [15, 3], [3, 16]]
    [(0, []), (1, []), (2, []), (3, []), (4, []), (5, []), (6, []), (7, []), (9, []), (10, []), (11, []), (12, []), (8, []), (13, []), (14, []), (15, []), (16, []), (17, [])]
    [[], [], [0, 1], [0, 1, 2], [0, 1, 2, 3], [0, 1, 2, 3], [0, 1, 2, 3], [0, 1, 2, 3, 5, 6], [0, 1, 2, 3, 5, 6, 7], [0, 1, 2, 3], [0, 1, 2, 3], [0, 1, 2, 3, 10], [0, 1, 2, 3, 9, 10, 11], [0, 1, 2, 3, 9, 10, 11, 12], [0, 1, 2, 3, 4, 5, 6, 7, 8, 9, 10, 11, 12, 13], [0, 1, 2, 3, 4, 5, 6, 7, 8, 9, 10, 11, 12, 13, 14], [0, 1, 2, 3, 4, 5, 6, 7, 8, 9, 10, 11, 12, 13, 14, 15], [0, 1, 2, 3, 4, 5, 6, 7, 8, 9, 10, 11, 12, 13, 14, 15, 16]]
    [0, 1, 2, 3, 9, 10, 36])
  (.cond (.t 36)
    .skip
    (.exit 2)))
  (.block 3
    (.region [⟨some 37, none, .mov (.t 9)⟩,
      ⟨some 38, none, .bin .add (.t 37) (.c (.int .i64 1))⟩,
      ⟨some 9, none, .mov (.t 38)⟩]
      [0, 1, 2, 3, 9, 10]) [0, 1, 2, 3, 9, 10]))
def RB.slices_partialInsertionSortCmpFunc_api_Want_4 : RCode :=
  (.seq (.seq (.region [⟨some 15, none, .mov (.t 10)⟩,
    ⟨some 16, none, .bin .lss (.t 15) (.c (.int .i64 5))⟩]
    [0, 1, 2, 3, 9, 10, 16])
  (.cond (.t 16)
    .skip
    (.exit 0)))
  (.seq (.block 1
    (.seq (.block 2
      (.loop [0, 1, 2, 3, 9, 10] RB.slices_partialInsertionSortCmpFunc_api_Want_3) [0, 1, 2, 3, 9, 10])
    (.seq (.seq (.region [⟨some 39, none, .mov (.t 9)⟩,
      ⟨some 40, none, .mov (.t 2)⟩,
      ⟨some 41, none, .bin .eql (.t 39) (.t 40)⟩]
      [0, 1, 2, 3, 9, 10, 41])
    (.cond (.t 41)
      (.seq (.region [⟨some 8, none, .mov (.c (.bool true))⟩]
        [8])
      .ret)
      .skip))
    (.seq (.seq (.region [⟨some 42, none, .mov (.t 2)⟩,
      ⟨some 43, none, .mov (.t 1)⟩,
      ⟨some 44, none, .bin .sub (.t 42) (.t 43)⟩,
      ⟨some 45, none, .bin .lss (.t 44) (.c (.int .i64 50))⟩]
      [0, 1, 2, 3, 9, 10, 45])
    (.cond (.t 45)
      (.seq (.region [⟨some 8, none, .mov (.c (.bool false))⟩]
        [8])
      .ret)
      .skip))
    (.seq (.drawn [⟨some 46, none, .mov (.t 0)⟩,
      ⟨some 47, none, .mov (.t 9)⟩,
      ⟨some 48, none, .mov (.t 0)⟩,
      ⟨some 49, none, .mov (.t 9)⟩,
      ⟨some 50, none, .bin .sub (.t 49) (.c (.int .i64 1))⟩,
      ⟨some 51, none, .mov (.t 0)⟩,
      ⟨some 52, none, .mov (.t 9)⟩,
      ⟨some 53, none, .bin .sub (.t 52) (.c (.int .i64 1))⟩,
      ⟨some 54, none, .idxS 2 (.t 51) (.t 53)⟩,
      ⟨some 55, none, .load true 2 (.t 54)⟩,
      ⟨some 56, none, .mov (.t 0)⟩,
      ⟨some 57, none, .mov (.t 9)⟩,
      ⟨some 58, none, .idxS 2 (.t 56) (.t 57)⟩,
      ⟨some 59, none, .load true 2 (.t 58)⟩,
      ⟨some 60, none, .idxS 2 (.t 46) (.t 47)⟩,
      ⟨none, none, .store 2 (.t 60) (.t 55)⟩,
      ⟨some 61, none, .idxS 2 (.t 48) (.t 50)⟩,
      ⟨none, none, .store 2 (.t 61) (.t 59)⟩]
      [[], [], [], [], [3], [], [], [6], [5, 7], [8], [], [], [10, 11], [12], [0, 1, 0, 1, 5, 6, 7, 8, 9, 13], [14, 9, 0, 1, 5, 6, 7, 8, 9, 13], [2, 4, 0, 1, 2, 3, 4, 5, 6, 7, 8, 9, 10, 11, 12, 13, 14, 15], [16, 13, 15, 0, 1, 2, 3, 4, 5, 6, 7, 8, 9, 10, 11, 12, 13, 14, 15]]
      [(0, []), (1, []), (2, []), (3, []), (4, []), (5, []), (6, []), (7, []), (8, []), (10, []), (11, []), (12, []), (9, []), (13, []), (14, []), (15, []), (16, []), (17, [])]
      [[], [], [], [], [3], [], [], [6], [5, 6, 7], [5, 6, 7, 8], [], [], [10, 11], [10, 11, 12], [0, 1, 5, 6, 7, 8, 9, 10, 11, 12, 13], [0, 1, 5, 6, 7, 8, 9, 10, 11, 12, 13, 14], [0, 1, 2, 3, 4, 5, 6, 7, 8, 9, 10, 11, 12, 13, 14, 15], [0, 1, 2, 3, 4, 5, 6, 7, 8, 9, 10, 11, 12, 13, 14, 15, 16]]
      [0, 1, 2, 3, 9, 10])
    (.seq (.seq (.region [⟨some 62, none, .mov (.t 9)⟩,
      ⟨some 63, none, .mov (.t 1)⟩,
      ⟨some 64, none, .bin .sub (.t 62) (.t 63)⟩,
      ⟨some 65, none, .bin .geq (.t 64) (.c (.int .i64 2))⟩]
      [0, 1, 2, 3, 9, 10, 65])
    (.cond (.t 65)
      (.seq (.region [⟨some 66, none, .mov (.t 9)⟩,
        ⟨some 67, none, .bin .sub (.t 66) (.c (.int .i64 1))⟩,
        ⟨some 11, none, .mov (.t 67)⟩]
        [0, 1, 2, 3, 9, 10, 11])
      (.block 4
        (.loop [0, 1, 2, 3, 9, 10, 11] RB.slices_partialInsertionSortCmpFunc_api_Want_2) [0, 1, 2, 3, 9, 10]))
      .skip))
    (.seq (.region [⟨some 101, none, .mov (.t 2)⟩,
      ⟨some 102, none, .mov (.t 9)⟩,
      ⟨some 103, none, .bin .sub (.t 101) (.t 102)⟩,
      ⟨some 104, none, .bin .geq (.t 103) (.c (.int .i64 2))⟩]
      [0, 1, 2, 3, 9, 10, 104])
    (.cond (.t 104)
      (.seq (.region [⟨some 105, none, .mov (.t 9)⟩,
        ⟨some 106, none, .bin .add (.t 105) (.c (.int .i64 1))⟩,
        ⟨some 12, none, .mov (.t 106)⟩]
        [0, 1, 2, 3, 9, 10, 12])
      (.block 6
        (.loop [0, 1, 2, 3, 9, 10, 12] RB.slices_partialInsertionSortCmpFunc_api_Want_1) [0, 1, 2, 3, 9, 10]))
      .skip))))))) [0, 1, 2, 3, 9, 10])
  (.region [⟨some 17, none, .mov (.t 10)⟩,
    ⟨some 18, none, .bin .add (.t 17) (.c (.int .i64 1))⟩,
    ⟨some 10, none, .mov (.t 18)⟩]
    [0, 1, 2, 3, 9, 10])))
def RC.slices_partialInsertionSortCmpFunc_api_Want : RFn := ⟨4, [.slot 8],
  (.seq (.region [⟨some 8, none, .mov (.c (.bool false))⟩]
    [0, 1, 2, 3])
  (.seq (.region [⟨some 13, none, .mov (.t 1)⟩,
    ⟨some 14, none, .bin .add (.t 13) (.c (.int .i64 1))⟩,
    ⟨some 9, none, .mov (.t 14)⟩]
    [0, 1, 2, 3, 9])
  (.seq (.seq (.region [⟨some 10, none, .mov (.c (.int .i64 0))⟩]
    [0, 1, 2, 3, 9, 10])
  (.block 0
    (.loop [0, 1, 2, 3, 9, 10] RB.slices_partialInsertionSortCmpFunc_api_Want_4) []))
  (.seq (.region [⟨some 8, none, .mov (.c (.bool false))⟩]
    [8])
  .ret))))⟩

def RB.slices_partitionEqualCmpFunc_api_Want_1 : RCode :=
  (.seq (.seq (.drawn [⟨some 50, none, .mov (.t 11)⟩,
    ⟨some 51, none, .mov (.t 12)⟩,
    ⟨some 52, none, .bin .leq (.t 50) (.t 51)⟩,
    ⟨some 53, none, .mov (.t 52)⟩,
    ⟨some 54, some (53, true), .mov (.t 4)⟩,
    ⟨some 55, some (53, true), .mov (.t 0)⟩,
    ⟨some 56, some (53, true), .mov (.t 1)⟩,
    ⟨some 57, some (53, true), .idxS 2 (.t 55) (.t 56)⟩,
    ⟨some 58, some (53, true), .load true 2 (.t 57)⟩,
    ⟨some 59, some (53, true), .mov (.t 0)⟩,
    ⟨some 60, some (53, true), .mov (.t 12)⟩,
    ⟨some 61, some (53, true), .idxS 2 (.t 59) (.t 60)⟩,
    ⟨some 62, some (53, true), .load true 2 (.t 61)⟩,
    ⟨some 63, some (53, true), .callv (.t 54) [.t 58, .t 62]⟩,
    ⟨some 64, some (53, true), .bin .lss (.t 63) (.c (.int .i64 0))⟩,
    ⟨some 65, none, .pick (.t 53) (.t 64) (.c (.bool false))⟩]
    [[], [], [0, 1], [2], [3], [3], [3], [5, 6, 3], [7, 3], [3], [3], [9, 10, 3], [11, 3], [4, 8, 12, 3, 3], [13, 3], [3, 14]]
    [(0, []), (1, []), (2, []), (3, []), (4, []), (5, []), (6, []), (7, []), (9, []), (10, []), (11, []), (8, []), (12, []), (13, []), (14, []), (15, [])]
    [[], [], [0, 1], [0, 1, 2], [0, 1, 2, 3], [0, 1, 2, 3], [0, 1, 2, 3], [0, 1, 2, 3, 5, 6], [0, 1, 2, 3, 5, 6, 7], [0, 1, 2, 3], [0, 1, 2, 3], [0, 1, 2, 3, 9, 10], [0, 1, 2, 3, 9, 10, 11], [0, 1, 2, 3, 4, 5, 6, 7, 8, 9, 10, 11, 12], [0, 1, 2, 3, 4, 5, 6, 7, 8, 9, 10, 11, 12, 13], [0, 1, 2, 3, 4, 5, 6, 7, 8, 9, 10, 11, 12, 13, 14]]
    [0, 1, 4, 11, 12, 65])
  (.cond (.t 65)
    .skip
    (.exit 4)))
  (.block 5
    (.region [⟨some 66, none, .mov (.t 12)⟩,
      ⟨some 67, none, .bin .sub (.t 66) (.c (.int .i64 1))⟩,
      ⟨some 12, none, .mov (.t 67)⟩]
      [0, 1, 4, 11, 12]) [0, 1, 4, 11, 12]))
def RB.slices_partitionEqualCmpFunc_api_Want_2 : RCode :=
  (.seq (.seq (.drawn [⟨some 31, none, .mov (.t 11)⟩,
    ⟨some 32, none, .mov (.t 12)⟩,
    ⟨some 33, none, .bin .leq (.t 31) (.t 32)⟩,
    ⟨some 34, none, .mov (.t 33)⟩,
    ⟨some 35, some (34, true), .mov (.t 4)⟩,
    ⟨some 36, some (34, true), .mov (.t 0)⟩,
    ⟨some 37, some (34, true), .mov (.t 1)⟩,
    ⟨some 38, some (34, true), .idxS 2 (.t 36) (.t 37)⟩,
    ⟨some 39, some (34, true), .load true 2 (.t 38)⟩,
    ⟨some 40, some (34, true), .mov (.t 0)⟩,
    ⟨some 41, some (34, true), .mov (.t 11)⟩,
    ⟨some 42, some (34, true), .idxS 2 (.t 40) (.t 41)⟩,
    ⟨some 43, some (34, true), .load true 2 (.t 42)⟩,
    ⟨some 44, some (34, true), .callv (.t 35) [.t 39, .t 43]⟩,
    ⟨some 45, some (34, true), .bin .lss (.t 44) (.c (.int .i64 0))⟩,
    ⟨some 46, some (34, true), .un .not (.t 45)⟩,
    ⟨some 47, none, .pick (.t 34) (.t 46) (.c (.bool false))⟩]
    [[], [], [0, 1], [2], [3], [3], [3], [5, 6, 3], [7, 3], [3], [3], [9, 10, 3], [11, 3], [4, 8, 12, 3, 3], [13, 3], [14, 3], [3, 15]]
    [(0, []), (1, []), (2, []), (3, []), (4, []), (5, []), (6, []), (7, []), (9, []), (10, []), (11, []), (8, []), (12, []), (13, []), (14, []), (15, []), (16, [])]
    [[], [], [0, 1], [0, 1, 2], [0, 1, 2, 3], [0, 1, 2, 3], [0, 1, 2, 3], [0, 1, 2, 3, 5, 6], [0, 1, 2, 3, 5, 6, 7], [0, 1, 2, 3], [0, 1, 2, 3], [0, 1, 2, 3, 9, 10], [0, 1, 2, 3, 9, 10, 11], [0, 1, 2, 3, 4, 5, 6, 7, 8, 9, 10, 11, 12], [0, 1, 2, 3, 4, 5, 6, 7, 8, 9, 10, 11, 12, 13], [0, 1, 2, 3, 4, 5, 6, 7, 8, 9, 10, 11, 12, 13, 14], [0, 1, 2, 3, 4, 5, 6, 7, 8, 9, 10, 11, 12, 13, 14, 15]]
    [0, 1, 4, 11, 12, 47])
  (.cond (.t 47)
    .skip
    (.exit 2)))
  (.block 3
    (.region [⟨some 48, none, .mov (.t 11)⟩,
      ⟨some 49, none, .bin .add (.t 48) (.c (.int .i64 1))⟩,
      ⟨some 11, none, .mov (.t 49)⟩]
      [0, 1, 4, 11, 12]) [0, 1, 4, 11, 12]))
def RB.slices_partitionEqualCmpFunc_api_Want_3 : RCode :=
  (.block 1
    (.seq (.block 2
      (.loop [0, 1, 4, 11, 12] RB.slices_partitionEqualCmpFunc_api_Want_2) [0, 1, 4, 11, 12])
    (.seq (.block 4
      (.loop [0, 1, 4, 11, 12] RB.slices_partitionEqualCmpFunc_api_Want_1) [0, 1, 4, 11, 12])
    (.seq (.seq (.region [⟨some 68, none, .mov (.t 11)⟩,
      ⟨some 69, none, .mov (.t 12)⟩,
      ⟨some 70, none, .bin .gtr (.t 68) (.t 69)⟩]
      [0, 1, 4, 11, 12, 70])
    (.cond (.t 70)
      (.exit 0)
      .skip))
    (.seq (.drawn [⟨some 71, none, .mov (.t 0)⟩,
      ⟨some 72, none, .mov (.t 11)⟩,
      ⟨some 73, none, .mov (.t 0)⟩,
      ⟨some 74, none, .mov (.t 12)⟩,
      ⟨some 75, none, .mov (.t 0)⟩,
      ⟨some 76, none, .mov (.t 12)⟩,
      ⟨some 77, none, .idxS 2 (.t 75) (.t 76)⟩,
      ⟨some 78, none, .load true 2 (.t 77)⟩,
      ⟨some 79, none, .mov (.t 0)⟩,
      ⟨some 80, none, .mov (.t 11)⟩,
      ⟨some 81, none, .idxS 2 (.t 79) (.t 80)⟩,
      ⟨some 82, none, .load true 2 (.t 81)⟩,
      ⟨some 83, none, .idxS 2 (.t 71) (.t 72)⟩,
      ⟨none, none, .store 2 (.t 83) (.t 78)⟩,
      ⟨some 84, none, .idxS 2 (.t 73) (.t 74)⟩,
      ⟨none, none, .store 2 (.t 84) (.t 82)⟩]
      [[], [], [], [], [], [], [4, 5], [6], [], [], [8, 9], [10], [0, 1, 0, 1, 4, 5, 6, 7, 11], [12, 7, 0, 1, 4, 5, 6, 7, 11], [2, 3, 0, 1, 2, 3, 4, 5, 6, 7, 8, 9, 10, 11, 12, 13], [14, 11, 13, 0, 1, 2, 3, 4, 5, 6, 7, 8, 9, 10, 11, 12, 13]]
      [(0, []), (1, []), (2, []), (3, []), (4, []), (5, []), (6, []), (8, []), (9, []), (10, []), (7, []), (11, []), (12, []), (13, []), (14, []), (15, [])]
      [[], [], [], [], [], [], [4, 5], [4, 5, 6], [], [], [8, 9], [8, 9, 10], [0, 1, 4, 5, 6, 7, 8, 9, 10, 11], [0, 1, 4, 5, 6, 7, 8, 9, 10, 11, 12], [0, 1, 2, 3, 4, 5, 6, 7, 8, 9, 10, 11, 12, 13], [0, 1, 2, 3, 4, 5, 6, 7, 8, 9, 10, 11, 12, 13, 14]]
      [0, 1, 4, 11, 12])
    (.seq (.region [⟨some 85, none, .mov (.t 11)⟩,
      ⟨some 86, none, .bin .add (.t 85) (.c (.int .i64 1))⟩,
      ⟨some 11, none, .mov (.t 86)⟩]
      [0, 1, 4, 11, 12])
    (.region [⟨some 87, none, .mov (.t 12)⟩,
      ⟨some 88, none, .bin .sub (.t 87) (.c (.int .i64 1))⟩,
      ⟨some 12, none, .mov (.t 88)⟩]
      [0, 1, 4, 11, 12])))))) [0, 1, 4, 11, 12])
def RC.slices_partitionEqualCmpFunc_api_Want : RFn := ⟨5, [.slot 10],
  (.seq (.region [⟨some 10, none, .mov (.c (.int .i64 0))⟩]
    [0, 1, 2, 3, 4])
  (.seq (.drawn [⟨some 13, none, .mov (.t 0)⟩,
    ⟨some 14, none, .mov (.t 1)⟩,
    ⟨some 15, none, .mov (.t 0)⟩,
    ⟨some 16, none, .mov (.t 3)⟩,
    ⟨some 17, none, .mov (.t 0)⟩,
    ⟨some 18, none, .mov (.t 3)⟩,
    ⟨some 19, none, .idxS 2 (.t 17) (.t 18)⟩,
    ⟨some 20, none, .load true 2 (.t 19)⟩,
    ⟨some 21, none, .mov (.t 0)⟩,
    ⟨some 22, none, .mov (.t 1)⟩,
    ⟨some 23, none, .idxS 2 (.t 21) (.t 22)⟩,
    ⟨some 24, none, .load true 2 (.t 23)⟩,
    ⟨some 25, none, .idxS 2 (.t 13) (.t 14)⟩,
    ⟨none, none, .store 2 (.t 25) (.t 20)⟩,
    ⟨some 26, none, .idxS 2 (.t 15) (.t 16)⟩,
    ⟨none, none, .store 2 (.t 26) (.t 24)⟩]
    [[], [], [], [], [], [], [4, 5], [6], [], [], [8, 9], [10], [0, 1, 0, 1, 4, 5, 6, 7, 11], [12, 7, 0, 1, 4, 5, 6, 7, 11], [2, 3, 0, 1, 2, 3, 4, 5, 6, 7, 8, 9, 10, 11, 12, 13], [14, 11, 13, 0, 1, 2, 3, 4, 5, 6, 7, 8, 9, 10, 11, 12, 13]]
    [(0, []), (1, []), (2, []), (3, []), (4, []), (5, []), (6, []), (8, []), (9, []), (10, []), (7, []), (11, []), (12, []), (13, []), (14, []), (15, [])]
    [[], [], [], [], [], [], [4, 5], [4, 5, 6], [], [], [8, 9], [8, 9, 10], [0, 1, 4, 5, 6, 7, 8, 9, 10, 11], [0, 1, 4, 5, 6, 7, 8, 9, 10, 11, 12], [0, 1, 2, 3, 4, 5, 6, 7, 8, 9, 10, 11, 12, 13], [0, 1, 2, 3, 4, 5, 6, 7, 8, 9, 10, 11, 12, 13, 14]]
    [0, 1, 2, 4])
  (.seq (.region [⟨some 27, none, .mov (.t 1)⟩,
    ⟨some 28, none, .bin .add (.t 27) (.c (.int .i64 1))⟩,
    ⟨some 29, none, .mov (.t 2)⟩,
    ⟨some 30, none, .bin .sub (.t 29) (.c (.int .i64 1))⟩,
    ⟨some 11, none, .mov (.t 28)⟩,
    ⟨some 12, none, .mov (.t 30)⟩]
    [0, 1, 4, 11, 12])
  (.seq (.block 0
    (.loop [0, 1, 4, 11, 12] RB.slices_partitionEqualCmpFunc_api_Want_3) [11])
  (.seq (.region [⟨some 89, none, .mov (.t 11)⟩,
    ⟨some 10, none, .mov (.t 89)⟩]
    [10])
  .ret)))))⟩

def RB.slices_partitionCmpFunc_api_Want_1 : RCode :=
  (.seq (.seq (.drawn [⟨some 123, none, .mov (.t 12)⟩,
    ⟨some 124, none, .mov (.t 13)⟩,
    ⟨some 125, none, .bin .leq (.t 123) (.t 124)⟩,
    ⟨some 126, none, .mov (.t 125)⟩,
    ⟨some 127, some (126, true), .mov (.t 4)⟩,
    ⟨some 128, some (126, true), .mov (.t 0)⟩,
    ⟨some 129, some (126, true), .mov (.t 13)⟩,
    ⟨some 130, some (126, true), .idxS 2 (.t 128) (.t 129)⟩,
    ⟨some 131, some (126, true), .load true 2 (.t 130)⟩,
    ⟨some 132, some (126, true), .mov (.t 0)⟩,
    ⟨some 133, some (126, true), .mov (.t 1)⟩,
    ⟨some 134, some (126, true), .idxS 2 (.t 132) (.t 133)⟩,
    ⟨some 135, some (126, true), .load true 2 (.t 134)⟩,
    ⟨some 136, some (126, true), .callv (.t 127) [.t 131, .t 135]⟩,
    ⟨some 137, some (126, true), .bin .lss (.t 136) (.c (.int .i64 0))⟩,
    ⟨some 138, some (126, true), .un .not (.t 137)⟩,
    ⟨some 139, none, .pick (.t 126) (.t 138) (.c (.bool false))⟩]
    [[], [], [0, 1], [2], [3], [3], [3], [5, 6, 3], [7, 3], [3], [3], [9, 10, 3], [11, 3], [4, 8, 12, 3, 3], [13, 3], [14, 3], [3, 15]]
    [(0, []), (1, []), (2, []), (3, []), (4, []), (5, []), (6, []), (7, []), (9, []), (10, []), (11, []), (8, []), (12, []), (13, []), (14, []), (15, []), (16, [])]
    [[], [], [0, 1], [0, 1, 2], [0, 1, 2, 3], [0, 1, 2, 3], [0, 1, 2, 3], [0, 1, 2, 3, 5, 6], [0, 1, 2, 3, 5, 6, 7], [0, 1, 2, 3], [0, 1, 2, 3], [0, 1, 2, 3, 9, 10], [0, 1, 2, 3, 9, 10, 11], [0, 1, 2, 3, 4, 5, 6, 7, 8, 9, 10, 11, 12], [0, 1, 2, 3, 4, 5, 6, 7, 8, 9, 10, 11, 12, 13], [0, 1, 2, 3, 4, 5, 6, 7, 8, 9, 10, 11, 12, 13, 14], [0, 1, 2, 3, 4, 5, 6, 7, 8, 9, 10, 11, 12, 13, 14, 15]]
    [0, 1, 4, 12, 13, 139])
  (.cond (.t 139)
    .skip
    (.exit 8)))
  (.block 9
    (.region [⟨some 140, none, .mov (.t 13)⟩,
      ⟨some 141, none, .bin .sub (.t 140) (.c (.int .i64 1))⟩,
      ⟨some 13, none, .mov (.t 141)⟩]
      [0, 1, 4, 12, 13]) [0, 1, 4, 12, 13]))
def RB.slices_partitionCmpFunc_api_Want_2 : RCode :=
  (.seq (.seq (.drawn [⟨some 105, none, .mov (.t 12)⟩,
    ⟨some 106, none, .mov (.t 13)⟩,
    ⟨some 107, none, .bin .leq (.t 105) (.t 106)⟩,
    ⟨some 108, none, .mov (.t 107)⟩,
    ⟨some 109, some (108, true), .mov (.t 4)⟩,
    ⟨some 110, some (108, true), .mov (.t 0)⟩,
    ⟨some 111, some (108, true), .mov (.t 12)⟩,
    ⟨some 112, some (108, true), .idxS 2 (.t 110) (.t 111)⟩,
    ⟨some 113, some (108, true), .load true 2 (.t 112)⟩,
    ⟨some 114, some (108, true), .mov (.t 0)⟩,
    ⟨some 115, some (108, true), .mov (.t 1)⟩,
    ⟨some 116, some (108, true), .idxS 2 (.t 114) (.t 115)⟩,
    ⟨some 117, some (108, true), .load true 2 (.t 116)⟩,
    ⟨some 118, some (108, true), .callv (.t 109) [.t 113, .t 117]⟩,
    ⟨some 119, some (108, true), .bin .lss (.t 118) (.c (.int .i64 0))⟩,
    ⟨some 120, none, .pick (.t 108) (.t 119) (.c (.bool false))⟩]
    [[], [], [0, 1], [2], [3], [3], [3], [5, 6, 3], [7, 3], [3], [3], [9, 10, 3], [11, 3], [4, 8, 12, 3, 3], [13, 3], [3, 14]]
    [(0, []), (1, []), (2, []), (3, []), (4, []), (5, []), (6, []), (7, []), (9, []), (10, []), (11, []), (8, []), (12, []), (13, []), (14, []), (15, [])]
    [[], [], [0, 1], [0, 1, 2], [0, 1, 2, 3], [0, 1, 2, 3], [0, 1, 2, 3], [0, 1, 2, 3, 5, 6], [0, 1, 2, 3, 5, 6, 7], [0, 1, 2, 3], [0, 1, 2, 3], [0, 1, 2, 3, 9, 10], [0, 1, 2, 3, 9, 10, 11], [0, 1, 2, 3, 4, 5, 6, 7, 8, 9, 10, 11, 12], [0, 1, 2, 3, 4, 5, 6, 7, 8, 9, 10, 11, 12, 13], [0, 1, 2, 3, 4, 5, 6, 7, 8, 9, 10, 11, 12, 13, 14]]
    [0, 1, 4, 12, 13, 120])
  (.cond (.t 120)
    .skip
    (.exit 6)))
  (.block 7
    (.region [⟨some 121, none, .mov (.t 12)⟩,
      ⟨some 122, none, .bin .add (.t 121) (.c (.int .i64 1))⟩,
      ⟨some 12, none, .mov (.t 122)⟩]
      [0, 1, 4, 12, 13]) [0, 1, 4, 12, 13]))
def RB.slices_partitionCmpFunc_api_Want_3 : RCode :=
  (.block 5
    (.seq (.block 6
      (.loop [0, 1, 4, 12, 13] RB.slices_partitionCmpFunc_api_Want_2) [0, 1, 4, 12, 13])
    (.seq (.block 8
      (.loop [0, 1, 4, 12, 13] RB.slices_partitionCmpFunc_api_Want_1) [0, 1, 4, 12, 13])
    (.seq (.seq (.region [⟨some 142, none, .mov (.t 12)⟩,
      ⟨some 143, none, .mov (.t 13)⟩,
      ⟨some 144, none, .bin .gtr (.t 142) (.t 143)⟩]
      [0, 1, 4, 12, 13, 144])
    (.cond (.t 144)
      (.exit 4)
      .skip))
    (.seq (.drawn [⟨some 145, none, .mov (.t 0)⟩,
      ⟨some 146, none, .mov (.t 12)⟩,
      ⟨some 147, none, .mov (.t 0)⟩,
      ⟨some 148, none, .mov (.t 13)⟩,
      ⟨some 149, none, .mov (.t 0)⟩,
      ⟨some 150, none, .mov (.t 13)⟩,
      ⟨some 151, none, .idxS 2 (.t 149) (.t 150)⟩,
      ⟨some 152, none, .load true 2 (.t 151)⟩,
      ⟨some 153, none, .mov (.t 0)⟩,
      ⟨some 154, none, .mov (.t 12)⟩,
      ⟨some 155, none, .idxS 2 (.t 153) (.t 154)⟩,
      ⟨some 156, none, .load true 2 (.t 155)⟩,
      ⟨some 157, none, .idxS 2 (.t 145) (.t 146)⟩,
      ⟨none, none, .store 2 (.t 157) (.t 152)⟩,
      ⟨some 158, none, .idxS 2 (.t 147) (.t 148)⟩,
      ⟨none, none, .store 2 (.t 158) (.t 156)⟩]
      [[], [], [], [], [], [], [4, 5], [6], [], [], [8, 9], [10], [0, 1, 0, 1, 4, 5, 6, 7, 11], [12, 7, 0, 1, 4, 5, 6, 7, 11], [2, 3, 0, 1, 2, 3, 4, 5, 6, 7, 8, 9, 10, 11, 12, 13], [14, 11, 13, 0, 1, 2, 3, 4, 5, 6, 7, 8, 9, 10, 11, 12, 13]]
      [(0, []), (1, []), (2, []), (3, []), (4, []), (5, []), (6, []), (8, []), (9, []), (10, []), (7, []), (11, []), (12, []), (13, []), (14, []), (15, [])]
      [[], [], [], [], [], [], [4, 5], [4, 5, 6], [], [], [8, 9], [8, 9, 10], [0, 1, 4, 5, 6, 7, 8, 9, 10, 11], [0, 1, 4, 5, 6, 7, 8, 9, 10, 11, 12], [0, 1, 2, 3, 4, 5, 6, 7, 8, 9, 10, 11, 12, 13], [0, 1, 2, 3, 4, 5, 6, 7, 8, 9, 10, 11, 12, 13, 14]]
      [0, 1, 4, 12, 13])
    (.seq (.region [⟨some 159, none, .mov (.t 12)⟩,
      ⟨some 160, none, .bin .add (.t 159) (.c (.int .i64 1))⟩,
      ⟨some 12, none, .mov (.t 160)⟩]
      [0, 1, 4, 12, 13])
    (.region [⟨some 161, none, .mov (.t 13)⟩,
      ⟨some 162, none, .bin .sub (.t 161) (.c (.int .i64 1))⟩,
      ⟨some 13, none, .mov (.t 162)⟩]
      [0, 1, 4, 12, 13])))))) [0, 1, 4, 12, 13])
def RB.slices_partitionCmpFunc_api_Want_4 : RCode :=
  (.seq (.seq (.drawn [⟨some 50, none, .mov (.t 12)⟩,
    ⟨some 51, none, .mov (.t 13)⟩,
    ⟨some 52, none, .bin .leq (.t 50) (.t 51)⟩,
    ⟨some 53, none, .mov (.t 52)⟩,
    ⟨some 54, some (53, true), .mov (.t 4)⟩,
    ⟨some 55, some (53, true), .mov (.t 0)⟩,
    ⟨some 56, some (53, true), .mov (.t 13)⟩,
    ⟨some 57, some (53, true), .idxS 2 (.t 55) (.t 56)⟩,
    ⟨some 58, some (53, true), .load true 2 (.t 57)⟩,
    ⟨some 59, some (53, true), .mov (.t 0)⟩,
    ⟨some 60, some (53, true), .mov (.t 1)⟩,
    ⟨some 61, some (53, true), .idxS 2 (.t 59) (.t 60)⟩,
    ⟨some 62, some (53, true), .load true 2 (.t 61)⟩,
    ⟨some 63, some (53, true), .callv (.t 54) [.t 58, .t 62]⟩,
    ⟨some 64, some (53, true), .bin .lss (.t 63) (.c (.int .i64 0))⟩,
    ⟨some 65, some (53, true), .un .not (.t 64)⟩,
    ⟨some 66, none, .pick (.t 53) (.t 65) (.c (.bool false))⟩]
    [[], [], [0, 1], [2], [3], [3], [3], [5, 6, 3], [7, 3], [3], [3], [9, 10, 3], [11, 3], [4, 8, 12, 3, 3], [13, 3], [14, 3], [3, 15]]
    [(0, []), (1, []), (2, []), (3, []), (4, []), (5, []), (6, []), (7, []), (9, []), (10, []), (11, []), (8, []), (12, []), (13, []), (14, []), (15, []), (16, [])]
    [[], [], [0, 1], [0, 1, 2], [0, 1, 2, 3], [0, 1, 2, 3], [0, 1, 2, 3], [0, 1, 2, 3, 5, 6], [0, 1, 2, 3, 5, 6, 7], [0, 1, 2, 3], [0, 1, 2, 3], [0, 1, 2, 3, 9, 10], [0, 1, 2, 3, 9, 10, 11], [0, 1, 2, 3, 4, 5, 6, 7, 8, 9, 10, 11, 12], [0, 1, 2, 3, 4, 5, 6, 7, 8, 9, 10, 11, 12, 13], [0, 1, 2, 3, 4, 5, 6, 7, 8, 9, 10, 11, 12, 13, 14], [0, 1, 2, 3, 4, 5, 6, 7, 8, 9, 10, 11, 12, 13, 14, 15]]
    [0, 1, 4, 12, 13, 66])
  (.cond (.t 66)
    .skip
    (.exit 2)))
  (.block 3
    (.region [⟨some 67, none, .mov (.t 13)⟩,
      ⟨some 68, none, .bin .sub (.t 67) (.c (.int .i64 1))⟩,
      ⟨some 13, none, .mov (.t 68)⟩]
      [0, 1, 4, 12, 13]) [0, 1, 4, 12, 13]))
def RB.slices_partitionCmpFunc_api_Want_5 : RCode :=
  (.seq (.seq (.drawn [⟨some 32, none, .mov (.t 12)⟩,
    ⟨some 33, none, .mov (.t 13)⟩,
    ⟨some 34, none, .bin .leq (.t 32) (.t 33)⟩,
    ⟨some 35, none, .mov (.t 34)⟩,
    ⟨some 36, some (35, true), .mov (.t 4)⟩,
    ⟨some 37, some (35, true), .mov (.t 0)⟩,
    ⟨some 38, some (35, true), .mov (.t 12)⟩,
    ⟨some 39, some (35, true), .idxS 2 (.t 37) (.t 38)⟩,
    ⟨some 40, some (35, true), .load true 2 (.t 39)⟩,
    ⟨some 41, some (35, true), .mov (.t 0)⟩,
    ⟨some 42, some (35, true), .mov (.t 1)⟩,
    ⟨some 43, some (35, true), .idxS 2 (.t 41) (.t 42)⟩,
    ⟨some 44, some (35, true), .load true 2 (.t 43)⟩,
    ⟨some 45, some (35, true), .callv (.t 36) [.t 40, .t 44]⟩,
    ⟨some 46, some (35, true), .bin .lss (.t 45) (.c (.int .i64 0))⟩,
    ⟨some 47, none, .pick (.t 35) (.t 46) (.c (.bool false))⟩]
    [[], [], [0, 1], [2], [3], [3], [3], [5, 6, 3], [7, 3], [3], [3], [9, 10, 3], [11, 3], [4, 8, 12, 3, 3], [13, 3], [3, 14]]
    [(0, []), (1, []), (2, []), (3, []), (4, []), (5, []), (6, []), (7, []), (9, []), (10, []), (11, []), (8, []), (12, []), (13, []), (14, []), (15, [])]
    [[], [], [0, 1], [0, 1, 2], [0, 1, 2, 3], [0, 1, 2, 3], [0, 1, 2, 3], [0, 1, 2, 3, 5, 6], [0, 1, 2, 3, 5, 6, 7], [0, 1, 2, 3], [0, 1, 2, 3], [0, 1, 2, 3, 9, 10], [0, 1, 2, 3, 9, 10, 11], [0, 1, 2, 3, 4, 5, 6, 7, 8, 9, 10, 11, 12], [0, 1, 2, 3, 4, 5, 6, 7, 8, 9, 10, 11, 12, 13], [0, 1, 2, 3, 4, 5, 6, 7, 8, 9, 10, 11, 12, 13, 14]]
    [0, 1, 4, 12, 13, 47])
  (.cond (.t 47)
    .skip
    (.exit 0)))
  (.block 1
    (.region [⟨some 48, none, .mov (.t 12)⟩,
      ⟨some 49, none, .bin .add (.t 48) (.c (.int .i64 1))⟩,
      ⟨some 12, none, .mov (.t 49)⟩]
      [0, 1, 4, 12, 13]) [0, 1, 4, 12, 13]))
def RC.slices_partitionCmpFunc_api_Want : RFn := ⟨5, [.slot 10, .slot 11],
  (.seq (.region [⟨some 10, none, .mov (.c (.int .i64 0))⟩,
    ⟨some 11, none, .mov (.c (.bool false))⟩]
    [0, 1, 2, 3, 4])
  (.seq (.drawn [⟨some 14, none, .mov (.t 0)⟩,
    ⟨some 15, none, .mov (.t 1)⟩,
    ⟨some 16, none, .mov (.t 0)⟩,
    ⟨some 17, none, .mov (.t 3)⟩,
    ⟨some 18, none, .mov (.t 0)⟩,
    ⟨some 19, none, .mov (.t 3)⟩,
    ⟨some 20, none, .idxS 2 (.t 18) (.t 19)⟩,
    ⟨some 21, none, .load true 2 (.t 20)⟩,
    ⟨some 22, none, .mov (.t 0)⟩,
    ⟨some 23, none, .mov (.t 1)⟩,
    ⟨some 24, none, .idxS 2 (.t 22) (.t 23)⟩,
    ⟨some 25, none, .load true 2 (.t 24)⟩,
    ⟨some 26, none, .idxS 2 (.t 14) (.t 15)⟩,
    ⟨none, none, .store 2 (.t 26) (.t 21)⟩,
    ⟨some 27, none, .idxS 2 (.t 16) (.t 17)⟩,
    ⟨none, none, .store 2 (.t 27) (.t 25)⟩]
    [[], [], [], [], [], [], [4, 5], [6], [], [], [8, 9], [10], [0, 1, 0, 1, 4, 5, 6, 7, 11], [12, 7, 0, 1, 4, 5, 6, 7, 11], [2, 3, 0, 1, 2, 3, 4, 5, 6, 7, 8, 9, 10, 11, 12, 13], [14, 11, 13, 0, 1, 2, 3, 4, 5, 6, 7, 8, 9, 10, 11, 12, 13]]
    [(0, []), (1, []), (2, []), (3, []), (4, []), (5, []), (6, []), (8, []), (9, []), (10, []), (7, []), (11, []), (12, []), (13, []), (14, []), (15, [])]
    [[], [], [], [], [], [], [4, 5], [4, 5, 6], [], [], [8, 9], [8, 9, 10], [0, 1, 4, 5, 6, 7, 8, 9, 10, 11], [0, 1, 4, 5, 6, 7, 8, 9, 10, 11, 12], [0, 1, 2, 3, 4, 5, 6, 7, 8, 9, 10, 11, 12, 13], [0, 1, 2, 3, 4, 5, 6, 7, 8, 9, 10, 11, 12, 13, 14]]
    [0, 1, 2, 4])
  (.seq (.region [⟨some 28, none, .mov (.t 1)⟩,
    ⟨some 29, none, .bin .add (.t 28) (.c (.int .i64 1))⟩,
    ⟨some 30, none, .mov (.t 2)⟩,
    ⟨some 31, none, .bin .sub (.t 30) (.c (.int .i64 1))⟩,
    ⟨some 12, none, .mov (.t 29)⟩,
    ⟨some 13, none, .mov (.t 31)⟩]
    [0, 1, 4, 12, 13])
  (.seq (.block 0
    (.loop [0, 1, 4, 12, 13] RB.slices_partitionCmpFunc_api_Want_5) [0, 1, 4, 12, 13])
  (.seq (.block 2
    (.loop [0, 1, 4, 12, 13] RB.slices_partitionCmpFunc_api_Want_4) [0, 1, 4, 12, 13])
  (.seq (.seq (.region [⟨some 69, none, .mov (.t 12)⟩,
    ⟨some 70, none, .mov (.t 13)⟩,
    ⟨some 71, none, .bin .gtr (.t 69) (.t 70)⟩]
    [0, 1, 4, 12, 13, 71])
  (.cond (.t 71)
    (.seq (.drawn [⟨some 72, none, .mov (.t 0)⟩,
      ⟨some 73, none, .mov (.t 13)⟩,
      ⟨some 74, none, .mov (.t 0)⟩,
      ⟨some 75, none, .mov (.t 1)⟩,
      ⟨some 76, none, .mov (.t 0)⟩,
      ⟨some 77, none, .mov (.t 1)⟩,
      ⟨some 78, none, .idxS 2 (.t 76) (.t 77)⟩,
      ⟨some 79, none, .load true 2 (.t 78)⟩,
      ⟨some 80, none, .mov (.t 0)⟩,
      ⟨some 81, none, .mov (.t 13)⟩,
      ⟨some 82, none, .idxS 2 (.t 80) (.t 81)⟩,
      ⟨some 83, none, .load true 2 (.t 82)⟩,
      ⟨some 84, none, .idxS 2 (.t 72) (.t 73)⟩,
      ⟨none, none, .store 2 (.t 84) (.t 79)⟩,
      ⟨some 85, none, .idxS 2 (.t 74) (.t 75)⟩,
      ⟨none, none, .store 2 (.t 85) (.t 83)⟩]
      [[], [], [], [], [], [], [4, 5], [6], [], [], [8, 9], [10], [0, 1, 0, 1, 4, 5, 6, 7, 11], [12, 7, 0, 1, 4, 5, 6, 7, 11], [2, 3, 0, 1, 2, 3, 4, 5, 6, 7, 8, 9, 10, 11, 12, 13], [14, 11, 13, 0, 1, 2, 3, 4, 5, 6, 7, 8, 9, 10, 11, 12, 13]]
      [(0, []), (1, []), (2, []), (3, []), (4, []), (5, []), (6, []), (8, []), (9, []), (10, []), (7, []), (11, []), (12, []), (13, []), (14, []), (15, [])]
      [[], [], [], [], [], [], [4, 5], [4, 5, 6], [], [], [8, 9], [8, 9, 10], [0, 1, 4, 5, 6, 7, 8, 9, 10, 11], [0, 1, 4, 5, 6, 7, 8, 9, 10, 11, 12], [0, 1, 2, 3, 4, 5, 6, 7, 8, 9, 10, 11, 12, 13], [0, 1, 2, 3, 4, 5, 6, 7, 8, 9, 10, 11, 12, 13, 14]]
      [13])
    (.seq (.region [⟨some 86, none, .mov (.t 13)⟩,
      ⟨some 10, none, .mov (.t 86)⟩,
      ⟨some 11, none, .mov (.c (.bool true))⟩]
      [10, 11])
    .ret))
    .skip))
  (.seq (.drawn [⟨some 87, none, .mov (.t 0)⟩,
    ⟨some 88, none, .mov (.t 12)⟩,
    ⟨some 89, none, .mov (.t 0)⟩,
    ⟨some 90, none, .mov (.t 13)⟩,
    ⟨some 91, none, .mov (.t 0)⟩,
    ⟨some 92, none, .mov (.t 13)⟩,
    ⟨some 93, none, .idxS 2 (.t 91) (.t 92)⟩,
    ⟨some 94, none, .load true 2 (.t 93)⟩,
    ⟨some 95, none, .mov (.t 0)⟩,
    ⟨some 96, none, .mov (.t 12)⟩,
    ⟨some 97, none, .idxS 2 (.t 95) (.t 96)⟩,
    ⟨some 98, none, .load true 2 (.t 97)⟩,
    ⟨some 99, none, .idxS 2 (.t 87) (.t 88)⟩,
    ⟨none, none, .store 2 (.t 99) (.t 94)⟩,
    ⟨some 100, none, .idxS 2 (.t 89) (.t 90)⟩,
    ⟨none, none, .store 2 (.t 100) (.t 98)⟩]
    [[], [], [], [], [], [], [4, 5], [6], [], [], [8, 9], [10], [0, 1, 0, 1, 4, 5, 6, 7, 11], [12, 7, 0, 1, 4, 5, 6, 7, 11], [2, 3, 0, 1, 2, 3, 4, 5, 6, 7, 8, 9, 10, 11, 12, 13], [14, 11, 13, 0, 1, 2, 3, 4, 5, 6, 7, 8, 9, 10, 11, 12, 13]]
    [(0, []), (1, []), (2, []), (3, []), (4, []), (5, []), (6, []), (8, []), (9, []), (10, []), (7, []), (11, []), (12, []), (13, []), (14, []), (15, [])]
    [[], [], [], [], [], [], [4, 5], [4, 5, 6], [], [], [8, 9], [8, 9, 10], [0, 1, 4, 5, 6, 7, 8, 9, 10, 11], [0, 1, 4, 5, 6, 7, 8, 9, 10, 11, 12], [0, 1, 2, 3, 4, 5, 6, 7, 8, 9, 10, 11, 12, 13], [0, 1, 2, 3, 4, 5, 6, 7, 8, 9, 10, 11, 12, 13, 14]]
    [0, 1, 4, 12, 13])
  (.seq (.region [⟨some 101, none, .mov (.t 12)⟩,
    ⟨some 102, none, .bin .add (.t 101) (.c (.int .i64 1))⟩,
    ⟨some 12, none, .mov (.t 102)⟩]
    [0, 1, 4, 12, 13])
  (.seq (.region [⟨some 103, none, .mov (.t 13)⟩,
    ⟨some 104, none, .bin .sub (.t 103) (.c (.int .i64 1))⟩,
    ⟨some 13, none, .mov (.t 104)⟩]
    [0, 1, 4, 12, 13])
  (.seq (.block 4
    (.loop [0, 1, 4, 12, 13] RB.slices_partitionCmpFunc_api_Want_3) [0, 1, 13])
  (.seq (.drawn [⟨some 163, none, .mov (.t 0)⟩,
    ⟨some 164, none, .mov (.t 13)⟩,
    ⟨some 165, none, .mov (.t 0)⟩,
    ⟨some 166, none, .mov (.t 1)⟩,
    ⟨some 167, none, .mov (.t 0)⟩,
    ⟨some 168, none, .mov (.t 1)⟩,
    ⟨some 169, none, .idxS 2 (.t 167) (.t 168)⟩,
    ⟨some 170, none, .load true 2 (.t 169)⟩,
    ⟨some 171, none, .mov (.t 0)⟩,
    ⟨some 172, none, .mov (.t 13)⟩,
    ⟨some 173, none, .idxS 2 (.t 171) (.t 172)⟩,
    ⟨some 174, none, .load true 2 (.t 173)⟩,
    ⟨some 175, none, .idxS 2 (.t 163) (.t 164)⟩,
    ⟨none, none, .store 2 (.t 175) (.t 170)⟩,
    ⟨some 176, none, .idxS 2 (.t 165) (.t 166)⟩,
    ⟨none, none, .store 2 (.t 176) (.t 174)⟩]
    [[], [], [], [], [], [], [4, 5], [6], [], [], [8, 9], [10], [0, 1, 0, 1, 4, 5, 6, 7, 11], [12, 7, 0, 1, 4, 5, 6, 7, 11], [2, 3, 0, 1, 2, 3, 4, 5, 6, 7, 8, 9, 10, 11, 12, 13], [14, 11, 13, 0, 1, 2, 3, 4, 5, 6, 7, 8, 9, 10, 11, 12, 13]]
    [(0, []), (1, []), (2, []), (3, []), (4, []), (5, []), (6, []), (8, []), (9, []), (10, []), (7, []), (11, []), (12, []), (13, []), (14, []), (15, [])]
    [[], [], [], [], [], [], [4, 5], [4, 5, 6], [], [], [8, 9], [8, 9, 10], [0, 1, 4, 5, 6, 7, 8, 9, 10, 11], [0, 1, 4, 5, 6, 7, 8, 9, 10, 11, 12], [0, 1, 2, 3, 4, 5, 6, 7, 8, 9, 10, 11, 12, 13], [0, 1, 2, 3, 4, 5, 6, 7, 8, 9, 10, 11, 12, 13, 14]]
    [13])
  (.seq (.region [⟨some 177, none, .mov (.t 13)⟩,
    ⟨some 10, none, .mov (.t 177)⟩,
    ⟨some 11, none, .mov (.c (.bool false))⟩]
    [10, 11])
  .ret))))))))))))⟩

def RC.math_bits_Len32 : RFn := ⟨1, [.slot 2],
  (.seq (.region [⟨some 2, none, .mov (.c (.int .i64 0))⟩]
    [0, 2])
  (.seq (.seq (.region [⟨some 3, none, .mov (.t 0)⟩,
    ⟨some 4, none, .bin .geq (.t 3) (.c (u32 65536#32))⟩]
    [0, 2, 4])
  (.cond (.t 4)
    (.seq (.region [⟨some 5, none, .mov (.t 0)⟩,
      ⟨some 6, none, .bin .shr (.t 5) (.c (u64 16#64))⟩,
      ⟨some 0, none, .mov (.t 6)⟩]
      [0])
    (.region [⟨some 2, none, .mov (.c (.int .i64 16))⟩]
      [0, 2]))
    .skip))
  (.seq (.seq (.region [⟨some 7, none, .mov (.t 0)⟩,
    ⟨some 8, none, .bin .geq (.t 7) (.c (u32 256#32))⟩]
    [0, 2, 8])
  (.cond (.t 8)
    (.seq (.region [⟨some 9, none, .mov (.t 0)⟩,
      ⟨some 10, none, .bin .shr (.t 9) (.c (u64 8#64))⟩,
      ⟨some 0, none, .mov (.t 10)⟩]
      [0, 2])
    (.region [⟨some 11, none, .mov (.t 2)⟩,
      ⟨some 12, none, .bin .add (.t 11) (.c (.int .i64 8))⟩,
      ⟨some 2, none, .mov (.t 12)⟩]
      [0, 2]))
    .skip))
  (.seq (.region [⟨some 13, none, .mov (.t 2)⟩,
    ⟨some 14, none, .mov (.t 0)⟩,
    ⟨some 15, none, .conv .u8 (.t 14)⟩,
    ⟨some 16, none, .idxStr (.c (.string lenTab)) (.t 15)⟩,
    ⟨some 17, none, .conv .i64 (.t 16)⟩,
    ⟨some 18, none, .bin .add (.t 13) (.t 17)⟩,
    ⟨some 2, none, .mov (.t 18)⟩]
    [2])
  .ret))))⟩

def RC.math_bits_Len64 : RFn := ⟨1, [.slot 2],
  (.seq (.region [⟨some 2, none, .mov (.c (.int .i64 0))⟩]
    [0, 2])
  (.seq (.seq (.region [⟨some 3, none, .mov (.t 0)⟩,
    ⟨some 4, none, .bin .geq (.t 3) (.c (u64 4294967296#64))⟩]
    [0, 2, 4])
  (.cond (.t 4)
    (.seq (.region [⟨some 5, none, .mov (.t 0)⟩,
      ⟨some 6, none, .bin .shr (.t 5) (.c (u64 32#64))⟩,
      ⟨some 0, none, .mov (.t 6)⟩]
      [0])
    (.region [⟨some 2, none, .mov (.c (.int .i64 32))⟩]
      [0, 2]))
    .skip))
  (.seq (.seq (.region [⟨some 7, none, .mov (.t 0)⟩,
    ⟨some 8, none, .bin .geq (.t 7) (.c (u64 65536#64))⟩]
    [0, 2, 8])
  (.cond (.t 8)
    (.seq (.region [⟨some 9, none, .mov (.t 0)⟩,
      ⟨some 10, none, .bin .shr (.t 9) (.c (u64 16#64))⟩,
      ⟨some 0, none, .mov (.t 10)⟩]
      [0, 2])
    (.region [⟨some 11, none, .mov (.t 2)⟩,
      ⟨some 12, none, .bin .add (.t 11) (.c (.int .i64 16))⟩,
      ⟨some 2, none, .mov (.t 12)⟩]
      [0, 2]))
    .skip))
  (.seq (.seq (.region [⟨some 13, none, .mov (.t 0)⟩,
    ⟨some 14, none, .bin .geq (.t 13) (.c (u64 256#64))⟩]
    [0, 2, 14])
  (.cond (.t 14)
    (.seq (.region [⟨some 15, none, .mov (.t 0)⟩,
      ⟨some 16, none, .bin .shr (.t 15) (.c (u64 8#64))⟩,
      ⟨some 0, none, .mov (.t 16)⟩]
      [0, 2])
    (.region [⟨some 17, none, .mov (.t 2)⟩,
      ⟨some 18, none, .bin .add (.t 17) (.c (.int .i64 8))⟩,
      ⟨some 2, none, .mov (.t 18)⟩]
      [0, 2]))
    .skip))
  (.seq (.region [⟨some 19, none, .mov (.t 2)⟩,
    ⟨some 20, none, .mov (.t 0)⟩,
    ⟨some 21, none, .conv .u8 (.t 20)⟩,
    ⟨some 22, none, .idxStr (.c (.string lenTab)) (.t 21)⟩,
    ⟨some 23, none, .conv .i64 (.t 22)⟩,
    ⟨some 24, none, .bin .add (.t 19) (.t 23)⟩,
    ⟨some 2, none, .mov (.t 24)⟩]
    [2])
  .ret)))))⟩

def RB.slices_siftDownCmpFunc_api_Want_1 : RCode :=
  (.block 1
    (.seq (.region [⟨some 13, none, .mov (.t 10)⟩,
      ⟨some 14, none, .bin .mul (.c (.int .i64 2)) (.t 13)⟩,
      ⟨some 15, none, .bin .add (.t 14) (.c (.int .i64 1))⟩,
      ⟨some 11, none, .mov (.t 15)⟩]
      [0, 2, 3, 4, 10, 11])
    (.seq (.seq (.region [⟨some 16, none, .mov (.t 11)⟩,
      ⟨some 17, none, .mov (.t 2)⟩,
      ⟨some 18, none, .bin .geq (.t 16) (.t 17)⟩]
      [0, 2, 3, 4, 10, 11, 18])
    (.cond (.t 18)
      (.exit 0)
      .skip))
    (.seq (.seq (.drawn [⟨some 19, none, .mov (.t 11)⟩,
      ⟨some 20, none, .bin .add (.t 19) (.c (.int .i64 1))⟩,
      ⟨some 21, none, .mov (.t 2)⟩,
      ⟨some 22, none, .bin .lss (.t 20) (.t 21)⟩,
      ⟨some 23, none, .mov (.t 22)⟩,
      ⟨some 24, some (23, true), .mov (.t 4)⟩,
      ⟨some 25, some (23, true), .mov (.t 0)⟩,
      ⟨some 26, some (23, true), .mov (.t 3)⟩,
      ⟨some 27, some (23, true), .mov (.t 11)⟩,
      ⟨some 28, some (23, true), .bin .add (.t 26) (.t 27)⟩,
      ⟨some 29, some (23, true), .idxS 2 (.t 25) (.t 28)⟩,
      ⟨some 30, some (23, true), .load true 2 (.t 29)⟩,
      ⟨some 31, some (23, true), .mov (.t 0)⟩,
      ⟨some 32, some (23, true), .mov (.t 3)⟩,
      ⟨some 33, some (23, true), .mov (.t 11)⟩,
      ⟨some 34, some (23, true), .bin .add (.t 32) (.t 33)⟩,
      ⟨some 35, some (23, true), .bin .add (.t 34) (.c (.int .i64 1))⟩,
      ⟨some 36, some (23, true), .idxS 2 (.t 31) (.t 35)⟩,
      ⟨some 37, some (23, true), .load true 2 (.t 36)⟩,
      ⟨some 38, some (23, true), .callv (.t 24) [.t 30, .t 37]⟩,
      ⟨some 39, some (23, true), .bin .lss (.t 38) (.c (.int .i64 0))⟩,
      ⟨some 40, none, .pick (.t 23) (.t 39) (.c (.bool false))⟩]
      [[], [0], [], [1, 2], [3], [4], [4], [4], [4], [7, 8, 4], [6, 9, 4], [10, 4], [4], [4], [4], [13, 14, 4], [15, 4], [12, 16, 4], [17, 4], [5, 11, 18, 4, 4], [19, 4], [4, 20]]
      [(0, []), (1, []), (2, []), (3, []), (4, []), (5, []), (6, []), (7, []), (8, []), (9, []), (10, []), (12, []), (13, []), (14, []), (15, []), (16, []), (17, []), (11, []), (18, []), (19, []), (20, []), (21, [])]
      [[], [0], [], [0, 1, 2], [0, 1, 2, 3], [0, 1, 2, 3, 4], [0, 1, 2, 3, 4], [0, 1, 2, 3, 4], [0, 1, 2, 3, 4], [0, 1, 2, 3, 4, 7, 8], [0, 1, 2, 3, 4, 6, 7, 8, 9], [0, 1, 2, 3, 4, 6, 7, 8, 9, 10], [0, 1, 2, 3, 4], [0, 1, 2, 3, 4], [0, 1, 2, 3, 4], [0, 1, 2, 3, 4, 13, 14], [0, 1, 2, 3, 4, 13, 14, 15], [0, 1, 2, 3, 4, 12, 13, 14, 15, 16], [0, 1, 2, 3, 4, 12, 13, 14, 15, 16, 17], [0, 1, 2, 3, 4, 5, 6, 7, 8, 9, 10, 11, 12, 13, 14, 15, 16, 17, 18], [0, 1, 2, 3, 4, 5, 6, 7, 8, 9, 10, 11, 12, 13, 14, 15, 16, 17, 18, 19], [0, 1, 2, 3, 4, 5, 6, 7, 8, 9, 10, 11, 12, 13, 14, 15, 16, 17, 18, 19, 20]]
      [0, 2, 3, 4, 10, 11, 40])
    (.cond (.t 40)
      (.region [⟨some 41, none, .mov (.t 11)⟩,
        ⟨some 42, none, .bin .add (.t 41) (.c (.int .i64 1))⟩,
        ⟨some 11, none, .mov (.t 42)⟩]
        [0, 2, 3, 4, 10, 11])
      .skip))
    (.seq (.seq (.drawn [⟨some 43, none, .mov (.t 4)⟩,
      ⟨some 44, none, .mov (.t 0)⟩,
      ⟨some 45, none, .mov (.t 3)⟩,
      ⟨some 46, none, .mov (.t 10)⟩,
      ⟨some 47, none, .bin .add (.t 45) (.t 46)⟩,
      ⟨some 48, none, .idxS 2 (.t 44) (.t 47)⟩,
      ⟨some 49, none, .load true 2 (.t 48)⟩,
      ⟨some 50, none, .mov (.t 0)⟩,
      ⟨some 51, none, .mov (.t 3)⟩,
      ⟨some 52, none, .mov (.t 11)⟩,
      ⟨some 53, none, .bin .add (.t 51) (.t 52)⟩,
      ⟨some 54, none, .idxS 2 (.t 50) (.t 53)⟩,
      ⟨some 55, none, .load true 2 (.t 54)⟩,
      ⟨some 56, none, .callv (.t 43) [.t 49, .t 55]⟩,
      ⟨some 57, none, .bin .lss (.t 56) (.c (.int .i64 0))⟩,
      ⟨some 58, none, .un .not (.t 57)⟩]
      [[], [], [], [], [2, 3], [1, 4], [5], [], [], [], [8, 9], [7, 10], [11], [0, 6, 12], [13], [14]]
      [(0, []), (1, []), (2, []), (3, []), (4, []), (5, []), (7, []), (8, []), (9, []), (10, []), (11, []), (6, []), (12, []), (13, []), (14, []), (15, [])]
      [[], [], [], [], [2, 3], [1, 2, 3, 4], [1, 2, 3, 4, 5], [], [], [], [8, 9], [7, 8, 9, 10], [7, 8, 9, 10, 11], [0, 1, 2, 3, 4, 5, 6, 7, 8, 9, 10, 11, 12], [0, 1, 2, 3, 4, 5, 6, 7, 8, 9, 10, 11, 12, 13], [0, 1, 2, 3, 4, 5, 6, 7, 8, 9, 10, 11, 12, 13, 14]]
      [0, 2, 3, 4, 10, 11, 58])
    (.cond (.t 58)
      .ret
      .skip))
    (.seq (.drawn [⟨some 59, none, .mov (.t 0)⟩,
      ⟨some 60, none, .mov (.t 3)⟩,
      ⟨some 61, none, .mov (.t 10)⟩,
      ⟨some 62, none, .bin .add (.t 60) (.t 61)⟩,
      ⟨some 63, none, .mov (.t 0)⟩,
      ⟨some 64, none, .mov (.t 3)⟩,
      ⟨some 65, none, .mov (.t 11)⟩,
      ⟨some 66, none, .bin .add (.t 64) (.t 65)⟩,
      ⟨some 67, none, .mov (.t 0)⟩,
      ⟨some 68, none, .mov (.t 3)⟩,
      ⟨some 69, none, .mov (.t 11)⟩,
      ⟨some 70, none, .bin .add (.t 68) (.t 69)⟩,
      ⟨some 71, none, .idxS 2 (.t 67) (.t 70)⟩,
      ⟨some 72, none, .load true 2 (.t 71)⟩,
      ⟨some 73, none, .mov (.t 0)⟩,
      ⟨some 74, none, .mov (.t 3)⟩,
      ⟨some 75, none, .mov (.t 10)⟩,
      ⟨some 76, none, .bin .add (.t 74) (.t 75)⟩,
      ⟨some 77, none, .idxS 2 (.t 73) (.t 76)⟩,
      ⟨some 78, none, .load true 2 (.t 77)⟩,
      ⟨some 79, none, .idxS 2 (.t 59) (.t 62)⟩,
      ⟨none, none, .store 2 (.t 79) (.t 72)⟩,
      ⟨some 80, none, .idxS 2 (.t 63) (.t 66)⟩,
      ⟨none, none, .store 2 (.t 80) (.t 78)⟩]
      [[], [], [], [1, 2], [], [], [], [5, 6], [], [], [], [9, 10], [8, 11], [12], [], [], [], [15, 16], [14, 17], [18], [0, 3, 0, 1, 2, 3, 8, 9, 10, 11, 12, 13, 19], [20, 13, 0, 1, 2, 3, 8, 9, 10, 11, 12, 13, 19], [4, 7, 0, 1, 2, 3, 4, 5, 6, 7, 8, 9, 10, 11, 12, 13, 14, 15, 16, 17, 18, 19, 20, 21], [22, 19, 21, 0, 1, 2, 3, 4, 5, 6, 7, 8, 9, 10, 11, 12, 13, 14, 15, 16, 17, 18, 19, 20, 21]]
      [(0, []), (1, []), (2, []), (3, []), (4, []), (5, []), (6, []), (7, []), (8, []), (9, []), (10, []), (11, []), (12, []), (14, []), (15, []), (16, []), (17, []), (18, []), (13, []), (19, []), (20, []), (21, []), (22, []), (23, [])]
      [[], [], [], [1, 2], [], [], [], [5, 6], [], [], [], [9, 10], [8, 9, 10, 11], [8, 9, 10, 11, 12], [], [], [], [15, 16], [14, 15, 16, 17], [14, 15, 16, 17, 18], [0, 1, 2, 3, 8, 9, 10, 11, 12, 13, 14, 15, 16, 17, 18, 19], [0, 1, 2, 3, 8, 9, 10, 11, 12, 13, 14, 15, 16, 17, 18, 19, 20], [0, 1, 2, 3, 4, 5, 6, 7, 8, 9, 10, 11, 12, 13, 14, 15, 16, 17, 18, 19, 20, 21], [0, 1, 2, 3, 4, 5, 6, 7, 8, 9, 10, 11, 12, 13, 14, 15, 16, 17, 18, 19, 20, 21, 22]]
      [0, 2, 3, 4, 11])
    (.region [⟨some 81, none, .mov (.t 11)⟩,
      ⟨some 10, none, .mov (.t 81)⟩]
      [0, 2, 3, 4, 10])))))) [0, 2, 3, 4, 10])
def RC.slices_siftDownCmpFunc_api_Want : RFn := ⟨5, [],
  (.seq (.region [⟨some 12, none, .mov (.t 1)⟩,
    ⟨some 10, none, .mov (.t 12)⟩]
    [0, 2, 3, 4, 10])
  (.block 0
    (.loop [0, 2, 3, 4, 10] RB.slices_siftDownCmpFunc_api_Want_1) []))⟩

def RC.slices_nextPowerOfTwo : RFn := ⟨1, [.slot 2],
  (.seq (.region [⟨some 2, none, .mov (.c (u64 0#64))⟩]
    [0])
  (.seq (.region [⟨some 3, none, .mov (.t 0)⟩,
    ⟨some 4, none, .conv .u64 (.t 3)⟩,
    ⟨some 5, none, .call F.math_bits_Len [.t 4]⟩,
    ⟨some 6, none, .bin .shl (.c (u64 1#64)) (.t 5)⟩,
    ⟨some 2, none, .mov (.t 6)⟩]
    [2])
  .ret))⟩

def RC.slices_xorshift_Next : RFn := ⟨1, [.slot 2],
  (.seq (.region [⟨some 2, none, .mov (.c (u64 0#64))⟩]
    [0])
  (.seq (.drawn [⟨some 3, none, .mov (.t 0)⟩,
    ⟨some 4, none, .nilchk (.t 3)⟩,
    ⟨some 5, none, .load false 1 (.t 4)⟩,
    ⟨some 6, none, .mov (.t 0)⟩,
    ⟨some 7, none, .nilchk (.t 6)⟩,
    ⟨some 8, none, .load false 1 (.t 7)⟩,
    ⟨some 9, none, .bin .shl (.t 8) (.c (u64 13#64))⟩,
    ⟨some 10, none, .bin .xor (.t 5) (.t 9)⟩,
    ⟨some 11, none, .nilchk (.t 3)⟩,
    ⟨none, none, .store 1 (.t 11) (.t 10)⟩]
    [[], [0], [1], [], [3], [4], [5], [2, 6], [0, 0, 1, 2, 3, 4, 5, 6, 7], [8, 7, 0, 1, 2, 3, 4, 5, 6, 7]]
    [(0, []), (1, []), (3, []), (4, []), (2, []), (5, []), (6, []), (7, []), (8, []), (9, [])]
    [[], [0], [0, 1], [], [3], [3, 4], [3, 4, 5], [0, 1, 2, 3, 4, 5, 6], [0, 1, 2, 3, 4, 5, 6, 7], [0, 1, 2, 3, 4, 5, 6, 7, 8]]
    [0])
  (.seq (.drawn [⟨some 12, none, .mov (.t 0)⟩,
    ⟨some 13, none, .nilchk (.t 12)⟩,
    ⟨some 14, none, .load false 1 (.t 13)⟩,
    ⟨some 15, none, .mov (.t 0)⟩,
    ⟨some 16, none, .nilchk (.t 15)⟩,
    ⟨some 17, none, .load false 1 (.t 16)⟩,
    ⟨some 18, none, .bin .shr (.t 17) (.c (u64 7#64))⟩,
    ⟨some 19, none, .bin .xor (.t 14) (.t 18)⟩,
    ⟨some 20, none, .nilchk (.t 12)⟩,
    ⟨none, none, .store 1 (.t 20) (.t 19)⟩]
    [[], [0], [1], [], [3], [4], [5], [2, 6], [0, 0, 1, 2, 3, 4, 5, 6, 7], [8, 7, 0, 1, 2, 3, 4, 5, 6, 7]]
    [(0, []), (1, []), (3, []), (4, []), (2, []), (5, []), (6, []), (7, []), (8, []), (9, [])]
    [[], [0], [0, 1], [], [3], [3, 4], [3, 4, 5], [0, 1, 2, 3, 4, 5, 6], [0, 1, 2, 3, 4, 5, 6, 7], [0, 1, 2, 3, 4, 5, 6, 7, 8]]
    [0])
  (.seq (.drawn [⟨some 21, none, .mov (.t 0)⟩,
    ⟨some 22, none, .nilchk (.t 21)⟩,
    ⟨some 23, none, .load false 1 (.t 22)⟩,
    ⟨some 24, none, .mov (.t 0)⟩,
    ⟨some 25, none, .nilchk (.t 24)⟩,
    ⟨some 26, none, .load false 1 (.t 25)⟩,
    ⟨some 27, none, .bin .shl (.t 26) (.c (u64 17#64))⟩,
    ⟨some 28, none, .bin .xor (.t 23) (.t 27)⟩,
    ⟨some 29, none, .nilchk (.t 21)⟩,
    ⟨none, none, .store 1 (.t 29) (.t 28)⟩]
    [[], [0], [1], [], [3], [4], [5], [2, 6], [0, 0, 1, 2, 3, 4, 5, 6, 7], [8, 7, 0, 1, 2, 3, 4, 5, 6, 7]]
    [(0, []), (1, []), (3, []), (4, []), (2, []), (5, []), (6, []), (7, []), (8, []), (9, [])]
    [[], [0], [0, 1], [], [3], [3, 4], [3, 4, 5], [0, 1, 2, 3, 4, 5, 6], [0, 1, 2, 3, 4, 5, 6, 7], [0, 1, 2, 3, 4, 5, 6, 7, 8]]
    [0])
  (.seq (.region [⟨some 30, none, .mov (.t 0)⟩,
    ⟨some 31, none, .nilchk (.t 30)⟩,
    ⟨some 32, none, .load false 1 (.t 31)⟩,
    ⟨some 2, none, .mov (.t 32)⟩]
    [2])
  .ret)))))⟩

def RC.slices_medianAdjacentCmpFunc_api_Want : RFn := ⟨4, [.slot 8],
  (.seq (.region [⟨some 8, none, .mov (.c (.int .i64 0))⟩]
    [0, 1, 2, 3])
  (.seq (.region [⟨some 9, none, .mov (.t 0)⟩,
    ⟨some 10, none, .mov (.t 1)⟩,
    ⟨some 11, none, .bin .sub (.t 10) (.c (.int .i64 1))⟩,
    ⟨some 12, none, .mov (.t 1)⟩,
    ⟨some 13, none, .mov (.t 1)⟩,
    ⟨some 14, none, .bin .add (.t 13) (.c (.int .i64 1))⟩,
    ⟨some 15, none, .mov (.t 2)⟩,
    ⟨some 16, none, .mov (.t 3)⟩,
    ⟨some 17, none, .call F.slices_medianCmpFunc_api_Want [.t 9, .t 11, .t 12, .t 14, .t 15, .t 16]⟩,
    ⟨some 8, none, .mov (.t 17)⟩]
    [8])
  .ret))⟩

def RC.slices_medianCmpFunc_api_Want : RFn := ⟨6, [.slot 12],
  (.seq (.region [⟨some 12, none, .mov (.c (.int .i64 0))⟩]
    [0, 1, 2, 3, 4, 5])
  (.seq (.region [⟨some 14, none, .mov (.t 0)⟩,
    ⟨some 15, none, .mov (.t 1)⟩,
    ⟨some 16, none, .mov (.t 2)⟩,
    ⟨some 17, none, .mov (.t 4)⟩,
    ⟨some 18, none, .mov (.t 5)⟩,
    ⟨some 19, none, .call F.slices_order2CmpFunc_api_Want [.t 14, .t 15, .t 16, .t 17, .t 18]⟩,
    ⟨some 13, none, .mov (.t 19)⟩,
    ⟨some 20, none, .ext 0 (.t 13)⟩,
    ⟨some 21, none, .ext 1 (.t 13)⟩,
    ⟨some 1, none, .mov (.t 20)⟩,
    ⟨some 2, none, .mov (.t 21)⟩]
    [0, 1, 2, 3, 4, 5])
  (.seq (.region [⟨some 23, none, .mov (.t 0)⟩,
    ⟨some 24, none, .mov (.t 2)⟩,
    ⟨some 25, none, .mov (.t 3)⟩,
    ⟨some 26, none, .mov (.t 4)⟩,
    ⟨some 27, none, .mov (.t 5)⟩,
    ⟨some 28, none, .call F.slices_order2CmpFunc_api_Want [.t 23, .t 24, .t 25, .t 26, .t 27]⟩,
    ⟨some 22, none, .mov (.t 28)⟩,
    ⟨some 29, none, .ext 0 (.t 22)⟩,
    ⟨some 30, none, .ext 1 (.t 22)⟩,
    ⟨some 2, none, .mov (.t 29)⟩,
    ⟨some 3, none, .mov (.t 30)⟩]
    [0, 1, 2, 4, 5])
  (.seq (.region [⟨some 32, none, .mov (.t 0)⟩,
    ⟨some 33, none, .mov (.t 1)⟩,
    ⟨some 34, none, .mov (.t 2)⟩,
    ⟨some 35, none, .mov (.t 4)⟩,
    ⟨some 36, none, .mov (.t 5)⟩,
    ⟨some 37, none, .call F.slices_order2CmpFunc_api_Want [.t 32, .t 33, .t 34, .t 35, .t 36]⟩,
    ⟨some 31, none, .mov (.t 37)⟩,
    ⟨some 38, none, .ext 0 (.t 31)⟩,
    ⟨some 39, none, .ext 1 (.t 31)⟩,
    ⟨some 1, none, .mov (.t 38)⟩,
    ⟨some 2, none, .mov (.t 39)⟩]
    [2])
  (.seq (.region [⟨some 40, none, .mov (.t 2)⟩,
    ⟨some 12, none, .mov (.t 40)⟩]
    [12])
  .ret)))))⟩

def RC.slices_order2CmpFunc_api_Want : RFn := ⟨5, [.slot 10, .slot 11],
  (.seq (.region [⟨some 10, none, .mov (.c (.int .i64 0))⟩,
    ⟨some 11, none, .mov (.c (.int .i64 0))⟩]
    [0, 1, 2, 3, 4])
  (.seq (.seq (.drawn [⟨some 12, none, .mov (.t 4)⟩,
    ⟨some 13, none, .mov (.t 0)⟩,
    ⟨some 14, none, .mov (.t 2)⟩,
    ⟨some 15, none, .idxS 2 (.t 13) (.t 14)⟩,
    ⟨some 16, none, .load true 2 (.t 15)⟩,
    ⟨some 17, none, .mov (.t 0)⟩,
    ⟨some 18, none, .mov (.t 1)⟩,
    ⟨some 19, none, .idxS 2 (.t 17) (.t 18)⟩,
    ⟨some 20, none, .load true 2 (.t 19)⟩,
    ⟨some 21, none, .callv (.t 12) [.t 16, .t 20]⟩,
    ⟨some 22, none, .bin .lss (.t 21) (.c (.int .i64 0))⟩]
    [[], [], [], [1, 2], [3], [], [], [5, 6], [7], [0, 4, 8], [9]]
    [(0, []), (1, []), (2, []), (3, []), (5, []), (6, []), (7, []), (4, []), (8, []), (9, []), (10, [])]
    [[], [], [], [1, 2], [1, 2, 3], [], [], [5, 6], [5, 6, 7], [0, 1, 2, 3, 4, 5, 6, 7, 8], [0, 1, 2, 3, 4, 5, 6, 7, 8, 9]]
    [1, 2, 3, 22])
  (.cond (.t 22)
    (.seq (.region [⟨some 23, none, .mov (.t 3)⟩,
      ⟨some 24, none, .nilchk (.t 23)⟩,
      ⟨some 25, none, .load false 1 (.t 24)⟩,
      ⟨some 26, none, .bin .add (.t 25) (.c (.int .i64 1))⟩,
      ⟨some 27, none, .nilchk (.t 23)⟩,
      ⟨none, none, .store 1 (.t 27) (.t 26)⟩]
      [1, 2])
    (.seq (.region [⟨some 28, none, .mov (.t 2)⟩,
      ⟨some 29, none, .mov (.t 1)⟩,
      ⟨some 10, none, .mov (.t 28)⟩,
      ⟨some 11, none, .mov (.t 29)⟩]
      [10, 11])
    .ret))
    .skip))
  (.seq (.region [⟨some 30, none, .mov (.t 1)⟩,
    ⟨some 31, none, .mov (.t 2)⟩,
    ⟨some 10, none, .mov (.t 30)⟩,
    ⟨some 11, none, .mov (.t 31)⟩]
    [10, 11])
  .ret)))⟩

def tab0 : List (Nat × FEnt) := [(F.law08_OrderUnits, .rc RC.law08_OrderUnits),
  (F.law08_OrderChecks, .rc RC.law08_OrderChecks),
  (F.law08_OrderOne, .rc RC.law08_OrderOne),
  (F.law08_OrderSorts, .rc RC.law08_OrderSorts),
  (F.order_Unit, .rc RC.order_Unit),
  (F.order_Kind, .rc RC.order_Kind),
  (F.ref08_Is, .rc RC.ref08_Is),
  (F.ref08_Group, .rc RC.ref08_Group),
  (F.law08_awake, .rc RC.law08_awake),
  (F.order_Total, .rc RC.order_Total),
  (F.ref08_Total, .rc RC.ref08_Total),
  (F.order_Check, .rc RC.order_Check),
  (F.ref08_Check, .rc RC.ref08_Check),
  (F.order_Ahead, .rc RC.order_Ahead),
  (F.ref08_Ahead, .rc RC.ref08_Ahead),
  (F.order_Put, .rc RC.order_Put),
  (F.ref08_Same, .rc RC.ref08_Same),
  (F.order_Sort, .rc RC.order_Sort),
  (F.ref08_Sort, .rc RC.ref08_Sort),
  (F.ref08_Put, .rc RC.ref08_Put),
  (F.order_Without, .rc RC.order_Without),
  (F.ref08_Without, .rc RC.ref08_Without),
  (F.fixq_Add, .rc RC.fixq_Add),
  (F.ref02_Add, .rc RC.ref02_Add),
  (F.order_compare, .rc RC.order_compare),
  (F.slices_Clone_api_Want_api_Want, .rc RC.slices_Clone_api_Want_api_Want),
  (F.slices_SortFunc_api_Want_api_Want, .rc RC.slices_SortFunc_api_Want_api_Want),
  (F.slices_DeleteFunc_api_Want_api_Want, .rc RC.slices_DeleteFunc_api_Want_api_Want),
  (F.order_Without_1, .rc RC.order_Without_1),
  (F.cmp_Or_int, .rc RC.cmp_Or_int),
  (F.cmp_Compare_int, .rc RC.cmp_Compare_int),
  (F.slices_pdqsortCmpFunc_api_Want, .rc RC.slices_pdqsortCmpFunc_api_Want),
  (F.math_bits_Len, .rc RC.math_bits_Len),
  (F.slices_IndexFunc_api_Want_api_Want, .rc RC.slices_IndexFunc_api_Want_api_Want),
  (F.cmp_isNaN_int, .rc RC.cmp_isNaN_int),
  (F.slices_insertionSortCmpFunc_api_Want, .rc RC.slices_insertionSortCmpFunc_api_Want),
  (F.slices_heapSortCmpFunc_api_Want, .rc RC.slices_heapSortCmpFunc_api_Want),
  (F.slices_breakPatternsCmpFunc_api_Want, .rc RC.slices_breakPatternsCmpFunc_api_Want),
  (F.slices_choosePivotCmpFunc_api_Want, .rc RC.slices_choosePivotCmpFunc_api_Want),
  (F.slices_reverseRangeCmpFunc_api_Want, .rc RC.slices_reverseRangeCmpFunc_api_Want),
  (F.slices_partialInsertionSortCmpFunc_api_Want, .rc RC.slices_partialInsertionSortCmpFunc_api_Want),
  (F.slices_partitionEqualCmpFunc_api_Want, .rc RC.slices_partitionEqualCmpFunc_api_Want),
  (F.slices_partitionCmpFunc_api_Want, .rc RC.slices_partitionCmpFunc_api_Want),
  (F.math_bits_Len32, .rc RC.math_bits_Len32),
  (F.math_bits_Len64, .rc RC.math_bits_Len64),
  (F.slices_siftDownCmpFunc_api_Want, .rc RC.slices_siftDownCmpFunc_api_Want),
  (F.slices_nextPowerOfTwo, .rc RC.slices_nextPowerOfTwo),
  (F.slices_xorshift_Next, .rc RC.slices_xorshift_Next),
  (F.slices_medianAdjacentCmpFunc_api_Want, .rc RC.slices_medianAdjacentCmpFunc_api_Want),
  (F.slices_medianCmpFunc_api_Want, .rc RC.slices_medianCmpFunc_api_Want),
  (F.slices_order2CmpFunc_api_Want, .rc RC.slices_order2CmpFunc_api_Want),
  (F.slices_Insert_api_Want_api_Want, .ext X.in28)]
/-- What each number stands for. -/
def R0 : Nat → Option FEnt := lookF tab0
/-- The same, with the examples as known. -/
def tab : List (Nat × FEnt) := (F.law08_awake, .ext X.ok) :: tab0
def R : Nat → Option FEnt := lookF tab
theorem R.law08_awake : R F.law08_awake = some (.ext X.ok) := by with_unfolding_all rfl
theorem R.law08_OrderUnits : R F.law08_OrderUnits = some (.rc RC.law08_OrderUnits) := by with_unfolding_all rfl
theorem R.law08_OrderChecks : R F.law08_OrderChecks = some (.rc RC.law08_OrderChecks) := by with_unfolding_all rfl
theorem R.law08_OrderOne : R F.law08_OrderOne = some (.rc RC.law08_OrderOne) := by with_unfolding_all rfl
theorem R.law08_OrderSorts : R F.law08_OrderSorts = some (.rc RC.law08_OrderSorts) := by with_unfolding_all rfl
theorem R.order_Unit : R F.order_Unit = some (.rc RC.order_Unit) := by with_unfolding_all rfl
theorem R.order_Kind : R F.order_Kind = some (.rc RC.order_Kind) := by with_unfolding_all rfl
theorem R.ref08_Is : R F.ref08_Is = some (.rc RC.ref08_Is) := by with_unfolding_all rfl
theorem R.ref08_Group : R F.ref08_Group = some (.rc RC.ref08_Group) := by with_unfolding_all rfl
theorem R.order_Total : R F.order_Total = some (.rc RC.order_Total) := by with_unfolding_all rfl
theorem R.ref08_Total : R F.ref08_Total = some (.rc RC.ref08_Total) := by with_unfolding_all rfl
theorem R.order_Check : R F.order_Check = some (.rc RC.order_Check) := by with_unfolding_all rfl
theorem R.ref08_Check : R F.ref08_Check = some (.rc RC.ref08_Check) := by with_unfolding_all rfl
theorem R.order_Ahead : R F.order_Ahead = some (.rc RC.order_Ahead) := by with_unfolding_all rfl
theorem R.ref08_Ahead : R F.ref08_Ahead = some (.rc RC.ref08_Ahead) := by with_unfolding_all rfl
theorem R.order_Put : R F.order_Put = some (.rc RC.order_Put) := by with_unfolding_all rfl
theorem R.ref08_Same : R F.ref08_Same = some (.rc RC.ref08_Same) := by with_unfolding_all rfl
theorem R.order_Sort : R F.order_Sort = some (.rc RC.order_Sort) := by with_unfolding_all rfl
theorem R.ref08_Sort : R F.ref08_Sort = some (.rc RC.ref08_Sort) := by with_unfolding_all rfl
theorem R.ref08_Put : R F.ref08_Put = some (.rc RC.ref08_Put) := by with_unfolding_all rfl
theorem R.order_Without : R F.order_Without = some (.rc RC.order_Without) := by with_unfolding_all rfl
theorem R.ref08_Without : R F.ref08_Without = some (.rc RC.ref08_Without) := by with_unfolding_all rfl
theorem R.fixq_Add : R F.fixq_Add = some (.rc RC.fixq_Add) := by with_unfolding_all rfl
theorem R.ref02_Add : R F.ref02_Add = some (.rc RC.ref02_Add) := by with_unfolding_all rfl
theorem R.order_compare : R F.order_compare = some (.rc RC.order_compare) := by with_unfolding_all rfl
theorem R.slices_Clone_api_Want_api_Want : R F.slices_Clone_api_Want_api_Want = some (.rc RC.slices_Clone_api_Want_api_Want) := by with_unfolding_all rfl
theorem R.slices_SortFunc_api_Want_api_Want : R F.slices_SortFunc_api_Want_api_Want = some (.rc RC.slices_SortFunc_api_Want_api_Want) := by with_unfolding_all rfl
theorem R.slices_DeleteFunc_api_Want_api_Want : R F.slices_DeleteFunc_api_Want_api_Want = some (.rc RC.slices_DeleteFunc_api_Want_api_Want) := by with_unfolding_all rfl
theorem R.order_Without_1 : R F.order_Without_1 = some (.rc RC.order_Without_1) := by with_unfolding_all rfl
theorem R.cmp_Or_int : R F.cmp_Or_int = some (.rc RC.cmp_Or_int) := by with_unfolding_all rfl
theorem R.cmp_Compare_int : R F.cmp_Compare_int = some (.rc RC.cmp_Compare_int) := by with_unfolding_all rfl
theorem R.slices_pdqsortCmpFunc_api_Want : R F.slices_pdqsortCmpFunc_api_Want = some (.rc RC.slices_pdqsortCmpFunc_api_Want) := by with_unfolding_all rfl
theorem R.math_bits_Len : R F.math_bits_Len = some (.rc RC.math_bits_Len) := by with_unfolding_all rfl
theorem R.slices_IndexFunc_api_Want_api_Want : R F.slices_IndexFunc_api_Want_api_Want = some (.rc RC.slices_IndexFunc_api_Want_api_Want) := by with_unfolding_all rfl
theorem R.cmp_isNaN_int : R F.cmp_isNaN_int = some (.rc RC.cmp_isNaN_int) := by with_unfolding_all rfl
theorem R.slices_insertionSortCmpFunc_api_Want : R F.slices_insertionSortCmpFunc_api_Want = some (.rc RC.slices_insertionSortCmpFunc_api_Want) := by with_unfolding_all rfl
theorem R.slices_heapSortCmpFunc_api_Want : R F.slices_heapSortCmpFunc_api_Want = some (.rc RC.slices_heapSortCmpFunc_api_Want) := by with_unfolding_all rfl
theorem R.slices_breakPatternsCmpFunc_api_Want : R F.slices_breakPatternsCmpFunc_api_Want = some (.rc RC.slices_breakPatternsCmpFunc_api_Want) := by with_unfolding_all rfl
theorem R.slices_choosePivotCmpFunc_api_Want : R F.slices_choosePivotCmpFunc_api_Want = some (.rc RC.slices_choosePivotCmpFunc_api_Want) := by with_unfolding_all rfl
theorem R.slices_reverseRangeCmpFunc_api_Want : R F.slices_reverseRangeCmpFunc_api_Want = some (.rc RC.slices_reverseRangeCmpFunc_api_Want) := by with_unfolding_all rfl
theorem R.slices_partialInsertionSortCmpFunc_api_Want : R F.slices_partialInsertionSortCmpFunc_api_Want = some (.rc RC.slices_partialInsertionSortCmpFunc_api_Want) := by with_unfolding_all rfl
theorem R.slices_partitionEqualCmpFunc_api_Want : R F.slices_partitionEqualCmpFunc_api_Want = some (.rc RC.slices_partitionEqualCmpFunc_api_Want) := by with_unfolding_all rfl
theorem R.slices_partitionCmpFunc_api_Want : R F.slices_partitionCmpFunc_api_Want = some (.rc RC.slices_partitionCmpFunc_api_Want) := by with_unfolding_all rfl
theorem R.math_bits_Len32 : R F.math_bits_Len32 = some (.rc RC.math_bits_Len32) := by with_unfolding_all rfl
theorem R.math_bits_Len64 : R F.math_bits_Len64 = some (.rc RC.math_bits_Len64) := by with_unfolding_all rfl
theorem R.slices_siftDownCmpFunc_api_Want : R F.slices_siftDownCmpFunc_api_Want = some (.rc RC.slices_siftDownCmpFunc_api_Want) := by with_unfolding_all rfl
theorem R.slices_nextPowerOfTwo : R F.slices_nextPowerOfTwo = some (.rc RC.slices_nextPowerOfTwo) := by with_unfolding_all rfl
theorem R.slices_xorshift_Next : R F.slices_xorshift_Next = some (.rc RC.slices_xorshift_Next) := by with_unfolding_all rfl
theorem R.slices_medianAdjacentCmpFunc_api_Want : R F.slices_medianAdjacentCmpFunc_api_Want = some (.rc RC.slices_medianAdjacentCmpFunc_api_Want) := by with_unfolding_all rfl
theorem R.slices_medianCmpFunc_api_Want : R F.slices_medianCmpFunc_api_Want = some (.rc RC.slices_medianCmpFunc_api_Want) := by with_unfolding_all rfl
theorem R.slices_order2CmpFunc_api_Want : R F.slices_order2CmpFunc_api_Want = some (.rc RC.slices_order2CmpFunc_api_Want) := by with_unfolding_all rfl
theorem R.slices_Insert_api_Want_api_Want : R F.slices_Insert_api_Want_api_Want = some (.ext X.in28) := by with_unfolding_all rfl
end Go.Am


/- slices.Insert of one element, at this program: the library's text walked. -/
set_option linter.unusedVariables false
set_option linter.unusedSimpArgs false
namespace Go.Proofs
open Go.Shelf Go.RowKit Go.Lib

set_option maxHeartbeats 4000000 in
set_option maxRecDepth 100000 in
/-- There is room: in place. -/
theorem ins_shift (b off n c i vb voff vc : Nat) (cs vs : List Value) (w : World) (hi : i < n) (hroom : n + 1 ≤ c) (hn9 : n ≤ 1000000000) (hvb : vb ≠ b)
    (hcl : cs.length = n * 2) (hvl : vs.length = 2)
    (hcs : ∀ j v, cs[j]? = some v → w.cell? ⟨b, off + j, none⟩ = some v) (hsp : ∀ j, j < (n + 1) * 2 → (w.cell? ⟨b, off + j, none⟩).isSome = true) (hfz : ∀ j, w.frozen? ⟨b, j, none⟩ = false)
    (hvs : ∀ j v, vs[j]? = some v → w.cell? ⟨vb, voff + j, none⟩ = some v) (h1c : ∀ v ∈ cs, v.oneCell' = true) (h1v : ∀ v ∈ vs, v.oneCell' = true)
    (tA tB : TypeId) (kA kB : Nat) (hsa : w.shape? vb = some (tA, kA)) (hsb : w.shape? b = some (tB, kB)) (hkB : kB ≠ 0) (hfa : w.frozen? ⟨vb, voff, none⟩ = false) (hfe : w.frozen? ⟨vb, kA, none⟩ = false) :
    Calls Try.prog 28 #[.slice (some ⟨b, off, none⟩) n c, .int .i64 i, .slice (some ⟨vb, voff, none⟩) 1 vc] w fun e w' =>
      e = .returned (.slice (some ⟨b, off, none⟩) (n + 1) c) ∧ w' = (w.drew.setCells b (off + (i + 1) * 2) (cs.drop (i * 2))).setCells b (off + i * 2) vs := by
  have t0 := Try.underlying0; have a0 := Try.isAgg0; have z0 := Try.sizeOf0; have v0 := Try.zeroValue0; have t3 := Try.underlying3; have a3 := Try.isAgg3; have z3 := Try.sizeOf3; have v3 := Try.zeroValue3
  have t4 := Try.underlying4; have a4 := Try.isAgg4; have z4 := Try.sizeOf4; have v4 := Try.zeroValue4; have t9 := Try.underlying38; have a9 := Try.isAgg38; have z9 := Try.sizeOf38; have v9 := Try.zeroValue38; have t24 := Try.underlying30; have a24 := Try.isAgg30; have z24 := Try.sizeOf30; have v24 := Try.zeroValue30
  have u0 := run_underlying t0; have u3 := run_underlying t3; have u4 := run_underlying t4; have u9 := run_underlying t9; have u24 := run_underlying t24
  have hz2 : ¬ ((i : Int) = (n : Int)) := by omega
  have hsz : (Try.prog.info? 38).map (·.size) = some 2 := by kernel_rfl
  have hov : ∀ lb cb, (callFunc 35 #[.slice (some ⟨vb, voff, none⟩) 1 vc, .slice (some ⟨b, off + (i + 1) * 2, none⟩) lb cb]).run Try.prog w = .ok (.value (.bool false)) w := fun lb cb => by
    rw [run_callFunc_extern Try.func35 (by kernel_rfl) (by kernel_rfl) (by kernel_rfl) (e := Extern.SlicesOverlaps.overlaps #[30, 30] #[4]) (by kernel_rfl),
      Lib.run_overlaps_apart w 30 4 38 t24 2 z9 ⟨vb, voff, none⟩ ⟨b, off + (i + 1) * 2, none⟩ 1 vc lb cb hvb tA tB kA kB hsa hsb hkB hfa hfe]
    rfl
  have hdl : (cs.drop (i * 2)).length = (n - i) * 2 := by rw [List.length_drop, hcl]; omega
  have mixed : Try.prog.follows .mixedOrders = true := by kernel_rfl
  have hw1 : IntKind.i64.wrap ((i : Int) + 1) = (i : Int) + 1 := by rw [IntKind.wrap_i64]; omega
  have hb1 : (0 : Int) ≤ (i : Int) + 1 := by omega
  have hin : i ≤ n := by omega
  have htn : ((i : Int) + 1).toNat = i + 1 := by omega
  have hb2 : ¬ (c = i + 1) := by omega
  have hb3 : (i : Int) ≤ (n : Int) + 1 := by omega
  have hb4 : ¬ (c = i) := by omega
  have hcp1 : ∀ ty dc sc, (Builtin.copy_ #[30, 30] ty #[.slice (some ⟨b, off + (i + 1) * 2, none⟩) (n - i) dc, .slice (some ⟨b, off + i * 2, none⟩) (n + 1 - i) sc]).run Try.prog w.drew = .ok (goInt (n - i : Nat)) (w.drew.setCells b (off + (i + 1) * 2) (cs.drop (i * 2))) := fun ty dc sc =>
    run_copy_k w.drew 2 _ _ ty 38 b (off + (i + 1) * 2) (n - i) dc ⟨b, off + i * 2, none⟩ (n + 1 - i) sc (n - i) (cs.drop (i * 2)) t24 hsz (by simp only [Nat.min_def]; split <;> omega) hdl
      (fun j v hj => by rw [Addr.add_lit, Nat.add_assoc]; exact hcs (i * 2 + j) v (by rwa [List.getElem?_drop] at hj))
      (fun j hj => by rw [Nat.add_assoc]; exact hsp _ (by omega)) (fun j hj => hfz _) (fun v hv => h1c v (List.mem_of_mem_drop hv))
  obtain ⟨W1, hW1⟩ : ∃ W1, W1 = w.drew.setCells b (off + (i + 1) * 2) (cs.drop (i * 2)) := ⟨_, rfl⟩
  have hsp1 : ∀ k, k < (n + 1) * 2 → (W1.cell? ⟨b, off + k, none⟩).isSome = true := fun k hk => by
    rw [hW1]
    exact isSome_setCells b _ _ _ (fun j hj => by rw [Nat.add_assoc]; exact hsp _ (by omega)) _ (hsp k hk)
  have hcp2 : ∀ (W : World), (∀ x, W.cell? x = W1.cell? x) → (∀ x, W.frozen? x = W1.frozen? x) → ∀ ty dc, (Builtin.copy_ #[30, 30] ty #[.slice (some ⟨b, off + i * 2, none⟩) (n + 1 - i) dc, .slice (some ⟨vb, voff, none⟩) 1 vc]).run Try.prog W = .ok (goInt (1 : Nat)) (W.setCells b (off + i * 2) vs) := fun W hWc hWf ty dc =>
    run_copy_k W 2 _ _ ty 38 b (off + i * 2) (n + 1 - i) dc ⟨vb, voff, none⟩ 1 vc 1 vs t24 hsz (by simp only [Nat.min_def]; split <;> omega) (by omega)
      (fun j v hj => by
        rw [Addr.add_lit, hWc, hW1, World.cell?_setCells_out b _ _ _ _ (fun h _ => absurd h hvb)]
        exact hvs j v hj)
      (fun j hj => by rw [hWc, Nat.add_assoc]; exact hsp1 _ (by omega)) (fun j hj => by rw [hWf, hW1, World.frozen?_setCells]; exact hfz _) h1v
  rw [← hW1] at hcp1
  go_enter Try.func28, Try.ntmps28
  go_wp2_with (simp only [hov])
  go_region_law_o (refine step_copy_runI rfl _ _ 30 30 rfl _ _ (by simp [Act.eval, Act.put]) (by simp [Act.eval, Act.put]) (hcp1 _ _ _) ?_)
  go_wp2_with (at_builtin; refine wpList_copy_runI _ rfl _ _ 30 30 rfl _ _ rfl rfl (hcp2 _ (fun _ => rfl) (fun _ => rfl) _ _) ?_)
  go_ret
  first | exact ⟨rfl, rfl⟩ | exact ⟨rfl, by rw [hW1]⟩

set_option maxHeartbeats 4000000 in
set_option maxRecDepth 100000 in
/-- There is no room: a new row. -/
theorem ins_grow (b off n c i vb voff vc : Nat) (cs vs : List Value) (w : World) (hi : i < n) (hnc : n ≤ c) (hroom : c < n + 1) (hbig : (n + 1) * 16 ≤ 140737488355328) (hvb : vb ≠ b)
    (hcl : cs.length = n * 2) (hvl : vs.length = 2)
    (hcs : ∀ j v, cs[j]? = some v → w.cell? ⟨b, off + j, none⟩ = some v)
    (hvs : ∀ j v, vs[j]? = some v → w.cell? ⟨vb, voff + j, none⟩ = some v) (h1c : ∀ v ∈ cs, v.oneCell' = true) (h1v : ∀ v ∈ vs, v.oneCell' = true) :
    Calls Try.prog 28 #[.slice (some ⟨b, off, none⟩) n c, .int .i64 i, .slice (some ⟨vb, voff, none⟩) 1 vc] w fun e w' =>
      e = .returned (.slice (some ⟨w.heap.size, 0, none⟩) (n + 1) (grownCap w (n + 1) c 38)) ∧
      w' = (((w.alloc (.cells ((cs.take (i * 2)).toArray ++ Builtin.zeroCells #[.int .i64 0, .int .i64 0] (n + 1 - i) ++ Builtin.zeroCells #[.int .i64 0, .int .i64 0] (grownCap w (n + 1) c 38 - (n + 1))) 38)).drew.setCells w.heap.size (i * 2) vs).drew).setCells w.heap.size ((i + 1) * 2) (cs.drop (i * 2)) := by
  have t0 := Try.underlying0; have a0 := Try.isAgg0; have z0 := Try.sizeOf0; have v0 := Try.zeroValue0; have t3 := Try.underlying3; have a3 := Try.isAgg3; have z3 := Try.sizeOf3; have v3 := Try.zeroValue3
  have t4 := Try.underlying4; have a4 := Try.isAgg4; have z4 := Try.sizeOf4; have v4 := Try.zeroValue4; have t9 := Try.underlying38; have a9 := Try.isAgg38; have z9 := Try.sizeOf38; have v9 := Try.zeroValue38; have t24 := Try.underlying30; have a24 := Try.isAgg30; have z24 := Try.sizeOf30; have v24 := Try.zeroValue30
  have u0 := run_underlying t0; have u3 := run_underlying t3; have u4 := run_underlying t4; have u9 := run_underlying t9; have u24 := run_underlying t24
  have mixed : Try.prog.follows .mixedOrders = true := by kernel_rfl
  obtain ⟨i0, hi0, hz0, hzs, hzb⟩ : ∃ i0, Try.prog.info? 38 = some i0 ∧ i0.zero = some (.agg #[.int .i64 0, .int .i64 0]) ∧ i0.size = 2 ∧ i0.bytes = 16 := by
    cases h : Try.prog.info? 38 with
    | none =>
      have : (Try.prog.info? 38).isSome = true := by kernel_rfl
      rw [h] at this; cases this
    | some i0 =>
      have h2 : (Try.prog.info? 38).map (fun i => (i.zero, i.size, i.bytes)) = some (some (.agg #[.int .i64 0, .int .i64 0]), 2, 16) := by kernel_rfl
      rw [h] at h2
      simp only [Option.map_some, Option.some.injEq, Prod.mk.injEq] at h2
      exact ⟨i0, rfl, h2.1, h2.2.1, h2.2.2⟩
  have hz2 : ¬ ((i : Int) = (n : Int)) := by omega
  have hz3 : (c : Int) < (n : Int) + 1 := by omega
  have hsz : (Try.prog.info? 38).map (·.size) = some 2 := by rw [hi0]; simp [hzs]
  have hbw : b < w.heap.size := block_lt_of_cell (hcs 0 _ (List.getElem?_eq_getElem (by omega)))
  have hvw : vb < w.heap.size := block_lt_of_cell (hvs 0 _ (List.getElem?_eq_getElem (by omega)))
  have hkk : (n : Int) + 1 - (i : Int) = ((n + 1 - i : Nat) : Int) := by omega
  have hik : i + (n + 1 - i) = n + 1 := by omega
  have hold : (Builtin.firstCells i0.size i (.slice (some ⟨b, off, none⟩) i c)).run Try.prog w.drew = .ok (cs.take (i * 2)).toArray w.drew := by
    rw [hzs]
    exact run_firstCells_some w.drew 2 i ⟨b, off, none⟩ i c (cs.take (i * 2)) (by rw [List.length_take]; omega) (fun j v hj => by
      rw [Addr.add_lit]
      rw [List.getElem?_take] at hj
      split at hj
      · exact hcs j v hj
      · cases hj)
  have hrz : ∀ ty, (Builtin.append_ #[30, 3] ty #[.slice (some ⟨b, off, none⟩) i c, .int .i64 ((n : Int) + 1 - (i : Int))]).run Try.prog w =
      .ok (.slice (some ⟨w.heap.size, 0, none⟩) (n + 1) (grownCap w (n + 1) c 38)) (w.drew.alloc (.cells ((cs.take (i * 2)).toArray ++ Builtin.zeroCells #[.int .i64 0, .int .i64 0] (n + 1 - i) ++ Builtin.zeroCells #[.int .i64 0, .int .i64 0] (grownCap w (n + 1) c 38 - (n + 1))) 38)) := fun ty => by
    have h := Lib.run_append_grow_zeros w 30 3 ty 38 i0 _ .i64 .i64 t24 t3 hi0 hz0 (some ⟨b, off, none⟩) i c (cs.take (i * 2)) hold (n + 1 - i) (by omega) (by omega) (by omega) (by omega) (by rw [hzb]; omega) (by rw [hzb, hik]; exact growslice_fits hroom hbig)
    rw [hik] at h
    rw [hkk]
    exact h
  obtain ⟨G, hG⟩ : ∃ G, G = grownCap w (n + 1) c 38 := ⟨_, rfl⟩
  obtain ⟨ROW, hROW⟩ : ∃ ROW : Array Value, ROW = (cs.take (i * 2)).toArray ++ Builtin.zeroCells #[.int .i64 0, .int .i64 0] (n + 1 - i) ++ Builtin.zeroCells #[.int .i64 0, .int .i64 0] (G - (n + 1)) := ⟨_, rfl⟩
  rw [← hG] at hrz ⊢
  rw [← hROW] at hrz ⊢
  have hRl : (n + 1) * 2 ≤ ROW.size := by
    rw [hROW]
    simp [Builtin.zeroCells]
    omega
  obtain ⟨W1, hW1⟩ : ∃ W1, W1 = w.drew.alloc (.cells ROW 38) := ⟨_, rfl⟩
  rw [← hW1] at hrz
  have hN : ∀ j, j < (n + 1) * 2 → (W1.cell? ⟨w.heap.size, j, none⟩).isSome = true := fun j hj => by
    rw [hW1, World.cell?_alloc_at (w := w.drew) ROW _ w.heap.size j rfl, Array.getElem?_eq_getElem (by omega)]; rfl
  have hNf : ∀ j, W1.frozen? ⟨w.heap.size, j, none⟩ = false := fun j => by rw [hW1]; exact World.frozen?_alloc_at (w := w.drew) ROW _ w.heap.size j rfl
  have hOb : ∀ j v, w.cell? ⟨b, j, none⟩ = some v → W1.cell? ⟨b, j, none⟩ = some v := fun j v h => by rw [hW1, World.cell?_alloc_past (w := w.drew) _ b j hbw]; exact h
  have hOv : ∀ j v, w.cell? ⟨vb, j, none⟩ = some v → W1.cell? ⟨vb, j, none⟩ = some v := fun j v h => by rw [hW1, World.cell?_alloc_past (w := w.drew) _ vb j hvw]; exact h
  have hcpA : ∀ (W : World), (∀ x, W.cell? x = W1.cell? x) → (∀ x, W.frozen? x = W1.frozen? x) → ∀ ty dc, (Builtin.copy_ #[30, 30] ty #[.slice (some ⟨w.heap.size, i * 2, none⟩) (n + 1 - i) dc, .slice (some ⟨vb, voff, none⟩) 1 vc]).run Try.prog W = .ok (goInt (1 : Nat)) (W.setCells w.heap.size (i * 2) vs) := fun W hWc hWf ty dc =>
    run_copy_k W 2 _ _ ty 38 w.heap.size (i * 2) (n + 1 - i) dc ⟨vb, voff, none⟩ 1 vc 1 vs t24 hsz (by simp only [Nat.min_def]; split <;> omega) (by omega)
      (fun j v hj => by rw [Addr.add_lit, hWc]; exact hOv _ v (hvs j v hj))
      (fun j hj => by rw [hWc]; exact hN _ (by omega)) (fun j hj => by rw [hWf]; exact hNf _) h1v
  have hGn : n + 1 ≤ G := by rw [hG]; exact grownCap_ge w _ _ _
  have hG63 : G ≤ 9223372036854775807 := by
    have := grownCap_le_maxLen w (n + 1) c 38 (by unfold maxLen; omega)
    rw [← hG] at this
    unfold maxLen at this
    omega
  have hGi : ¬ (G = i) := by omega
  have hGim : ¬ (G = i + 1) := by omega
  have hci : ¬ (c = i) := by omega
  have hbN : b ≠ w.heap.size := by omega
  have hdl : (cs.drop (i * 2)).length = (n - i) * 2 := by rw [List.length_drop, hcl]; omega
  have hcpB : ∀ (W : World), (∀ x, W.cell? x = (W1.setCells w.heap.size (i * 2) vs).cell? x) → (∀ x, W.frozen? x = (W1.setCells w.heap.size (i * 2) vs).frozen? x) → ∀ ty dc sc, (Builtin.copy_ #[30, 30] ty #[.slice (some ⟨w.heap.size, (i + 1) * 2, none⟩) (n - i) dc, .slice (some ⟨b, off + i * 2, none⟩) (n - i) sc]).run Try.prog W = .ok (goInt (n - i : Nat)) (W.setCells w.heap.size ((i + 1) * 2) (cs.drop (i * 2))) := fun W hWc hWf ty dc sc =>
    run_copy_k W 2 _ _ ty 38 w.heap.size ((i + 1) * 2) (n - i) dc ⟨b, off + i * 2, none⟩ (n - i) sc (n - i) (cs.drop (i * 2)) t24 hsz (by simp) hdl
      (fun j v hj => by
        rw [Addr.add_lit, hWc, World.cell?_setCells_out _ _ _ _ _ (fun h _ => absurd h hbN), Nat.add_assoc]
        exact hOb _ v (hcs (i * 2 + j) v (by rwa [List.getElem?_drop] at hj)))
      (fun j hj => by rw [hWc]; exact isSome_setCells _ _ _ _ (fun t ht => hN _ (by omega)) _ (hN _ (by omega)))
      (fun j hj => by rw [hWf, World.frozen?_setCells]; exact hNf _) (fun v hv => h1c v (List.mem_of_mem_drop hv))
  subst hW1
  have hE1 : ∀ x, ((w.alloc (.cells ROW 38)).drew).cell? x = (w.drew.alloc (.cells ROW 38)).cell? x := fun x => rfl
  have hE2 : ∀ x, ((w.alloc (.cells ROW 38)).drew).frozen? x = (w.drew.alloc (.cells ROW 38)).frozen? x := fun x => rfl
  have hF1 : ∀ x, (((w.alloc (.cells ROW 38)).drew.setCells w.heap.size (i * 2) vs).drew).cell? x = ((w.drew.alloc (.cells ROW 38)).setCells w.heap.size (i * 2) vs).cell? x := fun x => rfl
  have hF2 : ∀ x, (((w.alloc (.cells ROW 38)).drew.setCells w.heap.size (i * 2) vs).drew).frozen? x = ((w.drew.alloc (.cells ROW 38)).setCells w.heap.size (i * 2) vs).frozen? x := fun x => rfl
  have hw1 : IntKind.i64.wrap ((i : Int) + 1) = (i : Int) + 1 := by rw [IntKind.wrap_i64]; omega
  have hb1 : (0 : Int) ≤ (i : Int) + 1 := by omega
  have hin : i ≤ n := by omega
  have htn : ((i : Int) + 1).toNat = i + 1 := by omega
  have hb3 : (i : Int) ≤ (n : Int) := by omega
  clear hkk hik hold hROW hG hRl
  go_enter Try.func28, Try.ntmps28
  go_wp2_with (first
    | (at_builtin; refine Lib.wpList_append_run _ rfl _ _ _ _ rfl _ _ rfl rfl _ _ (hrz _) ?_)
    | (at_builtin; refine wpList_copy_runI _ rfl _ _ 30 30 rfl _ _ rfl rfl (hcpA _ hE1 hE2 _ _) ?_)
    | (at_builtin; refine wpList_copy_runI _ rfl _ _ 30 30 rfl _ _ rfl rfl (hcpB _ (fun _ => rfl) (fun _ => rfl) _ _ _) ?_))
  go_region_law_o (refine step_copy_runI rfl _ _ 30 30 rfl (.slice (some ⟨w.heap.size, (i + 1) * 2, none⟩) (n - i) (G - (i + 1))) (.slice (some ⟨b, off + i * 2, none⟩) (n - i) (c - i)) (by simp [Act.eval, Act.put]) (by simp [Act.eval, Act.put]) (hcpB _ hF1 hF2 3 (G - (i + 1)) (c - i)) ?_)
  go_wp2
  go_ret
  exact ⟨rfl, rfl⟩

set_option maxHeartbeats 4000000 in
set_option maxRecDepth 100000 in
/-- Behind all: as append. -/
theorem ins_end (base : Option Addr) (n c : Nat) (xa : Option Addr) (vc : Nat) (w w2 : World) (v2 : Value) (hnc : n ≤ c) (hn : base = none → c = 0)
    (hr : (Builtin.append_ #[30, 30] 30 #[.slice base n c, .slice xa 1 vc]).run Try.prog w = .ok v2 w2) :
    Calls Try.prog 28 #[.slice base n c, .int .i64 n, .slice xa 1 vc] w fun e w' => e = .returned v2 ∧ w' = w2 := by
  have t0 := Try.underlying0; have a0 := Try.isAgg0; have z0 := Try.sizeOf0; have v0 := Try.zeroValue0; have t3 := Try.underlying3; have a3 := Try.isAgg3; have z3 := Try.sizeOf3; have v3 := Try.zeroValue3
  have t4 := Try.underlying4; have a4 := Try.isAgg4; have z4 := Try.sizeOf4; have v4 := Try.zeroValue4; have t9 := Try.underlying38; have a9 := Try.isAgg38; have z9 := Try.sizeOf38; have v9 := Try.zeroValue38; have t24 := Try.underlying30; have a24 := Try.isAgg30; have z24 := Try.sizeOf30; have v24 := Try.zeroValue30
  have u0 := run_underlying t0; have u3 := run_underlying t3; have u4 := run_underlying t4; have u9 := run_underlying t9; have u24 := run_underlying t24
  have mixed : Try.prog.follows .mixedOrders = true := by kernel_rfl
  cases base with
  | none =>
    have h0 := hn rfl
    subst h0
    obtain rfl : n = 0 := by omega
    go_enter Try.func28, Try.ntmps28
    go_wp2_with (at_builtin; refine Lib.wpList_append_run _ rfl _ _ _ _ rfl _ _ rfl rfl _ _ hr ?_)
    go_ret
    exact ⟨rfl, rfl⟩
  | some a =>
    go_enter Try.func28, Try.ntmps28
    go_wp2_with (at_builtin; refine Lib.wpList_append_run _ rfl _ _ _ _ rfl _ _ rfl rfl _ _ hr ?_)
    all_goals (go_ret; exact ⟨rfl, rfl⟩)

theorem ins_ok : Go.Am.InsOk Try.prog 28 2 16 30 38 where
  ht := Try.underlying30
  hs := by kernel_rfl
  hby := by kernel_rfl
  hz := ⟨.agg #[.int .i64 0, .int .i64 0], by kernel_rfl, by rfl⟩
  hu := by decide
  hb0 := by decide
  shift := fun b off n c i vb voff vc cs vs w h1 h2 h3 h4 h5 h6 h7 h8 h9 h10 h11 h12 tA tB kA kB h13 h14 h15 h16 h17 =>
    ins_shift b off n c i vb voff vc cs vs w h1 h2 h3 h4 h5 h6 h7 h8 h9 h10 h11 h12 tA tB kA kB h13 h14 h15 h16 h17
  grow := fun b off n c i vb voff vc cs vs w h1 h2 h3 h4 h5 h6 h7 h8 h9 h10 h11 => by
    refine (ins_grow b off n c i vb voff vc cs vs w h1 h2 h3 h4 h5 h6 h7 h8 h9 h10 h11).mono ?_
    rintro e w' ⟨rfl, rfl⟩
    have hg := grownCap_ge w (n + 1) c 38
    refine ⟨grownCap w (n + 1) c 38, _, rfl, hg, ?_, fun j hj => ?_, rfl⟩
    · simp [Builtin.zeroCells]; omega
    · have hl : j < (cs.take (i * 2)).toArray.size := by simp; omega
      rw [Array.getElem?_append_left (by simp; omega), Array.getElem?_append_left hl, List.getElem?_toArray, List.getElem?_take, if_pos hj]
  end_ := fun base n c xa vc w w2 v2 h1 h2 h3 => ins_end base n c xa vc w w2 v2 h1 h2 h3
end Go.Proofs
namespace Go.Am
open Go.Proofs
theorem X.in28_sim {G : Nat → World → Prop} (args : List Value) (m : Mem) (v : Value) (m' : Mem) (h : X.in28 args m = some (v, m')) : SimCall Try.prog G 28 args m v m' := X.insert_sim ins_ok args m v m' h
end Go.Am
