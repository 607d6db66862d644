/- Parts of the proofs of the statements of this seat: AmTabOrder, AmTieOrder, AmBlk, AmSl2, AmSl3, SpansD. No conditions. -/
import Derived.Test.YtihohfmcaaggoaaOrderChecksPart3
import Derived.Test.YtihohfmcaaggoaaRows
set_option linter.unusedVariables false
set_option linter.unusedSimpArgs false

/- The functions of the layer order in the form of the abstract machine. Printed by amgen.py. -/
set_option linter.unusedVariables false
namespace Go.Am

@[irreducible] def F.law08_OrderUnits : Nat := 3
@[irreducible] def F.law08_OrderChecks : Nat := 4
@[irreducible] def F.order_Unit : Nat := 7
@[irreducible] def F.order_Kind : Nat := 8
@[irreducible] def F.ref08_Is : Nat := 9
@[irreducible] def F.ref08_Group : Nat := 10
@[irreducible] def F.law08_awake : Nat := 11
@[irreducible] def F.order_Total : Nat := 12
@[irreducible] def F.ref08_Total : Nat := 13
@[irreducible] def F.order_Check : Nat := 14
@[irreducible] def F.ref08_Check : Nat := 15
@[irreducible] def F.ref08_Same : Nat := 19
@[irreducible] def F.order_Sort : Nat := 20
@[irreducible] def F.fixq_Add : Nat := 25
@[irreducible] def F.ref02_Add : Nat := 26
@[irreducible] def F.order_compare : Nat := 27
@[irreducible] def F.slices_Clone_api_Want_api_Want : Nat := 29
@[irreducible] def F.slices_SortFunc_api_Want_api_Want : Nat := 30
@[irreducible] def F.cmp_Or_int : Nat := 33
@[irreducible] def F.cmp_Compare_int : Nat := 34
@[irreducible] def F.slices_pdqsortCmpFunc_api_Want : Nat := 37
@[irreducible] def F.math_bits_Len : Nat := 38
@[irreducible] def F.cmp_isNaN_int : Nat := 40
@[irreducible] def F.slices_insertionSortCmpFunc_api_Want : Nat := 42
@[irreducible] def F.slices_heapSortCmpFunc_api_Want : Nat := 43
@[irreducible] def F.slices_breakPatternsCmpFunc_api_Want : Nat := 44
@[irreducible] def F.slices_choosePivotCmpFunc_api_Want : Nat := 45
@[irreducible] def F.slices_reverseRangeCmpFunc_api_Want : Nat := 46
@[irreducible] def F.slices_partialInsertionSortCmpFunc_api_Want : Nat := 47
@[irreducible] def F.slices_partitionEqualCmpFunc_api_Want : Nat := 48
@[irreducible] def F.slices_partitionCmpFunc_api_Want : Nat := 49
@[irreducible] def F.math_bits_Len32 : Nat := 50
@[irreducible] def F.math_bits_Len64 : Nat := 51
@[irreducible] def F.slices_siftDownCmpFunc_api_Want : Nat := 53
@[irreducible] def F.slices_nextPowerOfTwo : Nat := 54
@[irreducible] def F.slices_xorshift_Next : Nat := 55
@[irreducible] def F.slices_medianAdjacentCmpFunc_api_Want : Nat := 56
@[irreducible] def F.slices_medianCmpFunc_api_Want : Nat := 57
@[irreducible] def F.slices_order2CmpFunc_api_Want : Nat := 58

def RC.law08_OrderUnits : RFn := ⟨3, [.slot 6],
  (.seq (.region [⟨some 6, none, .mov (.c (.bool false))⟩]
    [0, 1, 2])
  (.seq (.region [⟨some 19, none, .mov (.t 0)⟩,
    ⟨some 20, none, .mov (.t 1)⟩,
    ⟨some 21, none, .call F.order_Unit [.t 19, .t 20]⟩,
    ⟨some 18, none, .mov (.t 21)⟩,
    ⟨some 22, none, .ext 0 (.t 18)⟩,
    ⟨some 23, none, .ext 1 (.t 18)⟩,
    ⟨some 7, none, .mov (.t 22)⟩,
    ⟨some 8, none, .mov (.t 23)⟩]
    [0, 1, 2, 7, 8])
  (.seq (.region [⟨some 24, none, .mov (.t 0)⟩,
    ⟨some 25, none, .bin .geq (.t 24) (.c (.int .i64 1))⟩,
    ⟨some 26, none, .mov (.t 25)⟩,
    ⟨some 27, some (26, true), .mov (.t 1)⟩,
    ⟨some 28, some (26, true), .mov (.t 27)⟩,
    ⟨some 29, some (28, true), .mov (.t 0)⟩,
    ⟨some 30, some (28, true), .bin .leq (.t 29) (.c (.int .i64 40))⟩,
    ⟨some 31, some (26, true), .pick (.t 28) (.t 30) (.c (.bool false))⟩,
    ⟨some 32, some (26, true), .mov (.t 31)⟩,
    ⟨some 33, some (32, false), .mov (.t 1)⟩,
    ⟨some 34, some (32, false), .un .not (.t 33)⟩,
    ⟨some 35, some (32, false), .mov (.t 34)⟩,
    ⟨some 36, some (35, true), .mov (.t 0)⟩,
    ⟨some 37, some (35, true), .bin .leq (.t 36) (.c (.int .i64 200))⟩,
    ⟨some 38, some (32, false), .pick (.t 35) (.t 37) (.c (.bool false))⟩,
    ⟨some 39, some (26, true), .pick (.t 32) (.c (.bool true)) (.t 38)⟩,
    ⟨some 40, none, .pick (.t 26) (.t 39) (.c (.bool false))⟩,
    ⟨some 9, none, .mov (.t 40)⟩]
    [0, 1, 2, 7, 8, 9])
  (.seq (.seq (.region [⟨some 41, none, .mov (.t 9)⟩,
    ⟨some 42, none, .mov (.t 8)⟩,
    ⟨some 43, none, .bin .eql (.t 42) (.c (.int .i64 0))⟩,
    ⟨some 44, none, .eq true .bool (.t 41) (.t 43)⟩,
    ⟨some 45, none, .mov (.t 44)⟩,
    ⟨some 46, some (45, false), .mov (.t 9)⟩,
    ⟨some 47, some (45, false), .un .not (.t 46)⟩,
    ⟨some 48, some (45, false), .mov (.t 47)⟩,
    ⟨some 49, some (48, true), .mov (.t 7)⟩,
    ⟨some 50, some (48, true), .bin .neq (.t 49) (.c (.int .i64 0))⟩,
    ⟨some 51, some (48, true), .mov (.t 50)⟩,
    ⟨some 52, some (51, false), .mov (.t 8)⟩,
    ⟨some 53, some (51, false), .bin .neq (.t 52) (.c (.int .i64 20))⟩,
    ⟨some 54, some (48, true), .pick (.t 51) (.c (.bool true)) (.t 53)⟩,
    ⟨some 55, some (45, false), .pick (.t 48) (.t 54) (.c (.bool false))⟩,
    ⟨some 56, none, .pick (.t 45) (.c (.bool true)) (.t 55)⟩]
    [0, 1, 2, 7, 9, 56])
  (.cond (.t 56)
    (.seq (.region [⟨some 6, none, .mov (.c (.bool false))⟩]
      [6])
    .ret)
    .skip))
  (.seq (.seq (.region [⟨some 57, none, .mov (.t 9)⟩]
    [0, 1, 2, 7, 57])
  (.cond (.t 57)
    (.seq (.region [⟨some 59, none, .mov (.t 7)⟩,
      ⟨some 60, none, .call F.order_Kind [.t 59]⟩,
      ⟨some 58, none, .mov (.t 60)⟩,
      ⟨some 61, none, .ext 0 (.t 58)⟩,
      ⟨some 62, none, .ext 1 (.t 58)⟩,
      ⟨some 63, none, .ext 2 (.t 58)⟩,
      ⟨some 10, none, .mov (.t 61)⟩,
      ⟨some 11, none, .mov (.t 62)⟩,
      ⟨some 12, none, .mov (.t 63)⟩]
      [0, 1, 2, 7, 10, 11, 12])
    (.seq (.region [⟨some 64, none, .mov (.t 10)⟩,
      ⟨some 65, none, .mov (.t 0)⟩,
      ⟨some 66, none, .bin .neq (.t 64) (.t 65)⟩,
      ⟨some 67, none, .mov (.t 66)⟩,
      ⟨some 68, some (67, false), .mov (.t 11)⟩,
      ⟨some 69, some (67, false), .mov (.t 1)⟩,
      ⟨some 70, some (67, false), .eq true .bool (.t 68) (.t 69)⟩,
      ⟨some 71, none, .pick (.t 67) (.c (.bool true)) (.t 70)⟩,
      ⟨some 72, none, .mov (.t 71)⟩,
      ⟨some 73, some (72, false), .mov (.t 12)⟩,
      ⟨some 74, some (72, false), .un .not (.t 73)⟩,
      ⟨some 75, none, .pick (.t 72) (.c (.bool true)) (.t 74)⟩,
      ⟨some 76, none, .mov (.t 75)⟩,
      ⟨some 77, some (76, false), .mov (.t 7)⟩,
      ⟨some 78, some (76, false), .call F.ref08_Is [.t 77]⟩,
      ⟨some 79, some (76, false), .un .not (.t 78)⟩,
      ⟨some 80, none, .pick (.t 76) (.c (.bool true)) (.t 79)⟩,
      ⟨some 81, none, .mov (.t 80)⟩,
      ⟨some 82, some (81, false), .mov (.t 7)⟩,
      ⟨some 83, some (81, false), .call F.ref08_Group [.t 82]⟩,
      ⟨some 84, some (81, false), .mov (.t 1)⟩,
      ⟨some 85, some (81, false), .eq true .bool (.t 83) (.t 84)⟩,
      ⟨some 86, none, .pick (.t 81) (.c (.bool true)) (.t 85)⟩]
      [2, 86])
    (.cond (.t 86)
      (.seq (.region [⟨some 6, none, .mov (.c (.bool false))⟩]
        [6])
      .ret)
      .skip)))
    .skip))
  (.seq (.region [⟨some 88, none, .mov (.t 2)⟩,
    ⟨some 89, none, .call F.order_Kind [.t 88]⟩,
    ⟨some 87, none, .mov (.t 89)⟩,
    ⟨some 90, none, .ext 0 (.t 87)⟩,
    ⟨some 91, none, .ext 1 (.t 87)⟩,
    ⟨some 92, none, .ext 2 (.t 87)⟩,
    ⟨some 13, none, .mov (.t 90)⟩,
    ⟨some 14, none, .mov (.t 91)⟩,
    ⟨some 15, none, .mov (.t 92)⟩]
    [2, 13, 14, 15])
  (.seq (.seq (.region [⟨some 93, none, .mov (.t 2)⟩,
    ⟨some 94, none, .call F.ref08_Is [.t 93]⟩,
    ⟨some 95, none, .un .not (.t 94)⟩]
    [2, 13, 14, 15, 95])
  (.cond (.t 95)
    (.seq (.region [⟨some 96, none, .mov (.t 13)⟩,
      ⟨some 97, none, .bin .eql (.t 96) (.c (.int .i64 0))⟩,
      ⟨some 98, none, .mov (.t 97)⟩,
      ⟨some 99, some (98, true), .mov (.t 14)⟩,
      ⟨some 100, some (98, true), .un .not (.t 99)⟩,
      ⟨some 101, none, .pick (.t 98) (.t 100) (.c (.bool false))⟩,
      ⟨some 102, none, .mov (.t 101)⟩,
      ⟨some 103, some (102, true), .mov (.t 15)⟩,
      ⟨some 104, some (102, true), .un .not (.t 103)⟩,
      ⟨some 105, none, .pick (.t 102) (.t 104) (.c (.bool false))⟩,
      ⟨some 106, none, .mov (.t 105)⟩,
      ⟨some 107, some (106, true), .call F.law08_awake []⟩,
      ⟨some 108, none, .pick (.t 106) (.t 107) (.c (.bool false))⟩,
      ⟨some 6, none, .mov (.t 108)⟩]
      [6])
    .ret)
    .skip))
  (.seq (.region [⟨some 110, none, .mov (.t 13)⟩,
    ⟨some 111, none, .mov (.t 14)⟩,
    ⟨some 112, none, .call F.order_Unit [.t 110, .t 111]⟩,
    ⟨some 109, none, .mov (.t 112)⟩,
    ⟨some 113, none, .ext 0 (.t 109)⟩,
    ⟨some 114, none, .ext 1 (.t 109)⟩,
    ⟨some 16, none, .mov (.t 113)⟩,
    ⟨some 17, none, .mov (.t 114)⟩]
    [2, 15, 16, 17])
  (.seq (.region [⟨some 115, none, .mov (.t 15)⟩,
    ⟨some 116, none, .mov (.t 115)⟩,
    ⟨some 117, some (116, true), .mov (.t 16)⟩,
    ⟨some 118, some (116, true), .mov (.t 2)⟩,
    ⟨some 119, some (116, true), .bin .eql (.t 117) (.t 118)⟩,
    ⟨some 120, none, .pick (.t 116) (.t 119) (.c (.bool false))⟩,
    ⟨some 121, none, .mov (.t 120)⟩,
    ⟨some 122, some (121, true), .mov (.t 17)⟩,
    ⟨some 123, some (121, true), .bin .eql (.t 122) (.c (.int .i64 0))⟩,
    ⟨some 124, none, .pick (.t 121) (.t 123) (.c (.bool false))⟩,
    ⟨some 125, none, .mov (.t 124)⟩,
    ⟨some 126, some (125, true), .call F.law08_awake []⟩,
    ⟨some 127, none, .pick (.t 125) (.t 126) (.c (.bool false))⟩,
    ⟨some 6, none, .mov (.t 127)⟩]
    [6])
  .ret)))))))))⟩

def RC.law08_OrderChecks : RFn := ⟨2, [.slot 4],
  (.seq (.region [⟨some 4, none, .mov (.c (.bool false))⟩]
    [0, 1])
  (.seq (.region [⟨some 9, none, .mov (.t 1)⟩,
    ⟨some 10, none, .mov (.t 1)⟩,
    ⟨some 11, none, .len (.t 10)⟩,
    ⟨some 12, none, .minmax false [.t 11, .c (.int .i64 100)]⟩,
    ⟨some 13, none, .sub 2 (.t 9) none (some (.t 12)) none⟩,
    ⟨some 1, none, .mov (.t 13)⟩]
    [0, 1])
  (.seq (.region [⟨some 15, none, .mov (.t 1)⟩,
    ⟨some 16, none, .call F.order_Total [.t 15]⟩,
    ⟨some 14, none, .mov (.t 16)⟩,
    ⟨some 17, none, .ext 0 (.t 14)⟩,
    ⟨some 18, none, .ext 1 (.t 14)⟩,
    ⟨some 5, none, .mov (.t 17)⟩,
    ⟨some 6, none, .mov (.t 18)⟩]
    [0, 1, 5, 6])
  (.seq (.region [⟨some 20, none, .mov (.t 1)⟩,
    ⟨some 21, none, .call F.ref08_Total [.t 20]⟩,
    ⟨some 19, none, .mov (.t 21)⟩,
    ⟨some 22, none, .ext 0 (.t 19)⟩,
    ⟨some 23, none, .ext 1 (.t 19)⟩,
    ⟨some 7, none, .mov (.t 22)⟩,
    ⟨some 8, none, .mov (.t 23)⟩]
    [0, 1, 5, 6, 7, 8])
  (.seq (.seq (.region [⟨some 24, none, .mov (.t 8)⟩,
    ⟨some 25, none, .mov (.t 6)⟩,
    ⟨some 26, none, .bin .eql (.t 25) (.c (.int .i64 0))⟩,
    ⟨some 27, none, .eq true .bool (.t 24) (.t 26)⟩,
    ⟨some 28, none, .mov (.t 27)⟩,
    ⟨some 29, some (28, false), .mov (.t 5)⟩,
    ⟨some 30, some (28, false), .mov (.t 7)⟩,
    ⟨some 31, some (28, false), .bin .neq (.t 29) (.t 30)⟩,
    ⟨some 32, none, .pick (.t 28) (.c (.bool true)) (.t 31)⟩,
    ⟨some 33, none, .mov (.t 32)⟩,
    ⟨some 34, some (33, false), .mov (.t 8)⟩,
    ⟨some 35, some (33, false), .un .not (.t 34)⟩,
    ⟨some 36, some (33, false), .mov (.t 35)⟩,
    ⟨some 37, some (36, true), .mov (.t 6)⟩,
    ⟨some 38, some (36, true), .bin .neq (.t 37) (.c (.int .i64 5))⟩,
    ⟨some 39, some (33, false), .pick (.t 36) (.t 38) (.c (.bool false))⟩,
    ⟨some 40, none, .pick (.t 33) (.c (.bool true)) (.t 39)⟩]
    [0, 1, 40])
  (.cond (.t 40)
    (.seq (.region [⟨some 4, none, .mov (.c (.bool false))⟩]
      [4])
    .ret)
    .skip))
  (.seq (.region [⟨some 41, none, .mov (.t 0)⟩,
    ⟨some 42, none, .mov (.t 1)⟩,
    ⟨some 43, none, .call F.order_Check [.t 41, .t 42]⟩,
    ⟨some 44, none, .mov (.t 0)⟩,
    ⟨some 45, none, .mov (.t 1)⟩,
    ⟨some 46, none, .call F.ref08_Check [.t 44, .t 45]⟩,
    ⟨some 47, none, .bin .eql (.t 43) (.t 46)⟩,
    ⟨some 48, none, .mov (.t 47)⟩,
    ⟨some 49, some (48, true), .call F.law08_awake []⟩,
    ⟨some 50, none, .pick (.t 48) (.t 49) (.c (.bool false))⟩,
    ⟨some 4, none, .mov (.t 50)⟩]
    [4])
  .ret))))))⟩

def RC.order_Unit : RFn := ⟨2, [.slot 4, .slot 5],
  (.seq (.region [⟨some 4, none, .mov (.c (.int .i64 0))⟩,
    ⟨some 5, none, .mov (.c (.int .i64 0))⟩]
    [0, 1])
  (.seq (.block 0
    (.seq (.region [⟨some 7, none, .mov (.t 0)⟩,
      ⟨some 8, none, .bin .lss (.t 7) (.c (.int .i64 1))⟩,
      ⟨some 9, none, .mov (.t 8)⟩,
      ⟨some 10, some (9, false), .mov (.t 1)⟩,
      ⟨some 11, some (9, false), .un .not (.t 10)⟩,
      ⟨some 12, some (9, false), .mov (.t 11)⟩,
      ⟨some 13, some (12, true), .mov (.t 0)⟩,
      ⟨some 14, some (12, true), .bin .gtr (.t 13) (.c (.int .i64 200))⟩,
      ⟨some 15, some (9, false), .pick (.t 12) (.t 14) (.c (.bool false))⟩,
      ⟨some 16, none, .pick (.t 9) (.c (.bool true)) (.t 15)⟩,
      ⟨some 17, none, .mov (.t 16)⟩,
      ⟨some 18, some (17, false), .mov (.t 1)⟩,
      ⟨some 19, some (17, false), .mov (.t 18)⟩,
      ⟨some 20, some (19, true), .mov (.t 0)⟩,
      ⟨some 21, some (19, true), .bin .gtr (.t 20) (.c (.int .i64 40))⟩,
      ⟨some 22, some (17, false), .pick (.t 19) (.t 21) (.c (.bool false))⟩,
      ⟨some 23, none, .pick (.t 17) (.c (.bool true)) (.t 22)⟩,
      ⟨some 6, none, .mov (.t 23)⟩]
      [0, 1, 6])
    (.cond (.t 6)
      (.seq (.region [⟨some 4, none, .mov (.c (.int .i64 0))⟩,
        ⟨some 5, none, .mov (.c (.int .i64 20))⟩]
        [4, 5])
      .ret)
      (.seq (.region [⟨some 25, none, .mov (.t 1)⟩,
        ⟨some 24, none, .mov (.t 25)⟩]
        [0, 24])
      (.cond (.t 24)
        (.seq (.region [⟨some 26, none, .mov (.t 0)⟩,
          ⟨some 27, none, .bin .add (.c (.int .i64 1000)) (.t 26)⟩,
          ⟨some 4, none, .mov (.t 27)⟩,
          ⟨some 5, none, .mov (.c (.int .i64 0))⟩]
          [4, 5])
        .ret)
        .skip)))) [0])
  (.seq (.region [⟨some 28, none, .mov (.t 0)⟩,
    ⟨some 4, none, .mov (.t 28)⟩,
    ⟨some 5, none, .mov (.c (.int .i64 0))⟩]
    [4, 5])
  .ret)))⟩

def RC.order_Kind : RFn := ⟨1, [.slot 2, .slot 3, .slot 4],
  (.seq (.region [⟨some 2, none, .mov (.c (.int .i64 0))⟩,
    ⟨some 3, none, .mov (.c (.bool false))⟩,
    ⟨some 4, none, .mov (.c (.bool false))⟩]
    [0])
  (.seq (.block 0
    (.seq (.region [⟨some 6, none, .mov (.t 0)⟩,
      ⟨some 7, none, .bin .geq (.t 6) (.c (.int .i64 1))⟩,
      ⟨some 8, none, .mov (.t 7)⟩,
      ⟨some 9, some (8, true), .mov (.t 0)⟩,
      ⟨some 10, some (8, true), .bin .leq (.t 9) (.c (.int .i64 200))⟩,
      ⟨some 11, none, .pick (.t 8) (.t 10) (.c (.bool false))⟩,
      ⟨some 5, none, .mov (.t 11)⟩]
      [0, 5])
    (.cond (.t 5)
      (.seq (.region [⟨some 12, none, .mov (.t 0)⟩,
        ⟨some 2, none, .mov (.t 12)⟩,
        ⟨some 3, none, .mov (.c (.bool false))⟩,
        ⟨some 4, none, .mov (.c (.bool true))⟩]
        [2, 3, 4])
      .ret)
      (.seq (.region [⟨some 14, none, .mov (.t 0)⟩,
        ⟨some 15, none, .bin .gtr (.t 14) (.c (.int .i64 1000))⟩,
        ⟨some 16, none, .mov (.t 15)⟩,
        ⟨some 17, some (16, true), .mov (.t 0)⟩,
        ⟨some 18, some (16, true), .bin .leq (.t 17) (.c (.int .i64 1040))⟩,
        ⟨some 19, none, .pick (.t 16) (.t 18) (.c (.bool false))⟩,
        ⟨some 13, none, .mov (.t 19)⟩]
        [0, 13])
      (.cond (.t 13)
        (.seq (.region [⟨some 20, none, .mov (.t 0)⟩,
          ⟨some 21, none, .bin .sub (.t 20) (.c (.int .i64 1000))⟩,
          ⟨some 2, none, .mov (.t 21)⟩,
          ⟨some 3, none, .mov (.c (.bool true))⟩,
          ⟨some 4, none, .mov (.c (.bool true))⟩]
          [2, 3, 4])
        .ret)
        .skip)))) [])
  (.seq (.region [⟨some 2, none, .mov (.c (.int .i64 0))⟩,
    ⟨some 3, none, .mov (.c (.bool false))⟩,
    ⟨some 4, none, .mov (.c (.bool false))⟩]
    [2, 3, 4])
  .ret)))⟩

def RC.ref08_Is : RFn := ⟨1, [.slot 2],
  (.seq (.region [⟨some 2, none, .mov (.c (.bool false))⟩]
    [0])
  (.seq (.region [⟨some 3, none, .mov (.t 0)⟩,
    ⟨some 4, none, .bin .geq (.t 3) (.c (.int .i64 1))⟩,
    ⟨some 5, none, .mov (.t 4)⟩,
    ⟨some 6, some (5, true), .mov (.t 0)⟩,
    ⟨some 7, some (5, true), .bin .leq (.t 6) (.c (.int .i64 200))⟩,
    ⟨some 8, none, .pick (.t 5) (.t 7) (.c (.bool false))⟩,
    ⟨some 9, none, .mov (.t 8)⟩,
    ⟨some 10, some (9, false), .mov (.t 0)⟩,
    ⟨some 11, some (9, false), .bin .geq (.t 10) (.c (.int .i64 1001))⟩,
    ⟨some 12, some (9, false), .mov (.t 11)⟩,
    ⟨some 13, some (12, true), .mov (.t 0)⟩,
    ⟨some 14, some (12, true), .bin .leq (.t 13) (.c (.int .i64 1040))⟩,
    ⟨some 15, some (9, false), .pick (.t 12) (.t 14) (.c (.bool false))⟩,
    ⟨some 16, none, .pick (.t 9) (.c (.bool true)) (.t 15)⟩,
    ⟨some 2, none, .mov (.t 16)⟩]
    [2])
  .ret))⟩

def RC.ref08_Group : RFn := ⟨1, [.slot 2],
  (.seq (.region [⟨some 2, none, .mov (.c (.bool false))⟩]
    [0])
  (.seq (.region [⟨some 3, none, .mov (.t 0)⟩,
    ⟨some 4, none, .bin .gtr (.t 3) (.c (.int .i64 1000))⟩,
    ⟨some 2, none, .mov (.t 4)⟩]
    [2])
  .ret))⟩

def RC.law08_awake : RFn := ⟨0, [.slot 0],
  (.seq (.region [⟨some 0, none, .mov (.c (.bool false))⟩]
    [])
  (.seq (.region [⟨some 7, none, .build [(.int .i64 0), (.int .i64 0)] [(0, 1, .c (.int .i64 3)), (1, 1, .c (.int .i64 2))]⟩,
    ⟨some 8, none, .build [(.int .i64 0), (.int .i64 0)] [(0, 1, .c (.int .i64 5)), (1, 1, .c (.int .i64 7))]⟩,
    ⟨some 9, none, .build [(.int .i64 0), (.int .i64 0)] [(0, 1, .c (.int .i64 1)), (1, 1, .c (.int .i64 2))]⟩,
    ⟨some 10, none, .bslice [(.int .i64 0), (.int .i64 0), (.int .i64 0), (.int .i64 0), (.int .i64 0), (.int .i64 0)] [(0, 2, .t 7), (2, 2, .t 8), (4, 2, .t 9)] 3 2⟩,
    ⟨some 11, none, .call F.order_Sort [.t 10]⟩,
    ⟨some 1, none, .mov (.t 11)⟩]
    [1])
  (.seq (.region [⟨some 13, none, .call F.order_Kind [.c (.int .i64 1007)]⟩,
    ⟨some 12, none, .mov (.t 13)⟩,
    ⟨some 14, none, .ext 0 (.t 12)⟩,
    ⟨some 15, none, .ext 1 (.t 12)⟩,
    ⟨some 16, none, .ext 2 (.t 12)⟩,
    ⟨some 2, none, .mov (.t 14)⟩,
    ⟨some 3, none, .mov (.t 15)⟩,
    ⟨some 4, none, .mov (.t 16)⟩]
    [1, 2, 3, 4])
  (.seq (.region [⟨some 18, none, .mov (.t 1)⟩,
    ⟨some 19, none, .call F.order_Total [.t 18]⟩,
    ⟨some 17, none, .mov (.t 19)⟩,
    ⟨some 20, none, .ext 0 (.t 17)⟩,
    ⟨some 21, none, .ext 1 (.t 17)⟩,
    ⟨some 5, none, .mov (.t 20)⟩,
    ⟨some 6, none, .mov (.t 21)⟩]
    [1, 2, 3, 4, 5, 6])
  (.seq (.region [⟨some 22, none, .mov (.t 1)⟩,
    ⟨some 23, none, .build [(.int .i64 0), (.int .i64 0)] [(0, 1, .c (.int .i64 5)), (1, 1, .c (.int .i64 7))]⟩,
    ⟨some 24, none, .build [(.int .i64 0), (.int .i64 0)] [(0, 1, .c (.int .i64 1)), (1, 1, .c (.int .i64 2))]⟩,
    ⟨some 25, none, .build [(.int .i64 0), (.int .i64 0)] [(0, 1, .c (.int .i64 3)), (1, 1, .c (.int .i64 2))]⟩,
    ⟨some 26, none, .bslice [(.int .i64 0), (.int .i64 0), (.int .i64 0), (.int .i64 0), (.int .i64 0), (.int .i64 0)] [(0, 2, .t 23), (2, 2, .t 24), (4, 2, .t 25)] 3 2⟩,
    ⟨some 27, none, .call F.ref08_Same [.t 22, .t 26]⟩,
    ⟨some 28, none, .mov (.t 27)⟩,
    ⟨some 29, some (28, true), .mov (.t 2)⟩,
    ⟨some 30, some (28, true), .bin .eql (.t 29) (.c (.int .i64 7))⟩,
    ⟨some 31, none, .pick (.t 28) (.t 30) (.c (.bool false))⟩,
    ⟨some 32, none, .mov (.t 31)⟩,
    ⟨some 33, some (32, true), .mov (.t 3)⟩,
    ⟨some 34, none, .pick (.t 32) (.t 33) (.c (.bool false))⟩,
    ⟨some 35, none, .mov (.t 34)⟩,
    ⟨some 36, some (35, true), .mov (.t 4)⟩,
    ⟨some 37, none, .pick (.t 35) (.t 36) (.c (.bool false))⟩,
    ⟨some 38, none, .mov (.t 37)⟩,
    ⟨some 39, some (38, true), .mov (.t 5)⟩,
    ⟨some 40, some (38, true), .bin .eql (.t 39) (.c (.int .i64 11))⟩,
    ⟨some 41, none, .pick (.t 38) (.t 40) (.c (.bool false))⟩,
    ⟨some 42, none, .mov (.t 41)⟩,
    ⟨some 43, some (42, true), .mov (.t 6)⟩,
    ⟨some 44, some (42, true), .bin .eql (.t 43) (.c (.int .i64 0))⟩,
    ⟨some 45, none, .pick (.t 42) (.t 44) (.c (.bool false))⟩,
    ⟨some 0, none, .mov (.t 45)⟩]
    [0])
  .ret)))))⟩

def RB.order_Total_1 : RCode :=
  (.seq (.region [⟨some 12, none, .bin .lss (.t 11) (.t 10)⟩]
    [4, 9, 10, 11, 12])
  (.seq (.cond (.t 12)
    .skip
    (.exit 0))
  (.seq (.block 1
    (.seq (.region [⟨some 13, none, .idxS 2 (.t 9) (.t 11)⟩,
      ⟨some 14, none, .load true 2 (.t 13)⟩,
      ⟨some 6, none, .alloc [(.int .i64 0), (.int .i64 0)]⟩,
      ⟨none, none, .store 2 (.t 6) (.t 14)⟩]
      [4, 6, 9, 10, 11])
    (.seq (.region [⟨some 16, none, .mov (.t 4)⟩,
      ⟨some 17, none, .fieldAddr 1 (.t 6)⟩,
      ⟨some 18, none, .load false 1 (.t 17)⟩,
      ⟨some 19, none, .call F.fixq_Add [.t 16, .t 18]⟩,
      ⟨some 15, none, .mov (.t 19)⟩,
      ⟨some 20, none, .ext 0 (.t 15)⟩,
      ⟨some 21, none, .ext 1 (.t 15)⟩,
      ⟨some 7, none, .mov (.t 20)⟩,
      ⟨some 8, none, .mov (.t 21)⟩]
      [7, 8, 9, 10, 11])
    (.seq (.seq (.region [⟨some 22, none, .mov (.t 8)⟩,
      ⟨some 23, none, .bin .neq (.t 22) (.c (.int .i64 0))⟩]
      [7, 8, 9, 10, 11, 23])
    (.cond (.t 23)
      (.seq (.region [⟨some 24, none, .mov (.t 8)⟩,
        ⟨some 2, none, .mov (.c (.int .i64 0))⟩,
        ⟨some 3, none, .mov (.t 24)⟩]
        [2, 3])
      .ret)
      .skip))
    (.region [⟨some 25, none, .mov (.t 7)⟩,
      ⟨some 4, none, .mov (.t 25)⟩]
      [4, 9, 10, 11])))) [4, 9, 10, 11])
  (.region [⟨some 26, none, .bin .add (.t 11) (.c (.int .i64 1))⟩,
    ⟨some 11, none, .mov (.t 26)⟩]
    [4, 9, 10, 11]))))
def RC.order_Total : RFn := ⟨1, [.slot 2, .slot 3],
  (.seq (.region [⟨some 2, none, .mov (.c (.int .i64 0))⟩,
    ⟨some 3, none, .mov (.c (.int .i64 0))⟩]
    [0])
  (.seq (.region [⟨some 4, none, .mov (.c (.int .i64 0))⟩]
    [0, 4])
  (.seq (.seq (.region [⟨some 9, none, .mov (.t 0)⟩,
    ⟨some 10, none, .len (.t 9)⟩,
    ⟨some 11, none, .mov (.c (.int .i64 0))⟩]
    [4, 9, 10, 11])
  (.block 0
    (.loop [4, 9, 10, 11] RB.order_Total_1) [4]))
  (.seq (.region [⟨some 27, none, .mov (.t 4)⟩,
    ⟨some 2, none, .mov (.t 27)⟩,
    ⟨some 3, none, .mov (.c (.int .i64 0))⟩]
    [2, 3])
  .ret))))⟩

def RB.ref08_Total_1 : RCode :=
  (.seq (.seq (.region [⟨some 8, none, .mov (.t 5)⟩,
    ⟨some 9, none, .mov (.t 0)⟩,
    ⟨some 10, none, .len (.t 9)⟩,
    ⟨some 11, none, .bin .lss (.t 8) (.t 10)⟩]
    [0, 4, 5, 11])
  (.cond (.t 11)
    .skip
    (.exit 0)))
  (.seq (.block 1
    (.seq (.region [⟨some 15, none, .mov (.t 4)⟩,
      ⟨some 16, none, .mov (.t 0)⟩,
      ⟨some 17, none, .mov (.t 5)⟩,
      ⟨some 18, none, .idxS 2 (.t 16) (.t 17)⟩,
      ⟨some 19, none, .fieldAddr 1 (.t 18)⟩,
      ⟨some 20, none, .load false 1 (.t 19)⟩,
      ⟨some 21, none, .call F.ref02_Add [.t 15, .t 20]⟩,
      ⟨some 14, none, .mov (.t 21)⟩,
      ⟨some 22, none, .ext 0 (.t 14)⟩,
      ⟨some 23, none, .ext 1 (.t 14)⟩,
      ⟨some 6, none, .mov (.t 22)⟩,
      ⟨some 7, none, .mov (.t 23)⟩]
      [0, 5, 6, 7])
    (.seq (.seq (.region [⟨some 24, none, .mov (.t 7)⟩,
      ⟨some 25, none, .un .not (.t 24)⟩]
      [0, 5, 6, 25])
    (.cond (.t 25)
      (.seq (.region [⟨some 2, none, .mov (.c (.int .i64 0))⟩,
        ⟨some 3, none, .mov (.c (.bool false))⟩]
        [2, 3])
      .ret)
      .skip))
    (.region [⟨some 26, none, .mov (.t 6)⟩,
      ⟨some 4, none, .mov (.t 26)⟩]
      [0, 4, 5]))) [0, 4, 5])
  (.region [⟨some 12, none, .mov (.t 5)⟩,
    ⟨some 13, none, .bin .add (.t 12) (.c (.int .i64 1))⟩,
    ⟨some 5, none, .mov (.t 13)⟩]
    [0, 4, 5])))
def RC.ref08_Total : RFn := ⟨1, [.slot 2, .slot 3],
  (.seq (.region [⟨some 2, none, .mov (.c (.int .i64 0))⟩,
    ⟨some 3, none, .mov (.c (.bool false))⟩]
    [0])
  (.seq (.region [⟨some 4, none, .mov (.c (.int .i64 0))⟩]
    [0, 4])
  (.seq (.seq (.region [⟨some 5, none, .mov (.c (.int .i64 0))⟩]
    [0, 4, 5])
  (.block 0
    (.loop [0, 4, 5] RB.ref08_Total_1) [4]))
  (.seq (.region [⟨some 27, none, .mov (.t 4)⟩,
    ⟨some 2, none, .mov (.t 27)⟩,
    ⟨some 3, none, .mov (.c (.bool true))⟩]
    [2, 3])
  .ret))))⟩

def RB.order_Check_1 : RCode :=
  (.seq (.region [⟨some 23, none, .bin .lss (.t 22) (.t 21)⟩]
    [0, 5, 20, 21, 22, 23])
  (.seq (.cond (.t 23)
    .skip
    (.exit 0))
  (.seq (.block 1
    (.seq (.region [⟨some 24, none, .idxS 2 (.t 20) (.t 22)⟩,
      ⟨some 25, none, .load true 2 (.t 24)⟩,
      ⟨some 7, none, .alloc [(.int .i64 0), (.int .i64 0)]⟩,
      ⟨none, none, .store 2 (.t 7) (.t 25)⟩]
      [0, 5, 7, 20, 21, 22])
    (.seq (.seq (.region [⟨some 27, none, .fieldAddr 0 (.t 7)⟩,
      ⟨some 28, none, .load false 1 (.t 27)⟩,
      ⟨some 29, none, .call F.order_Kind [.t 28]⟩,
      ⟨some 26, none, .mov (.t 29)⟩,
      ⟨some 30, none, .ext 0 (.t 26)⟩,
      ⟨some 31, none, .ext 1 (.t 26)⟩,
      ⟨some 32, none, .ext 2 (.t 26)⟩,
      ⟨some 8, none, .mov (.t 30)⟩,
      ⟨some 9, none, .mov (.t 31)⟩,
      ⟨some 10, none, .mov (.t 32)⟩]
      [0, 5, 7, 10, 20, 21, 22])
    (.seq (.region [⟨some 33, none, .mov (.t 10)⟩,
      ⟨some 34, none, .un .not (.t 33)⟩]
      [0, 5, 7, 20, 21, 22, 34])
    (.cond (.t 34)
      (.seq (.region [⟨some 4, none, .mov (.c (.int .i64 20))⟩]
        [4])
      .ret)
      .skip)))
    (.seq (.seq (.region [⟨some 35, none, .fieldAddr 1 (.t 7)⟩,
      ⟨some 36, none, .load false 1 (.t 35)⟩,
      ⟨some 37, none, .bin .lss (.t 36) (.c (.int .i64 1))⟩,
      ⟨some 38, none, .mov (.t 37)⟩,
      ⟨some 39, some (38, false), .fieldAddr 1 (.t 7)⟩,
      ⟨some 40, some (38, false), .load false 1 (.t 39)⟩,
      ⟨some 41, some (38, false), .mov (.t 0)⟩,
      ⟨some 42, some (38, false), .bin .gtr (.t 40) (.t 41)⟩,
      ⟨some 43, none, .pick (.t 38) (.c (.bool true)) (.t 42)⟩]
      [0, 5, 7, 20, 21, 22, 43])
    (.cond (.t 43)
      (.seq (.region [⟨some 4, none, .mov (.c (.int .i64 21))⟩]
        [4])
      .ret)
      .skip))
    (.seq (.seq (.region [⟨some 45, none, .mov (.t 5)⟩,
      ⟨some 46, none, .fieldAddr 0 (.t 7)⟩,
      ⟨some 47, none, .load false 1 (.t 46)⟩,
      ⟨some 48, none, .look .int (.agg #[]) true (.t 45) (.t 47)⟩,
      ⟨some 44, none, .mov (.t 48)⟩,
      ⟨some 49, none, .ext 0 (.t 44)⟩,
      ⟨some 50, none, .ext 1 (.t 44)⟩,
      ⟨some 11, none, .alloc []⟩,
      ⟨none, none, .store 0 (.t 11) (.t 49)⟩,
      ⟨some 12, none, .mov (.t 50)⟩]
      [0, 5, 7, 12, 20, 21, 22])
    (.seq (.region [⟨some 51, none, .mov (.t 12)⟩]
      [0, 5, 7, 20, 21, 22, 51])
    (.cond (.t 51)
      (.seq (.region [⟨some 4, none, .mov (.c (.int .i64 11))⟩]
        [4])
      .ret)
      .skip)))
    (.region [⟨some 52, none, .mov (.t 5)⟩,
      ⟨some 53, none, .fieldAddr 0 (.t 7)⟩,
      ⟨some 54, none, .load false 1 (.t 53)⟩,
      ⟨some 55, none, .build [] []⟩,
      ⟨none, none, .upd .int (.t 52) (.t 54) (.t 55)⟩]
      [0, 5, 20, 21, 22]))))) [0, 5, 20, 21, 22])
  (.region [⟨some 56, none, .bin .add (.t 22) (.c (.int .i64 1))⟩,
    ⟨some 22, none, .mov (.t 56)⟩]
    [0, 5, 20, 21, 22]))))
def RC.order_Check : RFn := ⟨2, [.slot 4],
  (.seq (.region [⟨some 4, none, .mov (.c (.int .i64 0))⟩]
    [0, 1])
  (.seq (.seq (.region [⟨some 13, none, .mov (.t 0)⟩,
    ⟨some 14, none, .bin .lss (.t 13) (.c (.int .i64 2))⟩,
    ⟨some 15, none, .mov (.t 14)⟩,
    ⟨some 16, some (15, false), .mov (.t 0)⟩,
    ⟨some 17, some (15, false), .bin .gtr (.t 16) (.c (.int .i64 64))⟩,
    ⟨some 18, none, .pick (.t 15) (.c (.bool true)) (.t 17)⟩]
    [0, 1, 18])
  (.cond (.t 18)
    (.seq (.region [⟨some 4, none, .mov (.c (.int .i64 1))⟩]
      [4])
    .ret)
    .skip))
  (.seq (.region [⟨some 19, none, .mkmap⟩,
    ⟨some 5, none, .mov (.t 19)⟩]
    [0, 1, 5])
  (.seq (.seq (.region [⟨some 20, none, .mov (.t 1)⟩,
    ⟨some 21, none, .len (.t 20)⟩,
    ⟨some 22, none, .mov (.c (.int .i64 0))⟩]
    [0, 5, 20, 21, 22])
  (.block 0
    (.loop [0, 5, 20, 21, 22] RB.order_Check_1) []))
  (.seq (.region [⟨some 4, none, .mov (.c (.int .i64 0))⟩]
    [4])
  .ret)))))⟩

def RB.ref08_Check_1 : RCode :=
  (.seq (.seq (.region [⟨some 41, none, .mov (.t 6)⟩,
    ⟨some 42, none, .mov (.t 5)⟩,
    ⟨some 43, none, .bin .lss (.t 41) (.t 42)⟩]
    [0, 1, 5, 6, 43])
  (.cond (.t 43)
    .skip
    (.exit 2)))
  (.seq (.block 3
    (.seq (.drawn [⟨some 46, none, .mov (.t 1)⟩,
      ⟨some 47, none, .mov (.t 6)⟩,
      ⟨some 48, none, .idxS 2 (.t 46) (.t 47)⟩,
      ⟨some 49, none, .fieldAddr 0 (.t 48)⟩,
      ⟨some 50, none, .load false 1 (.t 49)⟩,
      ⟨some 51, none, .mov (.t 1)⟩,
      ⟨some 52, none, .mov (.t 5)⟩,
      ⟨some 53, none, .idxS 2 (.t 51) (.t 52)⟩,
      ⟨some 54, none, .fieldAddr 0 (.t 53)⟩,
      ⟨some 55, none, .load false 1 (.t 54)⟩,
      ⟨some 56, none, .bin .eql (.t 50) (.t 55)⟩]
      [[], [], [0, 1], [2], [3], [], [], [5, 6], [7], [8], [4, 9]]
      [(0, []), (1, []), (2, []), (3, []), (5, []), (6, []), (7, []), (8, []), (4, []), (9, []), (10, [])]
      [[], [], [0, 1], [0, 1, 2], [0, 1, 2, 3], [], [], [5, 6], [5, 6, 7], [5, 6, 7, 8], [0, 1, 2, 3, 4, 5, 6, 7, 8, 9]]
      [0, 1, 5, 6, 56])
    (.cond (.t 56)
      (.seq (.region [⟨some 4, none, .mov (.c (.int .i64 11))⟩]
        [4])
      .ret)
      .skip)) [0, 1, 5, 6])
  (.region [⟨some 44, none, .mov (.t 6)⟩,
    ⟨some 45, none, .bin .add (.t 44) (.c (.int .i64 1))⟩,
    ⟨some 6, none, .mov (.t 45)⟩]
    [0, 1, 5, 6])))
def RB.ref08_Check_2 : RCode :=
  (.seq (.seq (.region [⟨some 13, none, .mov (.t 5)⟩,
    ⟨some 14, none, .mov (.t 1)⟩,
    ⟨some 15, none, .len (.t 14)⟩,
    ⟨some 16, none, .bin .lss (.t 13) (.t 15)⟩]
    [0, 1, 5, 16])
  (.cond (.t 16)
    .skip
    (.exit 0)))
  (.seq (.block 1
    (.seq (.seq (.region [⟨some 19, none, .mov (.t 1)⟩,
      ⟨some 20, none, .mov (.t 5)⟩,
      ⟨some 21, none, .idxS 2 (.t 19) (.t 20)⟩,
      ⟨some 22, none, .fieldAddr 0 (.t 21)⟩,
      ⟨some 23, none, .load false 1 (.t 22)⟩,
      ⟨some 24, none, .call F.ref08_Is [.t 23]⟩,
      ⟨some 25, none, .un .not (.t 24)⟩]
      [0, 1, 5, 25])
    (.cond (.t 25)
      (.seq (.region [⟨some 4, none, .mov (.c (.int .i64 20))⟩]
        [4])
      .ret)
      .skip))
    (.seq (.seq (.region [⟨some 26, none, .mov (.t 1)⟩,
      ⟨some 27, none, .mov (.t 5)⟩,
      ⟨some 28, none, .idxS 2 (.t 26) (.t 27)⟩,
      ⟨some 29, none, .fieldAddr 1 (.t 28)⟩,
      ⟨some 30, none, .load false 1 (.t 29)⟩,
      ⟨some 31, none, .bin .lss (.t 30) (.c (.int .i64 1))⟩,
      ⟨some 32, none, .mov (.t 31)⟩,
      ⟨some 33, some (32, false), .mov (.t 1)⟩,
      ⟨some 34, some (32, false), .mov (.t 5)⟩,
      ⟨some 35, some (32, false), .idxS 2 (.t 33) (.t 34)⟩,
      ⟨some 36, some (32, false), .fieldAddr 1 (.t 35)⟩,
      ⟨some 37, some (32, false), .load false 1 (.t 36)⟩,
      ⟨some 38, some (32, false), .mov (.t 0)⟩,
      ⟨some 39, some (32, false), .bin .gtr (.t 37) (.t 38)⟩,
      ⟨some 40, none, .pick (.t 32) (.c (.bool true)) (.t 39)⟩]
      [0, 1, 5, 40])
    (.cond (.t 40)
      (.seq (.region [⟨some 4, none, .mov (.c (.int .i64 21))⟩]
        [4])
      .ret)
      .skip))
    (.seq (.region [⟨some 6, none, .mov (.c (.int .i64 0))⟩]
      [0, 1, 5, 6])
    (.block 2
      (.loop [0, 1, 5, 6] RB.ref08_Check_1) [0, 1, 5])))) [0, 1, 5])
  (.region [⟨some 17, none, .mov (.t 5)⟩,
    ⟨some 18, none, .bin .add (.t 17) (.c (.int .i64 1))⟩,
    ⟨some 5, none, .mov (.t 18)⟩]
    [0, 1, 5])))
def RC.ref08_Check : RFn := ⟨2, [.slot 4],
  (.seq (.region [⟨some 4, none, .mov (.c (.int .i64 0))⟩]
    [0, 1])
  (.seq (.seq (.region [⟨some 7, none, .mov (.t 0)⟩,
    ⟨some 8, none, .bin .lss (.t 7) (.c (.int .i64 2))⟩,
    ⟨some 9, none, .mov (.t 8)⟩,
    ⟨some 10, some (9, false), .mov (.t 0)⟩,
    ⟨some 11, some (9, false), .bin .gtr (.t 10) (.c (.int .i64 64))⟩,
    ⟨some 12, none, .pick (.t 9) (.c (.bool true)) (.t 11)⟩]
    [0, 1, 12])
  (.cond (.t 12)
    (.seq (.region [⟨some 4, none, .mov (.c (.int .i64 1))⟩]
      [4])
    .ret)
    .skip))
  (.seq (.seq (.region [⟨some 5, none, .mov (.c (.int .i64 0))⟩]
    [0, 1, 5])
  (.block 0
    (.loop [0, 1, 5] RB.ref08_Check_2) []))
  (.seq (.region [⟨some 4, none, .mov (.c (.int .i64 0))⟩]
    [4])
  .ret))))⟩

def RB.ref08_Same_1 : RCode :=
  (.seq (.seq (.region [⟨some 11, none, .mov (.t 5)⟩,
    ⟨some 12, none, .mov (.t 0)⟩,
    ⟨some 13, none, .len (.t 12)⟩,
    ⟨some 14, none, .bin .lss (.t 11) (.t 13)⟩]
    [0, 1, 5, 14])
  (.cond (.t 14)
    .skip
    (.exit 0)))
  (.seq (.block 1
    (.seq (.drawn [⟨some 17, none, .mov (.t 0)⟩,
      ⟨some 18, none, .mov (.t 5)⟩,
      ⟨some 19, none, .idxS 2 (.t 17) (.t 18)⟩,
      ⟨some 20, none, .load true 2 (.t 19)⟩,
      ⟨some 21, none, .mov (.t 1)⟩,
      ⟨some 22, none, .mov (.t 5)⟩,
      ⟨some 23, none, .idxS 2 (.t 21) (.t 22)⟩,
      ⟨some 24, none, .load true 2 (.t 23)⟩,
      ⟨some 25, none, .eq true (.flat [.int, .int]) (.t 20) (.t 24)⟩]
      [[], [], [0, 1], [2], [], [], [4, 5], [6], [3, 7]]
      [(0, []), (1, []), (2, []), (4, []), (5, []), (6, []), (3, []), (7, []), (8, [])]
      [[], [], [0, 1], [0, 1, 2], [], [], [4, 5], [4, 5, 6], [0, 1, 2, 3, 4, 5, 6, 7]]
      [0, 1, 5, 25])
    (.cond (.t 25)
      (.seq (.region [⟨some 4, none, .mov (.c (.bool false))⟩]
        [4])
      .ret)
      .skip)) [0, 1, 5])
  (.region [⟨some 15, none, .mov (.t 5)⟩,
    ⟨some 16, none, .bin .add (.t 15) (.c (.int .i64 1))⟩,
    ⟨some 5, none, .mov (.t 16)⟩]
    [0, 1, 5])))
def RC.ref08_Same : RFn := ⟨2, [.slot 4],
  (.seq (.region [⟨some 4, none, .mov (.c (.bool false))⟩]
    [0, 1])
  (.seq (.seq (.region [⟨some 6, none, .mov (.t 0)⟩,
    ⟨some 7, none, .len (.t 6)⟩,
    ⟨some 8, none, .mov (.t 1)⟩,
    ⟨some 9, none, .len (.t 8)⟩,
    ⟨some 10, none, .bin .neq (.t 7) (.t 9)⟩]
    [0, 1, 10])
  (.cond (.t 10)
    (.seq (.region [⟨some 4, none, .mov (.c (.bool false))⟩]
      [4])
    .ret)
    .skip))
  (.seq (.seq (.region [⟨some 5, none, .mov (.c (.int .i64 0))⟩]
    [0, 1, 5])
  (.block 0
    (.loop [0, 1, 5] RB.ref08_Same_1) []))
  (.seq (.region [⟨some 4, none, .mov (.c (.bool true))⟩]
    [4])
  .ret))))⟩

def RC.order_Sort : RFn := ⟨1, [.slot 2],
  (.seq (.region [⟨some 2, none, .mov (.c (.slice none 0 0))⟩]
    [0])
  (.seq (.region [⟨some 4, none, .mov (.t 0)⟩,
    ⟨some 5, none, .call F.slices_Clone_api_Want_api_Want [.t 4]⟩,
    ⟨some 3, none, .mov (.t 5)⟩]
    [3])
  (.seq (.region [⟨some 6, none, .mov (.t 3)⟩,
    ⟨some 7, none, .call F.slices_SortFunc_api_Want_api_Want [.t 6, .f F.order_compare]⟩]
    [3])
  (.seq (.region [⟨some 8, none, .mov (.t 3)⟩,
    ⟨some 2, none, .mov (.t 8)⟩]
    [2])
  .ret))))⟩

def RC.fixq_Add : RFn := ⟨2, [.slot 4, .slot 5],
  (.seq (.region [⟨some 4, none, .mov (.c (.int .i64 0))⟩,
    ⟨some 5, none, .mov (.c (.int .i64 0))⟩]
    [0, 1])
  (.seq (.region [⟨some 7, none, .mov (.t 0)⟩,
    ⟨some 8, none, .mov (.t 1)⟩,
    ⟨some 9, none, .bin .add (.t 7) (.t 8)⟩,
    ⟨some 6, none, .mov (.t 9)⟩]
    [0, 1, 6])
  (.seq (.seq (.region [⟨some 10, none, .mov (.t 0)⟩,
    ⟨some 11, none, .bin .geq (.t 10) (.c (.int .i64 0))⟩,
    ⟨some 12, none, .mov (.t 1)⟩,
    ⟨some 13, none, .bin .geq (.t 12) (.c (.int .i64 0))⟩,
    ⟨some 14, none, .eq false .bool (.t 11) (.t 13)⟩,
    ⟨some 15, none, .mov (.t 14)⟩,
    ⟨some 16, some (15, true), .mov (.t 6)⟩,
    ⟨some 17, some (15, true), .bin .geq (.t 16) (.c (.int .i64 0))⟩,
    ⟨some 18, some (15, true), .mov (.t 0)⟩,
    ⟨some 19, some (15, true), .bin .geq (.t 18) (.c (.int .i64 0))⟩,
    ⟨some 20, some (15, true), .eq true .bool (.t 17) (.t 19)⟩,
    ⟨some 21, none, .pick (.t 15) (.t 20) (.c (.bool false))⟩]
    [6, 21])
  (.cond (.t 21)
    (.seq (.region [⟨some 4, none, .mov (.c (.int .i64 0))⟩,
      ⟨some 5, none, .mov (.c (.int .i64 5))⟩]
      [4, 5])
    .ret)
    .skip))
  (.seq (.region [⟨some 22, none, .mov (.t 6)⟩,
    ⟨some 4, none, .mov (.t 22)⟩,
    ⟨some 5, none, .mov (.c (.int .i64 0))⟩]
    [4, 5])
  .ret))))⟩

def RC.ref02_Add : RFn := ⟨2, [.slot 4, .slot 5],
  (.seq (.region [⟨some 4, none, .mov (.c (.int .i64 0))⟩,
    ⟨some 5, none, .mov (.c (.bool false))⟩]
    [0, 1])
  (.seq (.seq (.region [⟨some 6, none, .mov (.t 1)⟩,
    ⟨some 7, none, .bin .gtr (.t 6) (.c (.int .i64 0))⟩,
    ⟨some 8, none, .mov (.t 7)⟩,
    ⟨some 9, some (8, true), .mov (.t 0)⟩,
    ⟨some 10, some (8, true), .mov (.t 1)⟩,
    ⟨some 11, some (8, true), .bin .sub (.c (.int .i64 9223372036854775807)) (.t 10)⟩,
    ⟨some 12, some (8, true), .bin .gtr (.t 9) (.t 11)⟩,
    ⟨some 13, none, .pick (.t 8) (.t 12) (.c (.bool false))⟩,
    ⟨some 14, none, .mov (.t 13)⟩,
    ⟨some 15, some (14, false), .mov (.t 1)⟩,
    ⟨some 16, some (14, false), .bin .lss (.t 15) (.c (.int .i64 0))⟩,
    ⟨some 17, some (14, false), .mov (.t 16)⟩,
    ⟨some 18, some (17, true), .mov (.t 0)⟩,
    ⟨some 19, some (17, true), .mov (.t 1)⟩,
    ⟨some 20, some (17, true), .bin .sub (.c (.int .i64 (-9223372036854775808))) (.t 19)⟩,
    ⟨some 21, some (17, true), .bin .lss (.t 18) (.t 20)⟩,
    ⟨some 22, some (14, false), .pick (.t 17) (.t 21) (.c (.bool false))⟩,
    ⟨some 23, none, .pick (.t 14) (.c (.bool true)) (.t 22)⟩]
    [0, 1, 23])
  (.cond (.t 23)
    (.seq (.region [⟨some 4, none, .mov (.c (.int .i64 0))⟩,
      ⟨some 5, none, .mov (.c (.bool false))⟩]
      [4, 5])
    .ret)
    .skip))
  (.seq (.region [⟨some 24, none, .mov (.t 0)⟩,
    ⟨some 25, none, .mov (.t 1)⟩,
    ⟨some 26, none, .bin .add (.t 24) (.t 25)⟩,
    ⟨some 4, none, .mov (.t 26)⟩,
    ⟨some 5, none, .mov (.c (.bool true))⟩]
    [4, 5])
  .ret)))⟩

def RC.order_compare : RFn := ⟨2, [.slot 4],
  (.seq (.region [⟨some 2, none, .box (.t 0)⟩,
    ⟨some 3, none, .box (.t 1)⟩,
    ⟨some 4, none, .mov (.c (.int .i64 0))⟩]
    [2, 3])
  (.seq (.drawn [⟨some 5, none, .fieldAddr 1 (.t 3)⟩,
    ⟨some 6, none, .load false 1 (.t 5)⟩,
    ⟨some 7, none, .fieldAddr 1 (.t 2)⟩,
    ⟨some 8, none, .load false 1 (.t 7)⟩,
    ⟨some 9, none, .call F.cmp_Compare_int [.t 6, .t 8]⟩,
    ⟨some 10, none, .fieldAddr 0 (.t 2)⟩,
    ⟨some 11, none, .load false 1 (.t 10)⟩,
    ⟨some 12, none, .fieldAddr 0 (.t 3)⟩,
    ⟨some 13, none, .load false 1 (.t 12)⟩,
    ⟨some 14, none, .call F.cmp_Compare_int [.t 11, .t 13]⟩,
    ⟨some 15, none, .bslice [(.int .i64 0), (.int .i64 0)] [(0, 1, .t 9), (1, 1, .t 14)] 2 1⟩,
    ⟨some 16, none, .call F.cmp_Or_int [.t 15]⟩,
    ⟨some 4, none, .mov (.t 16)⟩]
    [[], [0], [], [2], [1, 3], [], [5], [], [7], [6, 8, 4], [4, 9], [10, 9], [11, 11, 0, 1, 2, 3, 4, 5, 6, 7, 8, 9, 10, 11]]
    [(0, []), (2, []), (5, []), (7, []), (1, []), (3, []), (6, []), (8, []), (4, [10, 12]), (9, []), (10, []), (11, []), (12, [])]
    [[], [0], [], [2], [0, 1, 2, 3], [], [5], [], [7], [0, 1, 2, 3, 4, 5, 6, 7, 8], [0, 1, 2, 3, 4, 5, 6, 7, 8, 9], [0, 1, 2, 3, 4, 5, 6, 7, 8, 9, 10], [0, 1, 2, 3, 4, 5, 6, 7, 8, 9, 10, 11]]
    [4])
  .ret))⟩

def RC.slices_Clone_api_Want_api_Want : RFn := ⟨1, [.slot 2],
  (.seq (.region [⟨some 2, none, .mov (.c (.slice none 0 0))⟩]
    [0])
  (.seq (.seq (.region [⟨some 3, none, .mov (.t 0)⟩,
    ⟨some 4, none, .eq false .slice (.t 3) (.c (.slice none 0 0))⟩]
    [0, 4])
  (.cond (.t 4)
    (.seq (.region [⟨some 2, none, .mov (.c (.slice none 0 0))⟩]
      [2])
    .ret)
    .skip))
  (.seq (.region [⟨some 5, none, .bslice [] [] 0 2⟩,
    ⟨some 6, none, .mov (.t 0)⟩,
    ⟨some 7, none, .app 2 16 (.t 5) (.t 6)⟩,
    ⟨some 2, none, .mov (.t 7)⟩]
    [2])
  .ret)))⟩

def RC.slices_SortFunc_api_Want_api_Want : RFn := ⟨2, [],
  (.seq (.region [⟨some 5, none, .mov (.t 0)⟩,
    ⟨some 6, none, .len (.t 5)⟩,
    ⟨some 4, none, .mov (.t 6)⟩]
    [0, 1, 4])
  (.region [⟨some 7, none, .mov (.t 0)⟩,
    ⟨some 8, none, .mov (.t 4)⟩,
    ⟨some 9, none, .mov (.t 4)⟩,
    ⟨some 10, none, .conv .u64 (.t 9)⟩,
    ⟨some 11, none, .call F.math_bits_Len [.t 10]⟩,
    ⟨some 12, none, .mov (.t 1)⟩,
    ⟨some 13, none, .call F.slices_pdqsortCmpFunc_api_Want [.t 7, .c (.int .i64 0), .t 8, .t 11, .t 12]⟩]
    []))⟩

def RB.cmp_Or_int_1 : RCode :=
  (.seq (.region [⟨some 9, none, .bin .lss (.t 8) (.t 7)⟩]
    [3, 6, 7, 8, 9])
  (.seq (.cond (.t 9)
    .skip
    (.exit 0))
  (.seq (.block 1
    (.seq (.region [⟨some 10, none, .idxS 1 (.t 6) (.t 8)⟩,
      ⟨some 11, none, .load false 1 (.t 10)⟩,
      ⟨some 5, none, .mov (.t 11)⟩]
      [3, 5, 6, 7, 8])
    (.seq (.region [⟨some 12, none, .mov (.t 5)⟩,
      ⟨some 13, none, .mov (.t 3)⟩,
      ⟨some 14, none, .bin .neq (.t 12) (.t 13)⟩]
      [3, 5, 6, 7, 8, 14])
    (.cond (.t 14)
      (.seq (.region [⟨some 15, none, .mov (.t 5)⟩,
        ⟨some 2, none, .mov (.t 15)⟩]
        [2])
      .ret)
      .skip))) [3, 6, 7, 8])
  (.region [⟨some 16, none, .bin .add (.t 8) (.c (.int .i64 1))⟩,
    ⟨some 8, none, .mov (.t 16)⟩]
    [3, 6, 7, 8]))))
def RC.cmp_Or_int : RFn := ⟨1, [.slot 2],
  (.seq (.region [⟨some 2, none, .mov (.c (.int .i64 0))⟩]
    [0])
  (.seq (.region [⟨some 3, none, .mov (.c (.int .i64 0))⟩]
    [0, 3])
  (.seq (.seq (.region [⟨some 6, none, .mov (.t 0)⟩,
    ⟨some 7, none, .len (.t 6)⟩,
    ⟨some 8, none, .mov (.c (.int .i64 0))⟩]
    [3, 6, 7, 8])
  (.block 0
    (.loop [3, 6, 7, 8] RB.cmp_Or_int_1) [3]))
  (.seq (.region [⟨some 17, none, .mov (.t 3)⟩,
    ⟨some 2, none, .mov (.t 17)⟩]
    [2])
  .ret))))⟩

def RC.cmp_Compare_int : RFn := ⟨2, [.slot 4],
  (.seq (.region [⟨some 4, none, .mov (.c (.int .i64 0))⟩]
    [0, 1])
  (.seq (.region [⟨some 7, none, .mov (.t 0)⟩,
    ⟨some 8, none, .call F.cmp_isNaN_int [.t 7]⟩,
    ⟨some 5, none, .mov (.t 8)⟩]
    [0, 1, 5])
  (.seq (.region [⟨some 9, none, .mov (.t 1)⟩,
    ⟨some 10, none, .call F.cmp_isNaN_int [.t 9]⟩,
    ⟨some 6, none, .mov (.t 10)⟩]
    [0, 1, 5, 6])
  (.seq (.seq (.region [⟨some 11, none, .mov (.t 5)⟩]
    [0, 1, 6, 11])
  (.cond (.t 11)
    (.seq (.seq (.region [⟨some 12, none, .mov (.t 6)⟩]
      [12])
    (.cond (.t 12)
      (.seq (.region [⟨some 4, none, .mov (.c (.int .i64 0))⟩]
        [4])
      .ret)
      .skip))
    (.seq (.region [⟨some 4, none, .mov (.c (.int .i64 (-1)))⟩]
      [4])
    .ret))
    .skip))
  (.seq (.seq (.region [⟨some 13, none, .mov (.t 6)⟩]
    [0, 1, 13])
  (.cond (.t 13)
    (.seq (.region [⟨some 4, none, .mov (.c (.int .i64 1))⟩]
      [4])
    .ret)
    .skip))
  (.seq (.seq (.region [⟨some 14, none, .mov (.t 0)⟩,
    ⟨some 15, none, .mov (.t 1)⟩,
    ⟨some 16, none, .bin .lss (.t 14) (.t 15)⟩]
    [0, 1, 16])
  (.cond (.t 16)
    (.seq (.region [⟨some 4, none, .mov (.c (.int .i64 (-1)))⟩]
      [4])
    .ret)
    .skip))
  (.seq (.seq (.region [⟨some 17, none, .mov (.t 0)⟩,
    ⟨some 18, none, .mov (.t 1)⟩,
    ⟨some 19, none, .bin .gtr (.t 17) (.t 18)⟩]
    [19])
  (.cond (.t 19)
    (.seq (.region [⟨some 4, none, .mov (.c (.int .i64 1))⟩]
      [4])
    .ret)
    .skip))
  (.seq (.region [⟨some 4, none, .mov (.c (.int .i64 0))⟩]
    [4])
  .ret))))))))⟩

def RB.slices_pdqsortCmpFunc_api_Want_1 : RCode :=
  (.block 1
    (.seq (.region [⟨some 21, none, .mov (.t 2)⟩,
      ⟨some 22, none, .mov (.t 1)⟩,
      ⟨some 23, none, .bin .sub (.t 21) (.t 22)⟩,
      ⟨some 12, none, .mov (.t 23)⟩]
      [0, 1, 2, 3, 4, 10, 11, 12])
    (.seq (.seq (.region [⟨some 24, none, .mov (.t 12)⟩,
      ⟨some 25, none, .bin .leq (.t 24) (.c (.int .i64 12))⟩]
      [0, 1, 2, 3, 4, 10, 11, 12, 25])
    (.cond (.t 25)
      (.seq (.region [⟨some 26, none, .mov (.t 0)⟩,
        ⟨some 27, none, .mov (.t 1)⟩,
        ⟨some 28, none, .mov (.t 2)⟩,
        ⟨some 29, none, .mov (.t 4)⟩,
        ⟨some 30, none, .call F.slices_insertionSortCmpFunc_api_Want [.t 26, .t 27, .t 28, .t 29]⟩]
        [])
      .ret)
      .skip))
    (.seq (.seq (.region [⟨some 31, none, .mov (.t 3)⟩,
      ⟨some 32, none, .bin .eql (.t 31) (.c (.int .i64 0))⟩]
      [0, 1, 2, 3, 4, 10, 11, 12, 32])
    (.cond (.t 32)
      (.seq (.region [⟨some 33, none, .mov (.t 0)⟩,
        ⟨some 34, none, .mov (.t 1)⟩,
        ⟨some 35, none, .mov (.t 2)⟩,
        ⟨some 36, none, .mov (.t 4)⟩,
        ⟨some 37, none, .call F.slices_heapSortCmpFunc_api_Want [.t 33, .t 34, .t 35, .t 36]⟩]
        [])
      .ret)
      .skip))
    (.seq (.seq (.region [⟨some 38, none, .mov (.t 10)⟩,
      ⟨some 39, none, .un .not (.t 38)⟩]
      [0, 1, 2, 3, 4, 10, 11, 12, 39])
    (.cond (.t 39)
      (.seq (.region [⟨some 40, none, .mov (.t 0)⟩,
        ⟨some 41, none, .mov (.t 1)⟩,
        ⟨some 42, none, .mov (.t 2)⟩,
        ⟨some 43, none, .mov (.t 4)⟩,
        ⟨some 44, none, .call F.slices_breakPatternsCmpFunc_api_Want [.t 40, .t 41, .t 42, .t 43]⟩]
        [0, 1, 2, 3, 4, 10, 11, 12])
      (.region [⟨some 45, none, .mov (.t 3)⟩,
        ⟨some 46, none, .bin .sub (.t 45) (.c (.int .i64 1))⟩,
        ⟨some 3, none, .mov (.t 46)⟩]
        [0, 1, 2, 3, 4, 10, 11, 12]))
      .skip))
    (.seq (.region [⟨some 48, none, .mov (.t 0)⟩,
      ⟨some 49, none, .mov (.t 1)⟩,
      ⟨some 50, none, .mov (.t 2)⟩,
      ⟨some 51, none, .mov (.t 4)⟩,
      ⟨some 52, none, .call F.slices_choosePivotCmpFunc_api_Want [.t 48, .t 49, .t 50, .t 51]⟩,
      ⟨some 47, none, .mov (.t 52)⟩,
      ⟨some 53, none, .ext 0 (.t 47)⟩,
      ⟨some 54, none, .ext 1 (.t 47)⟩,
      ⟨some 13, none, .mov (.t 53)⟩,
      ⟨some 14, none, .mov (.t 54)⟩]
      [0, 1, 2, 3, 4, 10, 11, 12, 13, 14])
    (.seq (.seq (.region [⟨some 55, none, .mov (.t 14)⟩,
      ⟨some 56, none, .bin .eql (.t 55) (.c (.int .i64 2))⟩]
      [0, 1, 2, 3, 4, 10, 11, 12, 13, 14, 56])
    (.cond (.t 56)
      (.seq (.region [⟨some 57, none, .mov (.t 0)⟩,
        ⟨some 58, none, .mov (.t 1)⟩,
        ⟨some 59, none, .mov (.t 2)⟩,
        ⟨some 60, none, .mov (.t 4)⟩,
        ⟨some 61, none, .call F.slices_reverseRangeCmpFunc_api_Want [.t 57, .t 58, .t 59, .t 60]⟩]
        [0, 1, 2, 3, 4, 10, 11, 12, 13])
      (.seq (.region [⟨some 62, none, .mov (.t 2)⟩,
        ⟨some 63, none, .bin .sub (.t 62) (.c (.int .i64 1))⟩,
        ⟨some 64, none, .mov (.t 13)⟩,
        ⟨some 65, none, .mov (.t 1)⟩,
        ⟨some 66, none, .bin .sub (.t 64) (.t 65)⟩,
        ⟨some 67, none, .bin .sub (.t 63) (.t 66)⟩,
        ⟨some 13, none, .mov (.t 67)⟩]
        [0, 1, 2, 3, 4, 10, 11, 12, 13])
      (.region [⟨some 14, none, .mov (.c (.int .i64 1))⟩]
        [0, 1, 2, 3, 4, 10, 11, 12, 13, 14])))
      .skip))
    (.seq (.seq (.region [⟨some 68, none, .mov (.t 10)⟩,
      ⟨some 69, none, .mov (.t 68)⟩,
      ⟨some 70, some (69, true), .mov (.t 11)⟩,
      ⟨some 71, none, .pick (.t 69) (.t 70) (.c (.bool false))⟩,
      ⟨some 72, none, .mov (.t 71)⟩,
      ⟨some 73, some (72, true), .mov (.t 14)⟩,
      ⟨some 74, some (72, true), .bin .eql (.t 73) (.c (.int .i64 1))⟩,
      ⟨some 75, none, .pick (.t 72) (.t 74) (.c (.bool false))⟩]
      [0, 1, 2, 3, 4, 10, 11, 12, 13, 75])
    (.cond (.t 75)
      (.seq (.region [⟨some 76, none, .mov (.t 0)⟩,
        ⟨some 77, none, .mov (.t 1)⟩,
        ⟨some 78, none, .mov (.t 2)⟩,
        ⟨some 79, none, .mov (.t 4)⟩,
        ⟨some 80, none, .call F.slices_partialInsertionSortCmpFunc_api_Want [.t 76, .t 77, .t 78, .t 79]⟩]
        [0, 1, 2, 3, 4, 10, 11, 12, 13, 80])
      (.cond (.t 80)
        .ret
        .skip))
      .skip))
    (.seq (.seq (.drawn [⟨some 81, none, .mov (.t 1)⟩,
      ⟨some 82, none, .bin .gtr (.t 81) (.c (.int .i64 0))⟩,
      ⟨some 83, none, .mov (.t 82)⟩,
      ⟨some 84, some (83, true), .mov (.t 4)⟩,
      ⟨some 85, some (83, true), .mov (.t 0)⟩,
      ⟨some 86, some (83, true), .mov (.t 1)⟩,
      ⟨some 87, some (83, true), .bin .sub (.t 86) (.c (.int .i64 1))⟩,
      ⟨some 88, some (83, true), .idxS 2 (.t 85) (.t 87)⟩,
      ⟨some 89, some (83, true), .load true 2 (.t 88)⟩,
      ⟨some 90, some (83, true), .mov (.t 0)⟩,
      ⟨some 91, some (83, true), .mov (.t 13)⟩,
      ⟨some 92, some (83, true), .idxS 2 (.t 90) (.t 91)⟩,
      ⟨some 93, some (83, true), .load true 2 (.t 92)⟩,
      ⟨some 94, some (83, true), .callv (.t 84) [.t 89, .t 93]⟩,
      ⟨some 95, some (83, true), .bin .lss (.t 94) (.c (.int .i64 0))⟩,
      ⟨some 96, some (83, true), .un .not (.t 95)⟩,
      ⟨some 97, none, .pick (.t 83) (.t 96) (.c (.bool false))⟩]
      [[], [0], [1], [2], [2], [2], [5, 2], [4, 6, 2], [7, 2], [2], [2], [9, 10, 2], [11, 2], [3, 8, 12, 2, 2], [13, 2], [14, 2], [2, 15]]
      [(0, []), (1, []), (2, []), (3, []), (4, []), (5, []), (6, []), (7, []), (9, []), (10, []), (11, []), (8, []), (12, []), (13, []), (14, []), (15, []), (16, [])]
      [[], [0], [0, 1], [0, 1, 2], [0, 1, 2], [0, 1, 2], [0, 1, 2, 5], [0, 1, 2, 4, 5, 6], [0, 1, 2, 4, 5, 6, 7], [0, 1, 2], [0, 1, 2], [0, 1, 2, 9, 10], [0, 1, 2, 9, 10, 11], [0, 1, 2, 3, 4, 5, 6, 7, 8, 9, 10, 11, 12], [0, 1, 2, 3, 4, 5, 6, 7, 8, 9, 10, 11, 12, 13], [0, 1, 2, 3, 4, 5, 6, 7, 8, 9, 10, 11, 12, 13, 14], [0, 1, 2, 3, 4, 5, 6, 7, 8, 9, 10, 11, 12, 13, 14, 15]]
      [0, 1, 2, 3, 4, 10, 11, 12, 13, 97])
    (.cond (.t 97)
      (.seq (.region [⟨some 98, none, .mov (.t 0)⟩,
        ⟨some 99, none, .mov (.t 1)⟩,
        ⟨some 100, none, .mov (.t 2)⟩,
        ⟨some 101, none, .mov (.t 13)⟩,
        ⟨some 102, none, .mov (.t 4)⟩,
        ⟨some 103, none, .call F.slices_partitionEqualCmpFunc_api_Want [.t 98, .t 99, .t 100, .t 101, .t 102]⟩,
        ⟨some 15, none, .mov (.t 103)⟩]
        [0, 2, 3, 4, 10, 11, 15])
      (.seq (.region [⟨some 104, none, .mov (.t 15)⟩,
        ⟨some 1, none, .mov (.t 104)⟩]
        [0, 1, 2, 3, 4, 10, 11])
      (.exit 1)))
      .skip))
    (.seq (.region [⟨some 106, none, .mov (.t 0)⟩,
      ⟨some 107, none, .mov (.t 1)⟩,
      ⟨some 108, none, .mov (.t 2)⟩,
      ⟨some 109, none, .mov (.t 13)⟩,
      ⟨some 110, none, .mov (.t 4)⟩,
      ⟨some 111, none, .call F.slices_partitionCmpFunc_api_Want [.t 106, .t 107, .t 108, .t 109, .t 110]⟩,
      ⟨some 105, none, .mov (.t 111)⟩,
      ⟨some 112, none, .ext 0 (.t 105)⟩,
      ⟨some 113, none, .ext 1 (.t 105)⟩,
      ⟨some 16, none, .mov (.t 112)⟩,
      ⟨some 17, none, .mov (.t 113)⟩]
      [0, 1, 2, 3, 4, 12, 16, 17])
    (.seq (.region [⟨some 114, none, .mov (.t 17)⟩,
      ⟨some 11, none, .mov (.t 114)⟩]
      [0, 1, 2, 3, 4, 11, 12, 16])
    (.seq (.region [⟨some 115, none, .mov (.t 16)⟩,
      ⟨some 116, none, .mov (.t 1)⟩,
      ⟨some 117, none, .bin .sub (.t 115) (.t 116)⟩,
      ⟨some 118, none, .mov (.t 2)⟩,
      ⟨some 119, none, .mov (.t 16)⟩,
      ⟨some 120, none, .bin .sub (.t 118) (.t 119)⟩,
      ⟨some 18, none, .mov (.t 117)⟩,
      ⟨some 19, none, .mov (.t 120)⟩]
      [0, 1, 2, 3, 4, 11, 12, 16, 18, 19])
    (.seq (.region [⟨some 121, none, .mov (.t 12)⟩,
      ⟨some 122, none, .bin .quo (.t 121) (.c (.int .i64 8))⟩,
      ⟨some 20, none, .mov (.t 122)⟩]
      [0, 1, 2, 3, 4, 11, 16, 18, 19, 20])
    (.seq (.region [⟨some 123, none, .mov (.t 18)⟩,
      ⟨some 124, none, .mov (.t 19)⟩,
      ⟨some 125, none, .bin .lss (.t 123) (.t 124)⟩]
      [0, 1, 2, 3, 4, 11, 16, 18, 19, 20, 125])
    (.cond (.t 125)
      (.seq (.region [⟨some 126, none, .mov (.t 18)⟩,
        ⟨some 127, none, .mov (.t 20)⟩,
        ⟨some 128, none, .bin .geq (.t 126) (.t 127)⟩,
        ⟨some 10, none, .mov (.t 128)⟩]
        [0, 1, 2, 3, 4, 10, 11, 16])
      (.seq (.region [⟨some 129, none, .mov (.t 0)⟩,
        ⟨some 130, none, .mov (.t 1)⟩,
        ⟨some 131, none, .mov (.t 16)⟩,
        ⟨some 132, none, .mov (.t 3)⟩,
        ⟨some 133, none, .mov (.t 4)⟩,
        ⟨some 134, none, .call F.slices_pdqsortCmpFunc_api_Want [.t 129, .t 130, .t 131, .t 132, .t 133]⟩]
        [0, 2, 3, 4, 10, 11, 16])
      (.region [⟨some 135, none, .mov (.t 16)⟩,
        ⟨some 136, none, .bin .add (.t 135) (.c (.int .i64 1))⟩,
        ⟨some 1, none, .mov (.t 136)⟩]
        [0, 1, 2, 3, 4, 10, 11])))
      (.seq (.region [⟨some 137, none, .mov (.t 19)⟩,
        ⟨some 138, none, .mov (.t 20)⟩,
        ⟨some 139, none, .bin .geq (.t 137) (.t 138)⟩,
        ⟨some 10, none, .mov (.t 139)⟩]
        [0, 1, 2, 3, 4, 10, 11, 16])
      (.seq (.region [⟨some 140, none, .mov (.t 0)⟩,
        ⟨some 141, none, .mov (.t 16)⟩,
        ⟨some 142, none, .bin .add (.t 141) (.c (.int .i64 1))⟩,
        ⟨some 143, none, .mov (.t 2)⟩,
        ⟨some 144, none, .mov (.t 3)⟩,
        ⟨some 145, none, .mov (.t 4)⟩,
        ⟨some 146, none, .call F.slices_pdqsortCmpFunc_api_Want [.t 140, .t 142, .t 143, .t 144, .t 145]⟩]
        [0, 1, 3, 4, 10, 11, 16])
      (.region [⟨some 147, none, .mov (.t 16)⟩,
        ⟨some 2, none, .mov (.t 147)⟩]
        [0, 1, 2, 3, 4, 10, 11]))))))))))))))))) [0, 1, 2, 3, 4, 10, 11])
def RC.slices_pdqsortCmpFunc_api_Want : RFn := ⟨5, [],
  (.seq (.region [⟨some 10, none, .mov (.c (.bool true))⟩]
    [0, 1, 2, 3, 4, 10])
  (.seq (.region [⟨some 11, none, .mov (.c (.bool true))⟩]
    [0, 1, 2, 3, 4, 10, 11])
  (.block 0
    (.loop [0, 1, 2, 3, 4, 10, 11] RB.slices_pdqsortCmpFunc_api_Want_1) [])))⟩

def RC.math_bits_Len : RFn := ⟨1, [.slot 2],
  (.seq (.region [⟨some 2, none, .mov (.c (.int .i64 0))⟩]
    [0])
  (.seq (.cond (.c (.bool false))
    (.seq (.region [⟨some 3, none, .mov (.t 0)⟩,
      ⟨some 4, none, .conv .u32 (.t 3)⟩,
      ⟨some 5, none, .call F.math_bits_Len32 [.t 4]⟩,
      ⟨some 2, none, .mov (.t 5)⟩]
      [2])
    .ret)
    .skip)
  (.seq (.region [⟨some 6, none, .mov (.t 0)⟩,
    ⟨some 7, none, .call F.math_bits_Len64 [.t 6]⟩,
    ⟨some 2, none, .mov (.t 7)⟩]
    [2])
  .ret)))⟩

def RC.cmp_isNaN_int : RFn := ⟨1, [.slot 2],
  (.seq (.region [⟨some 2, none, .mov (.c (.bool false))⟩]
    [0])
  (.seq (.region [⟨some 3, none, .mov (.t 0)⟩,
    ⟨some 4, none, .mov (.t 0)⟩,
    ⟨some 5, none, .bin .neq (.t 3) (.t 4)⟩,
    ⟨some 2, none, .mov (.t 5)⟩]
    [2])
  .ret))⟩

def RB.slices_insertionSortCmpFunc_api_Want_1 : RCode :=
  (.seq (.seq (.drawn [⟨some 18, none, .mov (.t 9)⟩,
    ⟨some 19, none, .mov (.t 1)⟩,
    ⟨some 20, none, .bin .gtr (.t 18) (.t 19)⟩,
    ⟨some 21, none, .mov (.t 20)⟩,
    ⟨some 22, some (21, true), .mov (.t 3)⟩,
    ⟨some 23, some (21, true), .mov (.t 0)⟩,
    ⟨some 24, some (21, true), .mov (.t 9)⟩,
    ⟨some 25, some (21, true), .idxS 2 (.t 23) (.t 24)⟩,
    ⟨some 26, some (21, true), .load true 2 (.t 25)⟩,
    ⟨some 27, some (21, true), .mov (.t 0)⟩,
    ⟨some 28, some (21, true), .mov (.t 9)⟩,
    ⟨some 29, some (21, true), .bin .sub (.t 28) (.c (.int .i64 1))⟩,
    ⟨some 30, some (21, true), .idxS 2 (.t 27) (.t 29)⟩,
    ⟨some 31, some (21, true), .load true 2 (.t 30)⟩,
    ⟨some 32, some (21, true), .callv (.t 22) [.t 26, .t 31]⟩,
    ⟨some 33, some (21, true), .bin .lss (.t 32) (.c (.int .i64 0))⟩,
    ⟨some 34, none, .pick (.t 21) (.t 33) (.c (.bool false))⟩]
    [[], [], [0, 1], [2], [3], [3], [3], [5, 6, 3], [7, 3], [3], [3], [10, 3], [9, 11, 3], [12, 3], [4, 8, 13, 3, 3], [14, 3], [3, 15]]
    [(0, []), (1, []), (2, []), (3, []), (4, []), (5, []), (6, []), (7, []), (9, []), (10, []), (11, []), (12, []), (8, []), (13, []), (14, []), (15, []), (16, [])]
    [[], [], [0, 1], [0, 1, 2], [0, 1, 2, 3], [0, 1, 2, 3], [0, 1, 2, 3], [0, 1, 2, 3, 5, 6], [0, 1, 2, 3, 5, 6, 7], [0, 1, 2, 3], [0, 1, 2, 3], [0, 1, 2, 3, 10], [0, 1, 2, 3, 9, 10, 11], [0, 1, 2, 3, 9, 10, 11, 12], [0, 1, 2, 3, 4, 5, 6, 7, 8, 9, 10, 11, 12, 13], [0, 1, 2, 3, 4, 5, 6, 7, 8, 9, 10, 11, 12, 13, 14], [0, 1, 2, 3, 4, 5, 6, 7, 8, 9, 10, 11, 12, 13, 14, 15]]
    [0, 1, 2, 3, 8, 9, 34])
  (.cond (.t 34)
    .skip
    (.exit 2)))
  (.seq (.block 3
    (.drawn [⟨some 37, none, .mov (.t 0)⟩,
      ⟨some 38, none, .mov (.t 9)⟩,
      ⟨some 39, none, .mov (.t 0)⟩,
      ⟨some 40, none, .mov (.t 9)⟩,
      ⟨some 41, none, .bin .sub (.t 40) (.c (.int .i64 1))⟩,
      ⟨some 42, none, .mov (.t 0)⟩,
      ⟨some 43, none, .mov (.t 9)⟩,
      ⟨some 44, none, .bin .sub (.t 43) (.c (.int .i64 1))⟩,
      ⟨some 45, none, .idxS 2 (.t 42) (.t 44)⟩,
      ⟨some 46, none, .load true 2 (.t 45)⟩,
      ⟨some 47, none, .mov (.t 0)⟩,
      ⟨some 48, none, .mov (.t 9)⟩,
      ⟨some 49, none, .idxS 2 (.t 47) (.t 48)⟩,
      ⟨some 50, none, .load true 2 (.t 49)⟩,
      ⟨some 51, none, .idxS 2 (.t 37) (.t 38)⟩,
      ⟨none, none, .store 2 (.t 51) (.t 46)⟩,
      ⟨some 52, none, .idxS 2 (.t 39) (.t 41)⟩,
      ⟨none, none, .store 2 (.t 52) (.t 50)⟩]
      [[], [], [], [], [3], [], [], [6], [5, 7], [8], [], [], [10, 11], [12], [0, 1, 0, 1, 5, 6, 7, 8, 9, 13], [14, 9, 0, 1, 5, 6, 7, 8, 9, 13], [2, 4, 0, 1, 2, 3, 4, 5, 6, 7, 8, 9, 10, 11, 12, 13, 14, 15], [16, 13, 15, 0, 1, 2, 3, 4, 5, 6, 7, 8, 9, 10, 11, 12, 13, 14, 15]]
      [(0, []), (1, []), (2, []), (3, []), (4, []), (5, []), (6, []), (7, []), (8, []), (10, []), (11, []), (12, []), (9, []), (13, []), (14, []), (15, []), (16, []), (17, [])]
      [[], [], [], [], [3], [], [], [6], [5, 6, 7], [5, 6, 7, 8], [], [], [10, 11], [10, 11, 12], [0, 1, 5, 6, 7, 8, 9, 10, 11, 12, 13], [0, 1, 5, 6, 7, 8, 9, 10, 11, 12, 13, 14], [0, 1, 2, 3, 4, 5, 6, 7, 8, 9, 10, 11, 12, 13, 14, 15], [0, 1, 2, 3, 4, 5, 6, 7, 8, 9, 10, 11, 12, 13, 14, 15, 16]]
      [0, 1, 2, 3, 8, 9]) [0, 1, 2, 3, 8, 9])
  (.region [⟨some 35, none, .mov (.t 9)⟩,
    ⟨some 36, none, .bin .sub (.t 35) (.c (.int .i64 1))⟩,
    ⟨some 9, none, .mov (.t 36)⟩]
    [0, 1, 2, 3, 8, 9])))
def RB.slices_insertionSortCmpFunc_api_Want_2 : RCode :=
  (.seq (.seq (.region [⟨some 12, none, .mov (.t 8)⟩,
    ⟨some 13, none, .mov (.t 2)⟩,
    ⟨some 14, none, .bin .lss (.t 12) (.t 13)⟩]
    [0, 1, 2, 3, 8, 14])
  (.cond (.t 14)
    .skip
    (.exit 0)))
  (.seq (.block 1
    (.seq (.region [⟨some 17, none, .mov (.t 8)⟩,
      ⟨some 9, none, .mov (.t 17)⟩]
      [0, 1, 2, 3, 8, 9])
    (.block 2
      (.loop [0, 1, 2, 3, 8, 9] RB.slices_insertionSortCmpFunc_api_Want_1) [0, 1, 2, 3, 8])) [0, 1, 2, 3, 8])
  (.region [⟨some 15, none, .mov (.t 8)⟩,
    ⟨some 16, none, .bin .add (.t 15) (.c (.int .i64 1))⟩,
    ⟨some 8, none, .mov (.t 16)⟩]
    [0, 1, 2, 3, 8])))
def RC.slices_insertionSortCmpFunc_api_Want : RFn := ⟨4, [],
  (.seq (.region [⟨some 10, none, .mov (.t 1)⟩,
    ⟨some 11, none, .bin .add (.t 10) (.c (.int .i64 1))⟩,
    ⟨some 8, none, .mov (.t 11)⟩]
    [0, 1, 2, 3, 8])
  (.block 0
    (.loop [0, 1, 2, 3, 8] RB.slices_insertionSortCmpFunc_api_Want_2) []))⟩

def RB.slices_heapSortCmpFunc_api_Want_1 : RCode :=
  (.seq (.seq (.region [⟨some 32, none, .mov (.t 12)⟩,
    ⟨some 33, none, .bin .geq (.t 32) (.c (.int .i64 0))⟩]
    [0, 3, 8, 9, 12, 33])
  (.cond (.t 33)
    .skip
    (.exit 2)))
  (.seq (.block 3
    (.seq (.drawn [⟨some 36, none, .mov (.t 0)⟩,
      ⟨some 37, none, .mov (.t 8)⟩,
      ⟨some 38, none, .mov (.t 0)⟩,
      ⟨some 39, none, .mov (.t 8)⟩,
      ⟨some 40, none, .mov (.t 12)⟩,
      ⟨some 41, none, .bin .add (.t 39) (.t 40)⟩,
      ⟨some 42, none, .mov (.t 0)⟩,
      ⟨some 43, none, .mov (.t 8)⟩,
      ⟨some 44, none, .mov (.t 12)⟩,
      ⟨some 45, none, .bin .add (.t 43) (.t 44)⟩,
      ⟨some 46, none, .idxS 2 (.t 42) (.t 45)⟩,
      ⟨some 47, none, .load true 2 (.t 46)⟩,
      ⟨some 48, none, .mov (.t 0)⟩,
      ⟨some 49, none, .mov (.t 8)⟩,
      ⟨some 50, none, .idxS 2 (.t 48) (.t 49)⟩,
      ⟨some 51, none, .load true 2 (.t 50)⟩,
      ⟨some 52, none, .idxS 2 (.t 36) (.t 37)⟩,
      ⟨none, none, .store 2 (.t 52) (.t 47)⟩,
      ⟨some 53, none, .idxS 2 (.t 38) (.t 41)⟩,
      ⟨none, none, .store 2 (.t 53) (.t 51)⟩]
      [[], [], [], [], [], [3, 4], [], [], [], [7, 8], [6, 9], [10], [], [], [12, 13], [14], [0, 1, 0, 1, 6, 7, 8, 9, 10, 11, 15], [16, 11, 0, 1, 6, 7, 8, 9, 10, 11, 15], [2, 5, 0, 1, 2, 3, 4, 5, 6, 7, 8, 9, 10, 11, 12, 13, 14, 15, 16, 17], [18, 15, 17, 0, 1, 2, 3, 4, 5, 6, 7, 8, 9, 10, 11, 12, 13, 14, 15, 16, 17]]
      [(0, []), (1, []), (2, []), (3, []), (4, []), (5, []), (6, []), (7, []), (8, []), (9, []), (10, []), (12, []), (13, []), (14, []), (11, []), (15, []), (16, []), (17, []), (18, []), (19, [])]
      [[], [], [], [], [], [3, 4], [], [], [], [7, 8], [6, 7, 8, 9], [6, 7, 8, 9, 10], [], [], [12, 13], [12, 13, 14], [0, 1, 6, 7, 8, 9, 10, 11, 12, 13, 14, 15], [0, 1, 6, 7, 8, 9, 10, 11, 12, 13, 14, 15, 16], [0, 1, 2, 3, 4, 5, 6, 7, 8, 9, 10, 11, 12, 13, 14, 15, 16, 17], [0, 1, 2, 3, 4, 5, 6, 7, 8, 9, 10, 11, 12, 13, 14, 15, 16, 17, 18]]
      [0, 3, 8, 9, 12])
    (.region [⟨some 54, none, .mov (.t 0)⟩,
      ⟨some 55, none, .mov (.t 9)⟩,
      ⟨some 56, none, .mov (.t 12)⟩,
      ⟨some 57, none, .mov (.t 8)⟩,
      ⟨some 58, none, .mov (.t 3)⟩,
      ⟨some 59, none, .call F.slices_siftDownCmpFunc_api_Want [.t 54, .t 55, .t 56, .t 57, .t 58]⟩]
      [0, 3, 8, 9, 12])) [0, 3, 8, 9, 12])
  (.region [⟨some 34, none, .mov (.t 12)⟩,
    ⟨some 35, none, .bin .sub (.t 34) (.c (.int .i64 1))⟩,
    ⟨some 12, none, .mov (.t 35)⟩]
    [0, 3, 8, 9, 12])))
def RB.slices_heapSortCmpFunc_api_Want_2 : RCode :=
  (.seq (.seq (.region [⟨some 20, none, .mov (.t 11)⟩,
    ⟨some 21, none, .bin .geq (.t 20) (.c (.int .i64 0))⟩]
    [0, 3, 8, 9, 10, 11, 21])
  (.cond (.t 21)
    .skip
    (.exit 0)))
  (.seq (.block 1
    (.region [⟨some 24, none, .mov (.t 0)⟩,
      ⟨some 25, none, .mov (.t 11)⟩,
      ⟨some 26, none, .mov (.t 10)⟩,
      ⟨some 27, none, .mov (.t 8)⟩,
      ⟨some 28, none, .mov (.t 3)⟩,
      ⟨some 29, none, .call F.slices_siftDownCmpFunc_api_Want [.t 24, .t 25, .t 26, .t 27, .t 28]⟩]
      [0, 3, 8, 9, 10, 11]) [0, 3, 8, 9, 10, 11])
  (.region [⟨some 22, none, .mov (.t 11)⟩,
    ⟨some 23, none, .bin .sub (.t 22) (.c (.int .i64 1))⟩,
    ⟨some 11, none, .mov (.t 23)⟩]
    [0, 3, 8, 9, 10, 11])))
def RC.slices_heapSortCmpFunc_api_Want : RFn := ⟨4, [],
  (.seq (.region [⟨some 13, none, .mov (.t 1)⟩,
    ⟨some 8, none, .mov (.t 13)⟩]
    [0, 1, 2, 3, 8])
  (.seq (.region [⟨some 9, none, .mov (.c (.int .i64 0))⟩]
    [0, 1, 2, 3, 8, 9])
  (.seq (.region [⟨some 14, none, .mov (.t 2)⟩,
    ⟨some 15, none, .mov (.t 1)⟩,
    ⟨some 16, none, .bin .sub (.t 14) (.t 15)⟩,
    ⟨some 10, none, .mov (.t 16)⟩]
    [0, 3, 8, 9, 10])
  (.seq (.seq (.region [⟨some 17, none, .mov (.t 10)⟩,
    ⟨some 18, none, .bin .sub (.t 17) (.c (.int .i64 1))⟩,
    ⟨some 19, none, .bin .quo (.t 18) (.c (.int .i64 2))⟩,
    ⟨some 11, none, .mov (.t 19)⟩]
    [0, 3, 8, 9, 10, 11])
  (.block 0
    (.loop [0, 3, 8, 9, 10, 11] RB.slices_heapSortCmpFunc_api_Want_2) [0, 3, 8, 9, 10]))
  (.seq (.region [⟨some 30, none, .mov (.t 10)⟩,
    ⟨some 31, none, .bin .sub (.t 30) (.c (.int .i64 1))⟩,
    ⟨some 12, none, .mov (.t 31)⟩]
    [0, 3, 8, 9, 12])
  (.block 2
    (.loop [0, 3, 8, 9, 12] RB.slices_heapSortCmpFunc_api_Want_1) []))))))⟩

def RB.slices_breakPatternsCmpFunc_api_Want_1 : RCode :=
  (.seq (.seq (.region [⟨some 28, none, .mov (.t 11)⟩,
    ⟨some 29, none, .mov (.t 1)⟩,
    ⟨some 30, none, .mov (.t 8)⟩,
    ⟨some 31, none, .bin .quo (.t 30) (.c (.int .i64 4))⟩,
    ⟨some 32, none, .bin .mul (.t 31) (.c (.int .i64 2))⟩,
    ⟨some 33, none, .bin .add (.t 29) (.t 32)⟩,
    ⟨some 34, none, .bin .add (.t 33) (.c (.int .i64 1))⟩,
    ⟨some 35, none, .bin .leq (.t 28) (.t 34)⟩]
    [0, 1, 8, 9, 10, 11, 35])
  (.cond (.t 35)
    .skip
    (.exit 0)))
  (.seq (.block 1
    (.seq (.region [⟨some 38, none, .call F.slices_xorshift_Next [.t 9]⟩,
      ⟨some 39, none, .mov (.t 10)⟩,
      ⟨some 40, none, .bin .sub (.t 39) (.c (u64 1#64))⟩,
      ⟨some 41, none, .bin .and (.t 38) (.t 40)⟩,
      ⟨some 42, none, .conv .i64 (.t 41)⟩,
      ⟨some 12, none, .mov (.t 42)⟩]
      [0, 1, 8, 9, 10, 11, 12])
    (.seq (.seq (.region [⟨some 43, none, .mov (.t 12)⟩,
      ⟨some 44, none, .mov (.t 8)⟩,
      ⟨some 45, none, .bin .geq (.t 43) (.t 44)⟩]
      [0, 1, 8, 9, 10, 11, 12, 45])
    (.cond (.t 45)
      (.region [⟨some 46, none, .mov (.t 12)⟩,
        ⟨some 47, none, .mov (.t 8)⟩,
        ⟨some 48, none, .bin .sub (.t 46) (.t 47)⟩,
        ⟨some 12, none, .mov (.t 48)⟩]
        [0, 1, 8, 9, 10, 11, 12])
      .skip))
    (.drawn [⟨some 49, none, .mov (.t 0)⟩,
      ⟨some 50, none, .mov (.t 11)⟩,
      ⟨some 51, none, .mov (.t 0)⟩,
      ⟨some 52, none, .mov (.t 1)⟩,
      ⟨some 53, none, .mov (.t 12)⟩,
      ⟨some 54, none, .bin .add (.t 52) (.t 53)⟩,
      ⟨some 55, none, .mov (.t 0)⟩,
      ⟨some 56, none, .mov (.t 1)⟩,
      ⟨some 57, none, .mov (.t 12)⟩,
      ⟨some 58, none, .bin .add (.t 56) (.t 57)⟩,
      ⟨some 59, none, .idxS 2 (.t 55) (.t 58)⟩,
      ⟨some 60, none, .load true 2 (.t 59)⟩,
      ⟨some 61, none, .mov (.t 0)⟩,
      ⟨some 62, none, .mov (.t 11)⟩,
      ⟨some 63, none, .idxS 2 (.t 61) (.t 62)⟩,
      ⟨some 64, none, .load true 2 (.t 63)⟩,
      ⟨some 65, none, .idxS 2 (.t 49) (.t 50)⟩,
      ⟨none, none, .store 2 (.t 65) (.t 60)⟩,
      ⟨some 66, none, .idxS 2 (.t 51) (.t 54)⟩,
      ⟨none, none, .store 2 (.t 66) (.t 64)⟩]
      [[], [], [], [], [], [3, 4], [], [], [], [7, 8], [6, 9], [10], [], [], [12, 13], [14], [0, 1, 0, 1, 6, 7, 8, 9, 10, 11, 15], [16, 11, 0, 1, 6, 7, 8, 9, 10, 11, 15], [2, 5, 0, 1, 2, 3, 4, 5, 6, 7, 8, 9, 10, 11, 12, 13, 14, 15, 16, 17], [18, 15, 17, 0, 1, 2, 3, 4, 5, 6, 7, 8, 9, 10, 11, 12, 13, 14, 15, 16, 17]]
      [(0, []), (1, []), (2, []), (3, []), (4, []), (5, []), (6, []), (7, []), (8, []), (9, []), (10, []), (12, []), (13, []), (14, []), (11, []), (15, []), (16, []), (17, []), (18, []), (19, [])]
      [[], [], [], [], [], [3, 4], [], [], [], [7, 8], [6, 7, 8, 9], [6, 7, 8, 9, 10], [], [], [12, 13], [12, 13, 14], [0, 1, 6, 7, 8, 9, 10, 11, 12, 13, 14, 15], [0, 1, 6, 7, 8, 9, 10, 11, 12, 13, 14, 15, 16], [0, 1, 2, 3, 4, 5, 6, 7, 8, 9, 10, 11, 12, 13, 14, 15, 16, 17], [0, 1, 2, 3, 4, 5, 6, 7, 8, 9, 10, 11, 12, 13, 14, 15, 16, 17, 18]]
      [0, 1, 8, 9, 10, 11]))) [0, 1, 8, 9, 10, 11])
  (.region [⟨some 36, none, .mov (.t 11)⟩,
    ⟨some 37, none, .bin .add (.t 36) (.c (.int .i64 1))⟩,
    ⟨some 11, none, .mov (.t 37)⟩]
    [0, 1, 8, 9, 10, 11])))
def RC.slices_breakPatternsCmpFunc_api_Want : RFn := ⟨4, [],
  (.seq (.region [⟨some 13, none, .mov (.t 2)⟩,
    ⟨some 14, none, .mov (.t 1)⟩,
    ⟨some 15, none, .bin .sub (.t 13) (.t 14)⟩,
    ⟨some 8, none, .mov (.t 15)⟩]
    [0, 1, 8])
  (.seq (.region [⟨some 16, none, .mov (.t 8)⟩,
    ⟨some 17, none, .bin .geq (.t 16) (.c (.int .i64 8))⟩]
    [0, 1, 8, 17])
  (.cond (.t 17)
    (.seq (.region [⟨some 18, none, .mov (.t 8)⟩,
      ⟨some 19, none, .conv .u64 (.t 18)⟩,
      ⟨some 9, none, .alloc [(u64 0#64)]⟩,
      ⟨none, none, .store 1 (.t 9) (.t 19)⟩]
      [0, 1, 8, 9])
    (.seq (.region [⟨some 20, none, .mov (.t 8)⟩,
      ⟨some 21, none, .call F.slices_nextPowerOfTwo [.t 20]⟩,
      ⟨some 10, none, .mov (.t 21)⟩]
      [0, 1, 8, 9, 10])
    (.seq (.region [⟨some 22, none, .mov (.t 1)⟩,
      ⟨some 23, none, .mov (.t 8)⟩,
      ⟨some 24, none, .bin .quo (.t 23) (.c (.int .i64 4))⟩,
      ⟨some 25, none, .bin .mul (.t 24) (.c (.int .i64 2))⟩,
      ⟨some 26, none, .bin .add (.t 22) (.t 25)⟩,
      ⟨some 27, none, .bin .sub (.t 26) (.c (.int .i64 1))⟩,
      ⟨some 11, none, .mov (.t 27)⟩]
      [0, 1, 8, 9, 10, 11])
    (.block 0
      (.loop [0, 1, 8, 9, 10, 11] RB.slices_breakPatternsCmpFunc_api_Want_1) []))))
    .skip)))⟩

def RC.slices_choosePivotCmpFunc_api_Want : RFn := ⟨4, [.slot 8, .slot 9],
  (.seq (.region [⟨some 8, none, .mov (.c (.int .i64 0))⟩,
    ⟨some 9, none, .mov (.c (.int .i64 0))⟩]
    [0, 1, 2, 3])
  (.seq (.region [⟨some 15, none, .mov (.t 2)⟩,
    ⟨some 16, none, .mov (.t 1)⟩,
    ⟨some 17, none, .bin .sub (.t 15) (.t 16)⟩,
    ⟨some 10, none, .mov (.t 17)⟩]
    [0, 1, 3, 10])
  (.seq (.region [⟨some 11, none, .alloc [(.int .i64 0)]⟩]
    [0, 1, 3, 10, 11])
  (.seq (.region [⟨some 18, none, .mov (.t 1)⟩,
    ⟨some 19, none, .mov (.t 10)⟩,
    ⟨some 20, none, .bin .quo (.t 19) (.c (.int .i64 4))⟩,
    ⟨some 21, none, .bin .mul (.t 20) (.c (.int .i64 1))⟩,
    ⟨some 22, none, .bin .add (.t 18) (.t 21)⟩,
    ⟨some 12, none, .mov (.t 22)⟩]
    [0, 1, 3, 10, 11, 12])
  (.seq (.region [⟨some 23, none, .mov (.t 1)⟩,
    ⟨some 24, none, .mov (.t 10)⟩,
    ⟨some 25, none, .bin .quo (.t 24) (.c (.int .i64 4))⟩,
    ⟨some 26, none, .bin .mul (.t 25) (.c (.int .i64 2))⟩,
    ⟨some 27, none, .bin .add (.t 23) (.t 26)⟩,
    ⟨some 13, none, .mov (.t 27)⟩]
    [0, 1, 3, 10, 11, 12, 13])
  (.seq (.region [⟨some 28, none, .mov (.t 1)⟩,
    ⟨some 29, none, .mov (.t 10)⟩,
    ⟨some 30, none, .bin .quo (.t 29) (.c (.int .i64 4))⟩,
    ⟨some 31, none, .bin .mul (.t 30) (.c (.int .i64 3))⟩,
    ⟨some 32, none, .bin .add (.t 28) (.t 31)⟩,
    ⟨some 14, none, .mov (.t 32)⟩]
    [0, 3, 10, 11, 12, 13, 14])
  (.seq (.seq (.region [⟨some 33, none, .mov (.t 10)⟩,
    ⟨some 34, none, .bin .geq (.t 33) (.c (.int .i64 8))⟩]
    [0, 3, 10, 11, 12, 13, 14, 34])
  (.cond (.t 34)
    (.seq (.seq (.region [⟨some 35, none, .mov (.t 10)⟩,
      ⟨some 36, none, .bin .geq (.t 35) (.c (.int .i64 50))⟩]
      [0, 3, 11, 12, 13, 14, 36])
    (.cond (.t 36)
      (.seq (.region [⟨some 37, none, .mov (.t 0)⟩,
        ⟨some 38, none, .mov (.t 12)⟩,
        ⟨some 39, none, .mov (.t 3)⟩,
        ⟨some 40, none, .call F.slices_medianAdjacentCmpFunc_api_Want [.t 37, .t 38, .t 11, .t 39]⟩,
        ⟨some 12, none, .mov (.t 40)⟩]
        [0, 3, 11, 12, 13, 14])
      (.seq (.region [⟨some 41, none, .mov (.t 0)⟩,
        ⟨some 42, none, .mov (.t 13)⟩,
        ⟨some 43, none, .mov (.t 3)⟩,
        ⟨some 44, none, .call F.slices_medianAdjacentCmpFunc_api_Want [.t 41, .t 42, .t 11, .t 43]⟩,
        ⟨some 13, none, .mov (.t 44)⟩]
        [0, 3, 11, 12, 13, 14])
      (.region [⟨some 45, none, .mov (.t 0)⟩,
        ⟨some 46, none, .mov (.t 14)⟩,
        ⟨some 47, none, .mov (.t 3)⟩,
        ⟨some 48, none, .call F.slices_medianAdjacentCmpFunc_api_Want [.t 45, .t 46, .t 11, .t 47]⟩,
        ⟨some 14, none, .mov (.t 48)⟩]
        [0, 3, 11, 12, 13, 14])))
      .skip))
    (.region [⟨some 49, none, .mov (.t 0)⟩,
      ⟨some 50, none, .mov (.t 12)⟩,
      ⟨some 51, none, .mov (.t 13)⟩,
      ⟨some 52, none, .mov (.t 14)⟩,
      ⟨some 53, none, .mov (.t 3)⟩,
      ⟨some 54, none, .call F.slices_medianCmpFunc_api_Want [.t 49, .t 50, .t 51, .t 52, .t 11, .t 53]⟩,
      ⟨some 13, none, .mov (.t 54)⟩]
      [11, 13]))
    .skip))
  (.seq (.region [⟨some 55, none, .load false 1 (.t 11)⟩]
    [13, 55])
  (.block 0
    (.seq (.region [⟨some 58, none, .bin .eql (.t 55) (.c (.int .i64 0))⟩,
      ⟨some 57, none, .mov (.t 58)⟩]
      [13, 55, 57])
    (.cond (.t 57)
      (.seq (.region [⟨some 59, none, .mov (.t 13)⟩,
        ⟨some 8, none, .mov (.t 59)⟩,
        ⟨some 9, none, .mov (.c (.int .i64 1))⟩]
        [8, 9])
      .ret)
      (.seq (.region [⟨some 61, none, .bin .eql (.t 55) (.c (.int .i64 12))⟩,
        ⟨some 60, none, .mov (.t 61)⟩]
        [13, 60])
      (.cond (.t 60)
        (.seq (.region [⟨some 62, none, .mov (.t 13)⟩,
          ⟨some 8, none, .mov (.t 62)⟩,
          ⟨some 9, none, .mov (.c (.int .i64 2))⟩]
          [8, 9])
        .ret)
        (.seq (.region [⟨some 56, none, .mov (.t 13)⟩,
          ⟨some 8, none, .mov (.t 56)⟩,
          ⟨some 9, none, .mov (.c (.int .i64 0))⟩]
          [8, 9])
        .ret))))) [8, 9])))))))))⟩

def RB.slices_reverseRangeCmpFunc_api_Want_1 : RCode :=
  (.seq (.seq (.region [⟨some 13, none, .mov (.t 8)⟩,
    ⟨some 14, none, .mov (.t 9)⟩,
    ⟨some 15, none, .bin .lss (.t 13) (.t 14)⟩]
    [0, 8, 9, 15])
  (.cond (.t 15)
    .skip
    (.exit 0)))
  (.block 1
    (.seq (.drawn [⟨some 16, none, .mov (.t 0)⟩,
      ⟨some 17, none, .mov (.t 8)⟩,
      ⟨some 18, none, .mov (.t 0)⟩,
      ⟨some 19, none, .mov (.t 9)⟩,
      ⟨some 20, none, .mov (.t 0)⟩,
      ⟨some 21, none, .mov (.t 9)⟩,
      ⟨some 22, none, .idxS 2 (.t 20) (.t 21)⟩,
      ⟨some 23, none, .load true 2 (.t 22)⟩,
      ⟨some 24, none, .mov (.t 0)⟩,
      ⟨some 25, none, .mov (.t 8)⟩,
      ⟨some 26, none, .idxS 2 (.t 24) (.t 25)⟩,
      ⟨some 27, none, .load true 2 (.t 26)⟩,
      ⟨some 28, none, .idxS 2 (.t 16) (.t 17)⟩,
      ⟨none, none, .store 2 (.t 28) (.t 23)⟩,
      ⟨some 29, none, .idxS 2 (.t 18) (.t 19)⟩,
      ⟨none, none, .store 2 (.t 29) (.t 27)⟩]
      [[], [], [], [], [], [], [4, 5], [6], [], [], [8, 9], [10], [0, 1, 0, 1, 4, 5, 6, 7, 11], [12, 7, 0, 1, 4, 5, 6, 7, 11], [2, 3, 0, 1, 2, 3, 4, 5, 6, 7, 8, 9, 10, 11, 12, 13], [14, 11, 13, 0, 1, 2, 3, 4, 5, 6, 7, 8, 9, 10, 11, 12, 13]]
      [(0, []), (1, []), (2, []), (3, []), (4, []), (5, []), (6, []), (8, []), (9, []), (10, []), (7, []), (11, []), (12, []), (13, []), (14, []), (15, [])]
      [[], [], [], [], [], [], [4, 5], [4, 5, 6], [], [], [8, 9], [8, 9, 10], [0, 1, 4, 5, 6, 7, 8, 9, 10, 11], [0, 1, 4, 5, 6, 7, 8, 9, 10, 11, 12], [0, 1, 2, 3, 4, 5, 6, 7, 8, 9, 10, 11, 12, 13], [0, 1, 2, 3, 4, 5, 6, 7, 8, 9, 10, 11, 12, 13, 14]]
      [0, 8, 9])
    (.seq (.region [⟨some 30, none, .mov (.t 8)⟩,
      ⟨some 31, none, .bin .add (.t 30) (.c (.int .i64 1))⟩,
      ⟨some 8, none, .mov (.t 31)⟩]
      [0, 8, 9])
    (.region [⟨some 32, none, .mov (.t 9)⟩,
      ⟨some 33, none, .bin .sub (.t 32) (.c (.int .i64 1))⟩,
      ⟨some 9, none, .mov (.t 33)⟩]
      [0, 8, 9]))) [0, 8, 9]))
def RC.slices_reverseRangeCmpFunc_api_Want : RFn := ⟨4, [],
  (.seq (.region [⟨some 10, none, .mov (.t 1)⟩,
    ⟨some 8, none, .mov (.t 10)⟩]
    [0, 2, 8])
  (.seq (.region [⟨some 11, none, .mov (.t 2)⟩,
    ⟨some 12, none, .bin .sub (.t 11) (.c (.int .i64 1))⟩,
    ⟨some 9, none, .mov (.t 12)⟩]
    [0, 8, 9])
  (.block 0
    (.loop [0, 8, 9] RB.slices_reverseRangeCmpFunc_api_Want_1) [])))⟩

def RB.slices_partialInsertionSortCmpFunc_api_Want_1 : RCode :=
  (.seq (.seq (.region [⟨some 107, none, .mov (.t 12)⟩,
    ⟨some 108, none, .mov (.t 2)⟩,
    ⟨some 109, none, .bin .lss (.t 107) (.t 108)⟩]
    [0, 1, 2, 3, 9, 10, 12, 109])
  (.cond (.t 109)
    .skip
    (.exit 6)))
  (.seq (.block 7
    (.seq (.seq (.drawn [⟨some 112, none, .mov (.t 3)⟩,
      ⟨some 113, none, .mov (.t 0)⟩,
      ⟨some 114, none, .mov (.t 12)⟩,
      ⟨some 115, none, .idxS 2 (.t 113) (.t 114)⟩,
      ⟨some 116, none, .load true 2 (.t 115)⟩,
      ⟨some 117, none, .mov (.t 0)⟩,
      ⟨some 118, none, .mov (.t 12)⟩,
      ⟨some 119, none, .bin .sub (.t 118) (.c (.int .i64 1))⟩,
      ⟨some 120, none, .idxS 2 (.t 117) (.t 119)⟩,
      ⟨some 121, none, .load true 2 (.t 120)⟩,
      ⟨some 122, none, .callv (.t 112) [.t 116, .t 121]⟩,
      ⟨some 123, none, .bin .lss (.t 122) (.c (.int .i64 0))⟩,
      ⟨some 124, none, .un .not (.t 123)⟩]
      [[], [], [], [1, 2], [3], [], [], [6], [5, 7], [8], [0, 4, 9], [10], [11]]
      [(0, []), (1, []), (2, []), (3, []), (5, []), (6, []), (7, []), (8, []), (4, []), (9, []), (10, []), (11, []), (12, [])]
      [[], [], [], [1, 2], [1, 2, 3], [], [], [6], [5, 6, 7], [5, 6, 7, 8], [0, 1, 2, 3, 4, 5, 6, 7, 8, 9], [0, 1, 2, 3, 4, 5, 6, 7, 8, 9, 10], [0, 1, 2, 3, 4, 5, 6, 7, 8, 9, 10, 11]]
      [0, 1, 2, 3, 9, 10, 12, 124])
    (.cond (.t 124)
      (.exit 6)
      .skip))
    (.drawn [⟨some 125, none, .mov (.t 0)⟩,
      ⟨some 126, none, .mov (.t 12)⟩,
      ⟨some 127, none, .mov (.t 0)⟩,
      ⟨some 128, none, .mov (.t 12)⟩,
      ⟨some 129, none, .bin .sub (.t 128) (.c (.int .i64 1))⟩,
      ⟨some 130, none, .mov (.t 0)⟩,
      ⟨some 131, none, .mov (.t 12)⟩,
      ⟨some 132, none, .bin .sub (.t 131) (.c (.int .i64 1))⟩,
      ⟨some 133, none, .idxS 2 (.t 130) (.t 132)⟩,
      ⟨some 134, none, .load true 2 (.t 133)⟩,
      ⟨some 135, none, .mov (.t 0)⟩,
      ⟨some 136, none, .mov (.t 12)⟩,
      ⟨some 137, none, .idxS 2 (.t 135) (.t 136)⟩,
      ⟨some 138, none, .load true 2 (.t 137)⟩,
      ⟨some 139, none, .idxS 2 (.t 125) (.t 126)⟩,
      ⟨none, none, .store 2 (.t 139) (.t 134)⟩,
      ⟨some 140, none, .idxS 2 (.t 127) (.t 129)⟩,
      ⟨none, none, .store 2 (.t 140) (.t 138)⟩]
      [[], [], [], [], [3], [], [], [6], [5, 7], [8], [], [], [10, 11], [12], [0, 1, 0, 1, 5, 6, 7, 8, 9, 13], [14, 9, 0, 1, 5, 6, 7, 8, 9, 13], [2, 4, 0, 1, 2, 3, 4, 5, 6, 7, 8, 9, 10, 11, 12, 13, 14, 15], [16, 13, 15, 0, 1, 2, 3, 4, 5, 6, 7, 8, 9, 10, 11, 12, 13, 14, 15]]
      [(0, []), (1, []), (2, []), (3, []), (4, []), (5, []), (6, []), (7, []), (8, []), (10, []), (11, []), (12, []), (9, []), (13, []), (14, []), (15, []), (16, []), (17, [])]
      [[], [], [], [], [3], [], [], [6], [5, 6, 7], [5, 6, 7, 8], [], [], [10, 11], [10, 11, 12], [0, 1, 5, 6, 7, 8, 9, 10, 11, 12, 13], [0, 1, 5, 6, 7, 8, 9, 10, 11, 12, 13, 14], [0, 1, 2, 3, 4, 5, 6, 7, 8, 9, 10, 11, 12, 13, 14, 15], [0, 1, 2, 3, 4, 5, 6, 7, 8, 9, 10, 11, 12, 13, 14, 15, 16]]
      [0, 1, 2, 3, 9, 10, 12])) [0, 1, 2, 3, 9, 10, 12])
  (.region [⟨some 110, none, .mov (.t 12)⟩,
    ⟨some 111, none, .bin .add (.t 110) (.c (.int .i64 1))⟩,
    ⟨some 12, none, .mov (.t 111)⟩]
    [0, 1, 2, 3, 9, 10, 12])))
def RB.slices_partialInsertionSortCmpFunc_api_Want_2 : RCode :=
  (.seq (.seq (.region [⟨some 68, none, .mov (.t 11)⟩,
    ⟨some 69, none, .bin .geq (.t 68) (.c (.int .i64 1))⟩]
    [0, 1, 2, 3, 9, 10, 11, 69])
  (.cond (.t 69)
    .skip
    (.exit 4)))
  (.seq (.block 5
    (.seq (.seq (.drawn [⟨some 72, none, .mov (.t 3)⟩,
      ⟨some 73, none, .mov (.t 0)⟩,
      ⟨some 74, none, .mov (.t 11)⟩,
      ⟨some 75, none, .idxS 2 (.t 73) (.t 74)⟩,
      ⟨some 76, none, .load true 2 (.t 75)⟩,
      ⟨some 77, none, .mov (.t 0)⟩,
      ⟨some 78, none, .mov (.t 11)⟩,
      ⟨some 79, none, .bin .sub (.t 78) (.c (.int .i64 1))⟩,
      ⟨some 80, none, .idxS 2 (.t 77) (.t 79)⟩,
      ⟨some 81, none, .load true 2 (.t 80)⟩,
      ⟨some 82, none, .callv (.t 72) [.t 76, .t 81]⟩,
      ⟨some 83, none, .bin .lss (.t 82) (.c (.int .i64 0))⟩,
      ⟨some 84, none, .un .not (.t 83)⟩]
      [[], [], [], [1, 2], [3], [], [], [6], [5, 7], [8], [0, 4, 9], [10], [11]]
      [(0, []), (1, []), (2, []), (3, []), (5, []), (6, []), (7, []), (8, []), (4, []), (9, []), (10, []), (11, []), (12, [])]
      [[], [], [], [1, 2], [1, 2, 3], [], [], [6], [5, 6, 7], [5, 6, 7, 8], [0, 1, 2, 3, 4, 5, 6, 7, 8, 9], [0, 1, 2, 3, 4, 5, 6, 7, 8, 9, 10], [0, 1, 2, 3, 4, 5, 6, 7, 8, 9, 10, 11]]
      [0, 1, 2, 3, 9, 10, 11, 84])
    (.cond (.t 84)
      (.exit 4)
      .skip))
    (.drawn [⟨some 85, none, .mov (.t 0)⟩,
      ⟨some 86, none, .mov (.t 11)⟩,
      ⟨some 87, none, .mov (.t 0)⟩,
      ⟨some 88, none, .mov (.t 11)⟩,
      ⟨some 89, none, .bin .sub (.t 88) (.c (.int .i64 1))⟩,
      ⟨some 90, none, .mov (.t 0)⟩,
      ⟨some 91, none, .mov (.t 11)⟩,
      ⟨some 92, none, .bin .sub (.t 91) (.c (.int .i64 1))⟩,
      ⟨some 93, none, .idxS 2 (.t 90) (.t 92)⟩,
      ⟨some 94, none, .load true 2 (.t 93)⟩,
      ⟨some 95, none, .mov (.t 0)⟩,
      ⟨some 96, none, .mov (.t 11)⟩,
      ⟨some 97, none, .idxS 2 (.t 95) (.t 96)⟩,
      ⟨some 98, none, .load true 2 (.t 97)⟩,
      ⟨some 99, none, .idxS 2 (.t 85) (.t 86)⟩,
      ⟨none, none, .store 2 (.t 99) (.t 94)⟩,
      ⟨some 100, none, .idxS 2 (.t 87) (.t 89)⟩,
      ⟨none, none, .store 2 (.t 100) (.t 98)⟩]
      [[], [], [], [], [3], [], [], [6], [5, 7], [8], [], [], [10, 11], [12], [0, 1, 0, 1, 5, 6, 7, 8, 9, 13], [14, 9, 0, 1, 5, 6, 7, 8, 9, 13], [2, 4, 0, 1, 2, 3, 4, 5, 6, 7, 8, 9, 10, 11, 12, 13, 14, 15], [16, 13, 15, 0, 1, 2, 3, 4, 5, 6, 7, 8, 9, 10, 11, 12, 13, 14, 15]]
      [(0, []), (1, []), (2, []), (3, []), (4, []), (5, []), (6, []), (7, []), (8, []), (10, []), (11, []), (12, []), (9, []), (13, []), (14, []), (15, []), (16, []), (17, [])]
      [[], [], [], [], [3], [], [], [6], [5, 6, 7], [5, 6, 7, 8], [], [], [10, 11], [10, 11, 12], [0, 1, 5, 6, 7, 8, 9, 10, 11, 12, 13], [0, 1, 5, 6, 7, 8, 9, 10, 11, 12, 13, 14], [0, 1, 2, 3, 4, 5, 6, 7, 8, 9, 10, 11, 12, 13, 14, 15], [0, 1, 2, 3, 4, 5, 6, 7, 8, 9, 10, 11, 12, 13, 14, 15, 16]]
      [0, 1, 2, 3, 9, 10, 11])) [0, 1, 2, 3, 9, 10, 11])
  (.region [⟨some 70, none, .mov (.t 11)⟩,
    ⟨some 71, none, .bin .sub (.t 70) (.c (.int .i64 1))⟩,
    ⟨some 11, none, .mov (.t 71)⟩]
    [0, 1, 2, 3, 9, 10, 11])))
def RB.slices_partialInsertionSortCmpFunc_api_Want_3 : RCode :=
  (.seq (.seq (.drawn [⟨some 19, none, .mov (.t 9)⟩,
    ⟨some 20, none, .mov (.t 2)⟩,
    ⟨some 21, none, .bin .lss (.t 19) (.t 20)⟩,
    ⟨some 22, none, .mov (.t 21)⟩,
    ⟨some 23, some (22, true), .mov (.t 3)⟩,
    ⟨some 24, some (22, true), .mov (.t 0)⟩,
    ⟨some 25, some (22, true), .mov (.t 9)⟩,
    ⟨some 26, some (22, true), .idxS 2 (.t 24) (.t 25)⟩,
    ⟨some 27, some (22, true), .load true 2 (.t 26)⟩,
    ⟨some 28, some (22, true), .mov (.t 0)⟩,
    ⟨some 29, some (22, true), .mov (.t 9)⟩,
    ⟨some 30, some (22, true), .bin .sub (.t 29) (.c (.int .i64 1))⟩,
    ⟨some 31, some (22, true), .idxS 2 (.t 28) (.t 30)⟩,
    ⟨some 32, some (22, true), .load true 2 (.t 31)⟩,
    ⟨some 33, some (22, true), .callv (.t 23) [.t 27, .t 32]⟩,
    ⟨some 34, some (22, true), .bin .lss (.t 33) (.c (.int .i64 0))⟩,
    ⟨some 35, some (22, true), .un .not (.t 34)⟩,
    ⟨some 36, none, .pick (.t 22) (.t 35) (.c (.bool false))⟩]
    [[], [], [0, 1], [2], [3], [3], [3], [5, 6, 3], [7, 3], [3], [3], [10, 3], [9, 11, 3], [12, 3], [4, 8, 13, 3, 3], [14, 3], [15, 3], [3, 16]]
    [(0, []), (1, []), (2, []), (3, []), (4, []), (5, []), (6, []), (7, []), (9, []), (10, []), (11, []), (12, []), (8, []), (13, []), (14, []), (15, []), (16, []), (17, [])]
    [[], [], [0, 1], [0, 1, 2], [0, 1, 2, 3], [0, 1, 2, 3], [0, 1, 2, 3], [0, 1, 2, 3, 5, 6], [0, 1, 2, 3, 5, 6, 7], [0, 1, 2, 3], [0, 1, 2, 3], [0, 1, 2, 3, 10], [0, 1, 2, 3, 9, 10, 11], [0, 1, 2, 3, 9, 10, 11, 12], [0, 1, 2, 3, 4, 5, 6, 7, 8, 9, 10, 11, 12, 13], [0, 1, 2, 3, 4, 5, 6, 7, 8, 9, 10, 11, 12, 13, 14], [0, 1, 2, 3, 4, 5, 6, 7, 8, 9, 10, 11, 12, 13, 14, 15], [0, 1, 2, 3, 4, 5, 6, 7, 8, 9, 10, 11, 12, 13, 14, 15, 16]]
    [0, 1, 2, 3, 9, 10, 36])
  (.cond (.t 36)
    .skip
    (.exit 2)))
  (.block 3
    (.region [⟨some 37, none, .mov (.t 9)⟩,
      ⟨some 38, none, .bin .add (.t 37) (.c (.int .i64 1))⟩,
      ⟨some 9, none, .mov (.t 38)⟩]
      [0, 1, 2, 3, 9, 10]) [0, 1, 2, 3, 9, 10]))
def RB.slices_partialInsertionSortCmpFunc_api_Want_4 : RCode :=
  (.seq (.seq (.region [⟨some 15, none, .mov (.t 10)⟩,
    ⟨some 16, none, .bin .lss (.t 15) (.c (.int .i64 5))⟩]
    [0, 1, 2, 3, 9, 10, 16])
  (.cond (.t 16)
    .skip
    (.exit 0)))
  (.seq (.block 1
    (.seq (.block 2
      (.loop [0, 1, 2, 3, 9, 10] RB.slices_partialInsertionSortCmpFunc_api_Want_3) [0, 1, 2, 3, 9, 10])
    (.seq (.seq (.region [⟨some 39, none, .mov (.t 9)⟩,
      ⟨some 40, none, .mov (.t 2)⟩,
      ⟨some 41, none, .bin .eql (.t 39) (.t 40)⟩]
      [0, 1, 2, 3, 9, 10, 41])
    (.cond (.t 41)
      (.seq (.region [⟨some 8, none, .mov (.c (.bool true))⟩]
        [8])
      .ret)
      .skip))
    (.seq (.seq (.region [⟨some 42, none, .mov (.t 2)⟩,
      ⟨some 43, none, .mov (.t 1)⟩,
      ⟨some 44, none, .bin .sub (.t 42) (.t 43)⟩,
      ⟨some 45, none, .bin .lss (.t 44) (.c (.int .i64 50))⟩]
      [0, 1, 2, 3, 9, 10, 45])
    (.cond (.t 45)
      (.seq (.region [⟨some 8, none, .mov (.c (.bool false))⟩]
        [8])
      .ret)
      .skip))
    (.seq (.drawn [⟨some 46, none, .mov (.t 0)⟩,
      ⟨some 47, none, .mov (.t 9)⟩,
      ⟨some 48, none, .mov (.t 0)⟩,
      ⟨some 49, none, .mov (.t 9)⟩,
      ⟨some 50, none, .bin .sub (.t 49) (.c (.int .i64 1))⟩,
      ⟨some 51, none, .mov (.t 0)⟩,
      ⟨some 52, none, .mov (.t 9)⟩,
      ⟨some 53, none, .bin .sub (.t 52) (.c (.int .i64 1))⟩,
      ⟨some 54, none, .idxS 2 (.t 51) (.t 53)⟩,
      ⟨some 55, none, .load true 2 (.t 54)⟩,
      ⟨some 56, none, .mov (.t 0)⟩,
      ⟨some 57, none, .mov (.t 9)⟩,
      ⟨some 58, none, .idxS 2 (.t 56) (.t 57)⟩,
      ⟨some 59, none, .load true 2 (.t 58)⟩,
      ⟨some 60, none, .idxS 2 (.t 46) (.t 47)⟩,
      ⟨none, none, .store 2 (.t 60) (.t 55)⟩,
      ⟨some 61, none, .idxS 2 (.t 48) (.t 50)⟩,
      ⟨none, none, .store 2 (.t 61) (.t 59)⟩]
      [[], [], [], [], [3], [], [], [6], [5, 7], [8], [], [], [10, 11], [12], [0, 1, 0, 1, 5, 6, 7, 8, 9, 13], [14, 9, 0, 1, 5, 6, 7, 8, 9, 13], [2, 4, 0, 1, 2, 3, 4, 5, 6, 7, 8, 9, 10, 11, 12, 13, 14, 15], [16, 13, 15, 0, 1, 2, 3, 4, 5, 6, 7, 8, 9, 10, 11, 12, 13, 14, 15]]
      [(0, []), (1, []), (2, []), (3, []), (4, []), (5, []), (6, []), (7, []), (8, []), (10, []), (11, []), (12, []), (9, []), (13, []), (14, []), (15, []), (16, []), (17, [])]
      [[], [], [], [], [3], [], [], [6], [5, 6, 7], [5, 6, 7, 8], [], [], [10, 11], [10, 11, 12], [0, 1, 5, 6, 7, 8, 9, 10, 11, 12, 13], [0, 1, 5, 6, 7, 8, 9, 10, 11, 12, 13, 14], [0, 1, 2, 3, 4, 5, 6, 7, 8, 9, 10, 11, 12, 13, 14, 15], [0, 1, 2, 3, 4, 5, 6, 7, 8, 9, 10, 11, 12, 13, 14, 15, 16]]
      [0, 1, 2, 3, 9, 10])
    (.seq (.seq (.region [⟨some 62, none, .mov (.t 9)⟩,
      ⟨some 63, none, .mov (.t 1)⟩,
      ⟨some 64, none, .bin .sub (.t 62) (.t 63)⟩,
      ⟨some 65, none, .bin .geq (.t 64) (.c (.int .i64 2))⟩]
      [0, 1, 2, 3, 9, 10, 65])
    (.cond (.t 65)
      (.seq (.region [⟨some 66, none, .mov (.t 9)⟩,
        ⟨some 67, none, .bin .sub (.t 66) (.c (.int .i64 1))⟩,
        ⟨some 11, none, .mov (.t 67)⟩]
        [0, 1, 2, 3, 9, 10, 11])
      (.block 4
        (.loop [0, 1, 2, 3, 9, 10, 11] RB.slices_partialInsertionSortCmpFunc_api_Want_2) [0, 1, 2, 3, 9, 10]))
      .skip))
    (.seq (.region [⟨some 101, none, .mov (.t 2)⟩,
      ⟨some 102, none, .mov (.t 9)⟩,
      ⟨some 103, none, .bin .sub (.t 101) (.t 102)⟩,
      ⟨some 104, none, .bin .geq (.t 103) (.c (.int .i64 2))⟩]
      [0, 1, 2, 3, 9, 10, 104])
    (.cond (.t 104)
      (.seq (.region [⟨some 105, none, .mov (.t 9)⟩,
        ⟨some 106, none, .bin .add (.t 105) (.c (.int .i64 1))⟩,
        ⟨some 12, none, .mov (.t 106)⟩]
        [0, 1, 2, 3, 9, 10, 12])
      (.block 6
        (.loop [0, 1, 2, 3, 9, 10, 12] RB.slices_partialInsertionSortCmpFunc_api_Want_1) [0, 1, 2, 3, 9, 10]))
      .skip))))))) [0, 1, 2, 3, 9, 10])
  (.region [⟨some 17, none, .mov (.t 10)⟩,
    ⟨some 18, none, .bin .add (.t 17) (.c (.int .i64 1))⟩,
    ⟨some 10, none, .mov (.t 18)⟩]
    [0, 1, 2, 3, 9, 10])))
def RC.slices_partialInsertionSortCmpFunc_api_Want : RFn := ⟨4, [.slot 8],
  (.seq (.region [⟨some 8, none, .mov (.c (.bool false))⟩]
    [0, 1, 2, 3])
  (.seq (.region [⟨some 13, none, .mov (.t 1)⟩,
    ⟨some 14, none, .bin .add (.t 13) (.c (.int .i64 1))⟩,
    ⟨some 9, none, .mov (.t 14)⟩]
    [0, 1, 2, 3, 9])
  (.seq (.seq (.region [⟨some 10, none, .mov (.c (.int .i64 0))⟩]
    [0, 1, 2, 3, 9, 10])
  (.block 0
    (.loop [0, 1, 2, 3, 9, 10] RB.slices_partialInsertionSortCmpFunc_api_Want_4) []))
  (.seq (.region [⟨some 8, none, .mov (.c (.bool false))⟩]
    [8])
  .ret))))⟩

def RB.slices_partitionEqualCmpFunc_api_Want_1 : RCode :=
  (.seq (.seq (.drawn [⟨some 50, none, .mov (.t 11)⟩,
    ⟨some 51, none, .mov (.t 12)⟩,
    ⟨some 52, none, .bin .leq (.t 50) (.t 51)⟩,
    ⟨some 53, none, .mov (.t 52)⟩,
    ⟨some 54, some (53, true), .mov (.t 4)⟩,
    ⟨some 55, some (53, true), .mov (.t 0)⟩,
    ⟨some 56, some (53, true), .mov (.t 1)⟩,
    ⟨some 57, some (53, true), .idxS 2 (.t 55) (.t 56)⟩,
    ⟨some 58, some (53, true), .load true 2 (.t 57)⟩,
    ⟨some 59, some (53, true), .mov (.t 0)⟩,
    ⟨some 60, some (53, true), .mov (.t 12)⟩,
    ⟨some 61, some (53, true), .idxS 2 (.t 59) (.t 60)⟩,
    ⟨some 62, some (53, true), .load true 2 (.t 61)⟩,
    ⟨some 63, some (53, true), .callv (.t 54) [.t 58, .t 62]⟩,
    ⟨some 64, some (53, true), .bin .lss (.t 63) (.c (.int .i64 0))⟩,
    ⟨some 65, none, .pick (.t 53) (.t 64) (.c (.bool false))⟩]
    [[], [], [0, 1], [2], [3], [3], [3], [5, 6, 3], [7, 3], [3], [3], [9, 10, 3], [11, 3], [4, 8, 12, 3, 3], [13, 3], [3, 14]]
    [(0, []), (1, []), (2, []), (3, []), (4, []), (5, []), (6, []), (7, []), (9, []), (10, []), (11, []), (8, []), (12, []), (13, []), (14, []), (15, [])]
    [[], [], [0, 1], [0, 1, 2], [0, 1, 2, 3], [0, 1, 2, 3], [0, 1, 2, 3], [0, 1, 2, 3, 5, 6], [0, 1, 2, 3, 5, 6, 7], [0, 1, 2, 3], [0, 1, 2, 3], [0, 1, 2, 3, 9, 10], [0, 1, 2, 3, 9, 10, 11], [0, 1, 2, 3, 4, 5, 6, 7, 8, 9, 10, 11, 12], [0, 1, 2, 3, 4, 5, 6, 7, 8, 9, 10, 11, 12, 13], [0, 1, 2, 3, 4, 5, 6, 7, 8, 9, 10, 11, 12, 13, 14]]
    [0, 1, 4, 11, 12, 65])
  (.cond (.t 65)
    .skip
    (.exit 4)))
  (.block 5
    (.region [⟨some 66, none, .mov (.t 12)⟩,
      ⟨some 67, none, .bin .sub (.t 66) (.c (.int .i64 1))⟩,
      ⟨some 12, none, .mov (.t 67)⟩]
      [0, 1, 4, 11, 12]) [0, 1, 4, 11, 12]))
def RB.slices_partitionEqualCmpFunc_api_Want_2 : RCode :=
  (.seq (.seq (.drawn [⟨some 31, none, .mov (.t 11)⟩,
    ⟨some 32, none, .mov (.t 12)⟩,
    ⟨some 33, none, .bin .leq (.t 31) (.t 32)⟩,
    ⟨some 34, none, .mov (.t 33)⟩,
    ⟨some 35, some (34, true), .mov (.t 4)⟩,
    ⟨some 36, some (34, true), .mov (.t 0)⟩,
    ⟨some 37, some (34, true), .mov (.t 1)⟩,
    ⟨some 38, some (34, true), .idxS 2 (.t 36) (.t 37)⟩,
    ⟨some 39, some (34, true), .load true 2 (.t 38)⟩,
    ⟨some 40, some (34, true), .mov (.t 0)⟩,
    ⟨some 41, some (34, true), .mov (.t 11)⟩,
    ⟨some 42, some (34, true), .idxS 2 (.t 40) (.t 41)⟩,
    ⟨some 43, some (34, true), .load true 2 (.t 42)⟩,
    ⟨some 44, some (34, true), .callv (.t 35) [.t 39, .t 43]⟩,
    ⟨some 45, some (34, true), .bin .lss (.t 44) (.c (.int .i64 0))⟩,
    ⟨some 46, some (34, true), .un .not (.t 45)⟩,
    ⟨some 47, none, .pick (.t 34) (.t 46) (.c (.bool false))⟩]
    [[], [], [0, 1], [2], [3], [3], [3], [5, 6, 3], [7, 3], [3], [3], [9, 10, 3], [11, 3], [4, 8, 12, 3, 3], [13, 3], [14, 3], [3, 15]]
    [(0, []), (1, []), (2, []), (3, []), (4, []), (5, []), (6, []), (7, []), (9, []), (10, []), (11, []), (8, []), (12, []), (13, []), (14, []), (15, []), (16, [])]
    [[], [], [0, 1], [0, 1, 2], [0, 1, 2, 3], [0, 1, 2, 3], [0, 1, 2, 3], [0, 1, 2, 3, 5, 6], [0, 1, 2, 3, 5, 6, 7], [0, 1, 2, 3], [0, 1, 2, 3], [0, 1, 2, 3, 9, 10], [0, 1, 2, 3, 9, 10, 11], [0, 1, 2, 3, 4, 5, 6, 7, 8, 9, 10, 11, 12], [0, 1, 2, 3, 4, 5, 6, 7, 8, 9, 10, 11, 12, 13], [0, 1, 2, 3, 4, 5, 6, 7, 8, 9, 10, 11, 12, 13, 14], [0, 1, 2, 3, 4, 5, 6, 7, 8, 9, 10, 11, 12, 13, 14, 15]]
    [0, 1, 4, 11, 12, 47])
  (.cond (.t 47)
    .skip
    (.exit 2)))
  (.block 3
    (.region [⟨some 48, none, .mov (.t 11)⟩,
      ⟨some 49, none, .bin .add (.t 48) (.c (.int .i64 1))⟩,
      ⟨some 11, none, .mov (.t 49)⟩]
      [0, 1, 4, 11, 12]) [0, 1, 4, 11, 12]))
def RB.slices_partitionEqualCmpFunc_api_Want_3 : RCode :=
  (.block 1
    (.seq (.block 2
      (.loop [0, 1, 4, 11, 12] RB.slices_partitionEqualCmpFunc_api_Want_2) [0, 1, 4, 11, 12])
    (.seq (.block 4
      (.loop [0, 1, 4, 11, 12] RB.slices_partitionEqualCmpFunc_api_Want_1) [0, 1, 4, 11, 12])
    (.seq (.seq (.region [⟨some 68, none, .mov (.t 11)⟩,
      ⟨some 69, none, .mov (.t 12)⟩,
      ⟨some 70, none, .bin .gtr (.t 68) (.t 69)⟩]
      [0, 1, 4, 11, 12, 70])
    (.cond (.t 70)
      (.exit 0)
      .skip))
    (.seq (.drawn [⟨some 71, none, .mov (.t 0)⟩,
      ⟨some 72, none, .mov (.t 11)⟩,
      ⟨some 73, none, .mov (.t 0)⟩,
      ⟨some 74, none, .mov (.t 12)⟩,
      ⟨some 75, none, .mov (.t 0)⟩,
      ⟨some 76, none, .mov (.t 12)⟩,
      ⟨some 77, none, .idxS 2 (.t 75) (.t 76)⟩,
      ⟨some 78, none, .load true 2 (.t 77)⟩,
      ⟨some 79, none, .mov (.t 0)⟩,
      ⟨some 80, none, .mov (.t 11)⟩,
      ⟨some 81, none, .idxS 2 (.t 79) (.t 80)⟩,
      ⟨some 82, none, .load true 2 (.t 81)⟩,
      ⟨some 83, none, .idxS 2 (.t 71) (.t 72)⟩,
      ⟨none, none, .store 2 (.t 83) (.t 78)⟩,
      ⟨some 84, none, .idxS 2 (.t 73) (.t 74)⟩,
      ⟨none, none, .store 2 (.t 84) (.t 82)⟩]
      [[], [], [], [], [], [], [4, 5], [6], [], [], [8, 9], [10], [0, 1, 0, 1, 4, 5, 6, 7, 11], [12, 7, 0, 1, 4, 5, 6, 7, 11], [2, 3, 0, 1, 2, 3, 4, 5, 6, 7, 8, 9, 10, 11, 12, 13], [14, 11, 13, 0, 1, 2, 3, 4, 5, 6, 7, 8, 9, 10, 11, 12, 13]]
      [(0, []), (1, []), (2, []), (3, []), (4, []), (5, []), (6, []), (8, []), (9, []), (10, []), (7, []), (11, []), (12, []), (13, []), (14, []), (15, [])]
      [[], [], [], [], [], [], [4, 5], [4, 5, 6], [], [], [8, 9], [8, 9, 10], [0, 1, 4, 5, 6, 7, 8, 9, 10, 11], [0, 1, 4, 5, 6, 7, 8, 9, 10, 11, 12], [0, 1, 2, 3, 4, 5, 6, 7, 8, 9, 10, 11, 12, 13], [0, 1, 2, 3, 4, 5, 6, 7, 8, 9, 10, 11, 12, 13, 14]]
      [0, 1, 4, 11, 12])
    (.seq (.region [⟨some 85, none, .mov (.t 11)⟩,
      ⟨some 86, none, .bin .add (.t 85) (.c (.int .i64 1))⟩,
      ⟨some 11, none, .mov (.t 86)⟩]
      [0, 1, 4, 11, 12])
    (.region [⟨some 87, none, .mov (.t 12)⟩,
      ⟨some 88, none, .bin .sub (.t 87) (.c (.int .i64 1))⟩,
      ⟨some 12, none, .mov (.t 88)⟩]
      [0, 1, 4, 11, 12])))))) [0, 1, 4, 11, 12])
def RC.slices_partitionEqualCmpFunc_api_Want : RFn := ⟨5, [.slot 10],
  (.seq (.region [⟨some 10, none, .mov (.c (.int .i64 0))⟩]
    [0, 1, 2, 3, 4])
  (.seq (.drawn [⟨some 13, none, .mov (.t 0)⟩,
    ⟨some 14, none, .mov (.t 1)⟩,
    ⟨some 15, none, .mov (.t 0)⟩,
    ⟨some 16, none, .mov (.t 3)⟩,
    ⟨some 17, none, .mov (.t 0)⟩,
    ⟨some 18, none, .mov (.t 3)⟩,
    ⟨some 19, none, .idxS 2 (.t 17) (.t 18)⟩,
    ⟨some 20, none, .load true 2 (.t 19)⟩,
    ⟨some 21, none, .mov (.t 0)⟩,
    ⟨some 22, none, .mov (.t 1)⟩,
    ⟨some 23, none, .idxS 2 (.t 21) (.t 22)⟩,
    ⟨some 24, none, .load true 2 (.t 23)⟩,
    ⟨some 25, none, .idxS 2 (.t 13) (.t 14)⟩,
    ⟨none, none, .store 2 (.t 25) (.t 20)⟩,
    ⟨some 26, none, .idxS 2 (.t 15) (.t 16)⟩,
    ⟨none, none, .store 2 (.t 26) (.t 24)⟩]
    [[], [], [], [], [], [], [4, 5], [6], [], [], [8, 9], [10], [0, 1, 0, 1, 4, 5, 6, 7, 11], [12, 7, 0, 1, 4, 5, 6, 7, 11], [2, 3, 0, 1, 2, 3, 4, 5, 6, 7, 8, 9, 10, 11, 12, 13], [14, 11, 13, 0, 1, 2, 3, 4, 5, 6, 7, 8, 9, 10, 11, 12, 13]]
    [(0, []), (1, []), (2, []), (3, []), (4, []), (5, []), (6, []), (8, []), (9, []), (10, []), (7, []), (11, []), (12, []), (13, []), (14, []), (15, [])]
    [[], [], [], [], [], [], [4, 5], [4, 5, 6], [], [], [8, 9], [8, 9, 10], [0, 1, 4, 5, 6, 7, 8, 9, 10, 11], [0, 1, 4, 5, 6, 7, 8, 9, 10, 11, 12], [0, 1, 2, 3, 4, 5, 6, 7, 8, 9, 10, 11, 12, 13], [0, 1, 2, 3, 4, 5, 6, 7, 8, 9, 10, 11, 12, 13, 14]]
    [0, 1, 2, 4])
  (.seq (.region [⟨some 27, none, .mov (.t 1)⟩,
    ⟨some 28, none, .bin .add (.t 27) (.c (.int .i64 1))⟩,
    ⟨some 29, none, .mov (.t 2)⟩,
    ⟨some 30, none, .bin .sub (.t 29) (.c (.int .i64 1))⟩,
    ⟨some 11, none, .mov (.t 28)⟩,
    ⟨some 12, none, .mov (.t 30)⟩]
    [0, 1, 4, 11, 12])
  (.seq (.block 0
    (.loop [0, 1, 4, 11, 12] RB.slices_partitionEqualCmpFunc_api_Want_3) [11])
  (.seq (.region [⟨some 89, none, .mov (.t 11)⟩,
    ⟨some 10, none, .mov (.t 89)⟩]
    [10])
  .ret)))))⟩

def RB.slices_partitionCmpFunc_api_Want_1 : RCode :=
  (.seq (.seq (.drawn [⟨some 123, none, .mov (.t 12)⟩,
    ⟨some 124, none, .mov (.t 13)⟩,
    ⟨some 125, none, .bin .leq (.t 123) (.t 124)⟩,
    ⟨some 126, none, .mov (.t 125)⟩,
    ⟨some 127, some (126, true), .mov (.t 4)⟩,
    ⟨some 128, some (126, true), .mov (.t 0)⟩,
    ⟨some 129, some (126, true), .mov (.t 13)⟩,
    ⟨some 130, some (126, true), .idxS 2 (.t 128) (.t 129)⟩,
    ⟨some 131, some (126, true), .load true 2 (.t 130)⟩,
    ⟨some 132, some (126, true), .mov (.t 0)⟩,
    ⟨some 133, some (126, true), .mov (.t 1)⟩,
    ⟨some 134, some (126, true), .idxS 2 (.t 132) (.t 133)⟩,
    ⟨some 135, some (126, true), .load true 2 (.t 134)⟩,
    ⟨some 136, some (126, true), .callv (.t 127) [.t 131, .t 135]⟩,
    ⟨some 137, some (126, true), .bin .lss (.t 136) (.c (.int .i64 0))⟩,
    ⟨some 138, some (126, true), .un .not (.t 137)⟩,
    ⟨some 139, none, .pick (.t 126) (.t 138) (.c (.bool false))⟩]
    [[], [], [0, 1], [2], [3], [3], [3], [5, 6, 3], [7, 3], [3], [3], [9, 10, 3], [11, 3], [4, 8, 12, 3, 3], [13, 3], [14, 3], [3, 15]]
    [(0, []), (1, []), (2, []), (3, []), (4, []), (5, []), (6, []), (7, []), (9, []), (10, []), (11, []), (8, []), (12, []), (13, []), (14, []), (15, []), (16, [])]
    [[], [], [0, 1], [0, 1, 2], [0, 1, 2, 3], [0, 1, 2, 3], [0, 1, 2, 3], [0, 1, 2, 3, 5, 6], [0, 1, 2, 3, 5, 6, 7], [0, 1, 2, 3], [0, 1, 2, 3], [0, 1, 2, 3, 9, 10], [0, 1, 2, 3, 9, 10, 11], [0, 1, 2, 3, 4, 5, 6, 7, 8, 9, 10, 11, 12], [0, 1, 2, 3, 4, 5, 6, 7, 8, 9, 10, 11, 12, 13], [0, 1, 2, 3, 4, 5, 6, 7, 8, 9, 10, 11, 12, 13, 14], [0, 1, 2, 3, 4, 5, 6, 7, 8, 9, 10, 11, 12, 13, 14, 15]]
    [0, 1, 4, 12, 13, 139])
  (.cond (.t 139)
    .skip
    (.exit 8)))
  (.block 9
    (.region [⟨some 140, none, .mov (.t 13)⟩,
      ⟨some 141, none, .bin .sub (.t 140) (.c (.int .i64 1))⟩,
      ⟨some 13, none, .mov (.t 141)⟩]
      [0, 1, 4, 12, 13]) [0, 1, 4, 12, 13]))
def RB.slices_partitionCmpFunc_api_Want_2 : RCode :=
  (.seq (.seq (.drawn [⟨some 105, none, .mov (.t 12)⟩,
    ⟨some 106, none, .mov (.t 13)⟩,
    ⟨some 107, none, .bin .leq (.t 105) (.t 106)⟩,
    ⟨some 108, none, .mov (.t 107)⟩,
    ⟨some 109, some (108, true), .mov (.t 4)⟩,
    ⟨some 110, some (108, true), .mov (.t 0)⟩,
    ⟨some 111, some (108, true), .mov (.t 12)⟩,
    ⟨some 112, some (108, true), .idxS 2 (.t 110) (.t 111)⟩,
    ⟨some 113, some (108, true), .load true 2 (.t 112)⟩,
    ⟨some 114, some (108, true), .mov (.t 0)⟩,
    ⟨some 115, some (108, true), .mov (.t 1)⟩,
    ⟨some 116, some (108, true), .idxS 2 (.t 114) (.t 115)⟩,
    ⟨some 117, some (108, true), .load true 2 (.t 116)⟩,
    ⟨some 118, some (108, true), .callv (.t 109) [.t 113, .t 117]⟩,
    ⟨some 119, some (108, true), .bin .lss (.t 118) (.c (.int .i64 0))⟩,
    ⟨some 120, none, .pick (.t 108) (.t 119) (.c (.bool false))⟩]
    [[], [], [0, 1], [2], [3], [3], [3], [5, 6, 3], [7, 3], [3], [3], [9, 10, 3], [11, 3], [4, 8, 12, 3, 3], [13, 3], [3, 14]]
    [(0, []), (1, []), (2, []), (3, []), (4, []), (5, []), (6, []), (7, []), (9, []), (10, []), (11, []), (8, []), (12, []), (13, []), (14, []), (15, [])]
    [[], [], [0, 1], [0, 1, 2], [0, 1, 2, 3], [0, 1, 2, 3], [0, 1, 2, 3], [0, 1, 2, 3, 5, 6], [0, 1, 2, 3, 5, 6, 7], [0, 1, 2, 3], [0, 1, 2, 3], [0, 1, 2, 3, 9, 10], [0, 1, 2, 3, 9, 10, 11], [0, 1, 2, 3, 4, 5, 6, 7, 8, 9, 10, 11, 12], [0, 1, 2, 3, 4, 5, 6, 7, 8, 9, 10, 11, 12, 13], [0, 1, 2, 3, 4, 5, 6, 7, 8, 9, 10, 11, 12, 13, 14]]
    [0, 1, 4, 12, 13, 120])
  (.cond (.t 120)
    .skip
    (.exit 6)))
  (.block 7
    (.region [⟨some 121, none, .mov (.t 12)⟩,
      ⟨some 122, none, .bin .add (.t 121) (.c (.int .i64 1))⟩,
      ⟨some 12, none, .mov (.t 122)⟩]
      [0, 1, 4, 12, 13]) [0, 1, 4, 12, 13]))
def RB.slices_partitionCmpFunc_api_Want_3 : RCode :=
  (.block 5
    (.seq (.block 6
      (.loop [0, 1, 4, 12, 13] RB.slices_partitionCmpFunc_api_Want_2) [0, 1, 4, 12, 13])
    (.seq (.block 8
      (.loop [0, 1, 4, 12, 13] RB.slices_partitionCmpFunc_api_Want_1) [0, 1, 4, 12, 13])
    (.seq (.seq (.region [⟨some 142, none, .mov (.t 12)⟩,
      ⟨some 143, none, .mov (.t 13)⟩,
      ⟨some 144, none, .bin .gtr (.t 142) (.t 143)⟩]
      [0, 1, 4, 12, 13, 144])
    (.cond (.t 144)
      (.exit 4)
      .skip))
    (.seq (.drawn [⟨some 145, none, .mov (.t 0)⟩,
      ⟨some 146, none, .mov (.t 12)⟩,
      ⟨some 147, none, .mov (.t 0)⟩,
      ⟨some 148, none, .mov (.t 13)⟩,
      ⟨some 149, none, .mov (.t 0)⟩,
      ⟨some 150, none, .mov (.t 13)⟩,
      ⟨some 151, none, .idxS 2 (.t 149) (.t 150)⟩,
      ⟨some 152, none, .load true 2 (.t 151)⟩,
      ⟨some 153, none, .mov (.t 0)⟩,
      ⟨some 154, none, .mov (.t 12)⟩,
      ⟨some 155, none, .idxS 2 (.t 153) (.t 154)⟩,
      ⟨some 156, none, .load true 2 (.t 155)⟩,
      ⟨some 157, none, .idxS 2 (.t 145) (.t 146)⟩,
      ⟨none, none, .store 2 (.t 157) (.t 152)⟩,
      ⟨some 158, none, .idxS 2 (.t 147) (.t 148)⟩,
      ⟨none, none, .store 2 (.t 158) (.t 156)⟩]
      [[], [], [], [], [], [], [4, 5], [6], [], [], [8, 9], [10], [0, 1, 0, 1, 4, 5, 6, 7, 11], [12, 7, 0, 1, 4, 5, 6, 7, 11], [2, 3, 0, 1, 2, 3, 4, 5, 6, 7, 8, 9, 10, 11, 12, 13], [14, 11, 13, 0, 1, 2, 3, 4, 5, 6, 7, 8, 9, 10, 11, 12, 13]]
      [(0, []), (1, []), (2, []), (3, []), (4, []), (5, []), (6, []), (8, []), (9, []), (10, []), (7, []), (11, []), (12, []), (13, []), (14, []), (15, [])]
      [[], [], [], [], [], [], [4, 5], [4, 5, 6], [], [], [8, 9], [8, 9, 10], [0, 1, 4, 5, 6, 7, 8, 9, 10, 11], [0, 1, 4, 5, 6, 7, 8, 9, 10, 11, 12], [0, 1, 2, 3, 4, 5, 6, 7, 8, 9, 10, 11, 12, 13], [0, 1, 2, 3, 4, 5, 6, 7, 8, 9, 10, 11, 12, 13, 14]]
      [0, 1, 4, 12, 13])
    (.seq (.region [⟨some 159, none, .mov (.t 12)⟩,
      ⟨some 160, none, .bin .add (.t 159) (.c (.int .i64 1))⟩,
      ⟨some 12, none, .mov (.t 160)⟩]
      [0, 1, 4, 12, 13])
    (.region [⟨some 161, none, .mov (.t 13)⟩,
      ⟨some 162, none, .bin .sub (.t 161) (.c (.int .i64 1))⟩,
      ⟨some 13, none, .mov (.t 162)⟩]
      [0, 1, 4, 12, 13])))))) [0, 1, 4, 12, 13])
def RB.slices_partitionCmpFunc_api_Want_4 : RCode :=
  (.seq (.seq (.drawn [⟨some 50, none, .mov (.t 12)⟩,
    ⟨some 51, none, .mov (.t 13)⟩,
    ⟨some 52, none, .bin .leq (.t 50) (.t 51)⟩,
    ⟨some 53, none, .mov (.t 52)⟩,
    ⟨some 54, some (53, true), .mov (.t 4)⟩,
    ⟨some 55, some (53, true), .mov (.t 0)⟩,
    ⟨some 56, some (53, true), .mov (.t 13)⟩,
    ⟨some 57, some (53, true), .idxS 2 (.t 55) (.t 56)⟩,
    ⟨some 58, some (53, true), .load true 2 (.t 57)⟩,
    ⟨some 59, some (53, true), .mov (.t 0)⟩,
    ⟨some 60, some (53, true), .mov (.t 1)⟩,
    ⟨some 61, some (53, true), .idxS 2 (.t 59) (.t 60)⟩,
    ⟨some 62, some (53, true), .load true 2 (.t 61)⟩,
    ⟨some 63, some (53, true), .callv (.t 54) [.t 58, .t 62]⟩,
    ⟨some 64, some (53, true), .bin .lss (.t 63) (.c (.int .i64 0))⟩,
    ⟨some 65, some (53, true), .un .not (.t 64)⟩,
    ⟨some 66, none, .pick (.t 53) (.t 65) (.c (.bool false))⟩]
    [[], [], [0, 1], [2], [3], [3], [3], [5, 6, 3], [7, 3], [3], [3], [9, 10, 3], [11, 3], [4, 8, 12, 3, 3], [13, 3], [14, 3], [3, 15]]
    [(0, []), (1, []), (2, []), (3, []), (4, []), (5, []), (6, []), (7, []), (9, []), (10, []), (11, []), (8, []), (12, []), (13, []), (14, []), (15, []), (16, [])]
    [[], [], [0, 1], [0, 1, 2], [0, 1, 2, 3], [0, 1, 2, 3], [0, 1, 2, 3], [0, 1, 2, 3, 5, 6], [0, 1, 2, 3, 5, 6, 7], [0, 1, 2, 3], [0, 1, 2, 3], [0, 1, 2, 3, 9, 10], [0, 1, 2, 3, 9, 10, 11], [0, 1, 2, 3, 4, 5, 6, 7, 8, 9, 10, 11, 12], [0, 1, 2, 3, 4, 5, 6, 7, 8, 9, 10, 11, 12, 13], [0, 1, 2, 3, 4, 5, 6, 7, 8, 9, 10, 11, 12, 13, 14], [0, 1, 2, 3, 4, 5, 6, 7, 8, 9, 10, 11, 12, 13, 14, 15]]
    [0, 1, 4, 12, 13, 66])
  (.cond (.t 66)
    .skip
    (.exit 2)))
  (.block 3
    (.region [⟨some 67, none, .mov (.t 13)⟩,
      ⟨some 68, none, .bin .sub (.t 67) (.c (.int .i64 1))⟩,
      ⟨some 13, none, .mov (.t 68)⟩]
      [0, 1, 4, 12, 13]) [0, 1, 4, 12, 13]))
def RB.slices_partitionCmpFunc_api_Want_5 : RCode :=
  (.seq (.seq (.drawn [⟨some 32, none, .mov (.t 12)⟩,
    ⟨some 33, none, .mov (.t 13)⟩,
    ⟨some 34, none, .bin .leq (.t 32) (.t 33)⟩,
    ⟨some 35, none, .mov (.t 34)⟩,
    ⟨some 36, some (35, true), .mov (.t 4)⟩,
    ⟨some 37, some (35, true), .mov (.t 0)⟩,
    ⟨some 38, some (35, true), .mov (.t 12)⟩,
    ⟨some 39, some (35, true), .idxS 2 (.t 37) (.t 38)⟩,
    ⟨some 40, some (35, true), .load true 2 (.t 39)⟩,
    ⟨some 41, some (35, true), .mov (.t 0)⟩,
    ⟨some 42, some (35, true), .mov (.t 1)⟩,
    ⟨some 43, some (35, true), .idxS 2 (.t 41) (.t 42)⟩,
    ⟨some 44, some (35, true), .load true 2 (.t 43)⟩,
    ⟨some 45, some (35, true), .callv (.t 36) [.t 40, .t 44]⟩,
    ⟨some 46, some (35, true), .bin .lss (.t 45) (.c (.int .i64 0))⟩,
    ⟨some 47, none, .pick (.t 35) (.t 46) (.c (.bool false))⟩]
    [[], [], [0, 1], [2], [3], [3], [3], [5, 6, 3], [7, 3], [3], [3], [9, 10, 3], [11, 3], [4, 8, 12, 3, 3], [13, 3], [3, 14]]
    [(0, []), (1, []), (2, []), (3, []), (4, []), (5, []), (6, []), (7, []), (9, []), (10, []), (11, []), (8, []), (12, []), (13, []), (14, []), (15, [])]
    [[], [], [0, 1], [0, 1, 2], [0, 1, 2, 3], [0, 1, 2, 3], [0, 1, 2, 3], [0, 1, 2, 3, 5, 6], [0, 1, 2, 3, 5, 6, 7], [0, 1, 2, 3], [0, 1, 2, 3], [0, 1, 2, 3, 9, 10], [0, 1, 2, 3, 9, 10, 11], [0, 1, 2, 3, 4, 5, 6, 7, 8, 9, 10, 11, 12], [0, 1, 2, 3, 4, 5, 6, 7, 8, 9, 10, 11, 12, 13], [0, 1, 2, 3, 4, 5, 6, 7, 8, 9, 10, 11, 12, 13, 14]]
    [0, 1, 4, 12, 13, 47])
  (.cond (.t 47)
    .skip
    (.exit 0)))
  (.block 1
    (.region [⟨some 48, none, .mov (.t 12)⟩,
      ⟨some 49, none, .bin .add (.t 48) (.c (.int .i64 1))⟩,
      ⟨some 12, none, .mov (.t 49)⟩]
      [0, 1, 4, 12, 13]) [0, 1, 4, 12, 13]))
def RC.slices_partitionCmpFunc_api_Want : RFn := ⟨5, [.slot 10, .slot 11],
  (.seq (.region [⟨some 10, none, .mov (.c (.int .i64 0))⟩,
    ⟨some 11, none, .mov (.c (.bool false))⟩]
    [0, 1, 2, 3, 4])
  (.seq (.drawn [⟨some 14, none, .mov (.t 0)⟩,
    ⟨some 15, none, .mov (.t 1)⟩,
    ⟨some 16, none, .mov (.t 0)⟩,
    ⟨some 17, none, .mov (.t 3)⟩,
    ⟨some 18, none, .mov (.t 0)⟩,
    ⟨some 19, none, .mov (.t 3)⟩,
    ⟨some 20, none, .idxS 2 (.t 18) (.t 19)⟩,
    ⟨some 21, none, .load true 2 (.t 20)⟩,
    ⟨some 22, none, .mov (.t 0)⟩,
    ⟨some 23, none, .mov (.t 1)⟩,
    ⟨some 24, none, .idxS 2 (.t 22) (.t 23)⟩,
    ⟨some 25, none, .load true 2 (.t 24)⟩,
    ⟨some 26, none, .idxS 2 (.t 14) (.t 15)⟩,
    ⟨none, none, .store 2 (.t 26) (.t 21)⟩,
    ⟨some 27, none, .idxS 2 (.t 16) (.t 17)⟩,
    ⟨none, none, .store 2 (.t 27) (.t 25)⟩]
    [[], [], [], [], [], [], [4, 5], [6], [], [], [8, 9], [10], [0, 1, 0, 1, 4, 5, 6, 7, 11], [12, 7, 0, 1, 4, 5, 6, 7, 11], [2, 3, 0, 1, 2, 3, 4, 5, 6, 7, 8, 9, 10, 11, 12, 13], [14, 11, 13, 0, 1, 2, 3, 4, 5, 6, 7, 8, 9, 10, 11, 12, 13]]
    [(0, []), (1, []), (2, []), (3, []), (4, []), (5, []), (6, []), (8, []), (9, []), (10, []), (7, []), (11, []), (12, []), (13, []), (14, []), (15, [])]
    [[], [], [], [], [], [], [4, 5], [4, 5, 6], [], [], [8, 9], [8, 9, 10], [0, 1, 4, 5, 6, 7, 8, 9, 10, 11], [0, 1, 4, 5, 6, 7, 8, 9, 10, 11, 12], [0, 1, 2, 3, 4, 5, 6, 7, 8, 9, 10, 11, 12, 13], [0, 1, 2, 3, 4, 5, 6, 7, 8, 9, 10, 11, 12, 13, 14]]
    [0, 1, 2, 4])
  (.seq (.region [⟨some 28, none, .mov (.t 1)⟩,
    ⟨some 29, none, .bin .add (.t 28) (.c (.int .i64 1))⟩,
    ⟨some 30, none, .mov (.t 2)⟩,
    ⟨some 31, none, .bin .sub (.t 30) (.c (.int .i64 1))⟩,
    ⟨some 12, none, .mov (.t 29)⟩,
    ⟨some 13, none, .mov (.t 31)⟩]
    [0, 1, 4, 12, 13])
  (.seq (.block 0
    (.loop [0, 1, 4, 12, 13] RB.slices_partitionCmpFunc_api_Want_5) [0, 1, 4, 12, 13])
  (.seq (.block 2
    (.loop [0, 1, 4, 12, 13] RB.slices_partitionCmpFunc_api_Want_4) [0, 1, 4, 12, 13])
  (.seq (.seq (.region [⟨some 69, none, .mov (.t 12)⟩,
    ⟨some 70, none, .mov (.t 13)⟩,
    ⟨some 71, none, .bin .gtr (.t 69) (.t 70)⟩]
    [0, 1, 4, 12, 13, 71])
  (.cond (.t 71)
    (.seq (.drawn [⟨some 72, none, .mov (.t 0)⟩,
      ⟨some 73, none, .mov (.t 13)⟩,
      ⟨some 74, none, .mov (.t 0)⟩,
      ⟨some 75, none, .mov (.t 1)⟩,
      ⟨some 76, none, .mov (.t 0)⟩,
      ⟨some 77, none, .mov (.t 1)⟩,
      ⟨some 78, none, .idxS 2 (.t 76) (.t 77)⟩,
      ⟨some 79, none, .load true 2 (.t 78)⟩,
      ⟨some 80, none, .mov (.t 0)⟩,
      ⟨some 81, none, .mov (.t 13)⟩,
      ⟨some 82, none, .idxS 2 (.t 80) (.t 81)⟩,
      ⟨some 83, none, .load true 2 (.t 82)⟩,
      ⟨some 84, none, .idxS 2 (.t 72) (.t 73)⟩,
      ⟨none, none, .store 2 (.t 84) (.t 79)⟩,
      ⟨some 85, none, .idxS 2 (.t 74) (.t 75)⟩,
      ⟨none, none, .store 2 (.t 85) (.t 83)⟩]
      [[], [], [], [], [], [], [4, 5], [6], [], [], [8, 9], [10], [0, 1, 0, 1, 4, 5, 6, 7, 11], [12, 7, 0, 1, 4, 5, 6, 7, 11], [2, 3, 0, 1, 2, 3, 4, 5, 6, 7, 8, 9, 10, 11, 12, 13], [14, 11, 13, 0, 1, 2, 3, 4, 5, 6, 7, 8, 9, 10, 11, 12, 13]]
      [(0, []), (1, []), (2, []), (3, []), (4, []), (5, []), (6, []), (8, []), (9, []), (10, []), (7, []), (11, []), (12, []), (13, []), (14, []), (15, [])]
      [[], [], [], [], [], [], [4, 5], [4, 5, 6], [], [], [8, 9], [8, 9, 10], [0, 1, 4, 5, 6, 7, 8, 9, 10, 11], [0, 1, 4, 5, 6, 7, 8, 9, 10, 11, 12], [0, 1, 2, 3, 4, 5, 6, 7, 8, 9, 10, 11, 12, 13], [0, 1, 2, 3, 4, 5, 6, 7, 8, 9, 10, 11, 12, 13, 14]]
      [13])
    (.seq (.region [⟨some 86, none, .mov (.t 13)⟩,
      ⟨some 10, none, .mov (.t 86)⟩,
      ⟨some 11, none, .mov (.c (.bool true))⟩]
      [10, 11])
    .ret))
    .skip))
  (.seq (.drawn [⟨some 87, none, .mov (.t 0)⟩,
    ⟨some 88, none, .mov (.t 12)⟩,
    ⟨some 89, none, .mov (.t 0)⟩,
    ⟨some 90, none, .mov (.t 13)⟩,
    ⟨some 91, none, .mov (.t 0)⟩,
    ⟨some 92, none, .mov (.t 13)⟩,
    ⟨some 93, none, .idxS 2 (.t 91) (.t 92)⟩,
    ⟨some 94, none, .load true 2 (.t 93)⟩,
    ⟨some 95, none, .mov (.t 0)⟩,
    ⟨some 96, none, .mov (.t 12)⟩,
    ⟨some 97, none, .idxS 2 (.t 95) (.t 96)⟩,
    ⟨some 98, none, .load true 2 (.t 97)⟩,
    ⟨some 99, none, .idxS 2 (.t 87) (.t 88)⟩,
    ⟨none, none, .store 2 (.t 99) (.t 94)⟩,
    ⟨some 100, none, .idxS 2 (.t 89) (.t 90)⟩,
    ⟨none, none, .store 2 (.t 100) (.t 98)⟩]
    [[], [], [], [], [], [], [4, 5], [6], [], [], [8, 9], [10], [0, 1, 0, 1, 4, 5, 6, 7, 11], [12, 7, 0, 1, 4, 5, 6, 7, 11], [2, 3, 0, 1, 2, 3, 4, 5, 6, 7, 8, 9, 10, 11, 12, 13], [14, 11, 13, 0, 1, 2, 3, 4, 5, 6, 7, 8, 9, 10, 11, 12, 13]]
    [(0, []), (1, []), (2, []), (3, []), (4, []), (5, []), (6, []), (8, []), (9, []), (10, []), (7, []), (11, []), (12, []), (13, []), (14, []), (15, [])]
    [[], [], [], [], [], [], [4, 5], [4, 5, 6], [], [], [8, 9], [8, 9, 10], [0, 1, 4, 5, 6, 7, 8, 9, 10, 11], [0, 1, 4, 5, 6, 7, 8, 9, 10, 11, 12], [0, 1, 2, 3, 4, 5, 6, 7, 8, 9, 10, 11, 12, 13], [0, 1, 2, 3, 4, 5, 6, 7, 8, 9, 10, 11, 12, 13, 14]]
    [0, 1, 4, 12, 13])
  (.seq (.region [⟨some 101, none, .mov (.t 12)⟩,
    ⟨some 102, none, .bin .add (.t 101) (.c (.int .i64 1))⟩,
    ⟨some 12, none, .mov (.t 102)⟩]
    [0, 1, 4, 12, 13])
  (.seq (.region [⟨some 103, none, .mov (.t 13)⟩,
    ⟨some 104, none, .bin .sub (.t 103) (.c (.int .i64 1))⟩,
    ⟨some 13, none, .mov (.t 104)⟩]
    [0, 1, 4, 12, 13])
  (.seq (.block 4
    (.loop [0, 1, 4, 12, 13] RB.slices_partitionCmpFunc_api_Want_3) [0, 1, 13])
  (.seq (.drawn [⟨some 163, none, .mov (.t 0)⟩,
    ⟨some 164, none, .mov (.t 13)⟩,
    ⟨some 165, none, .mov (.t 0)⟩,
    ⟨some 166, none, .mov (.t 1)⟩,
    ⟨some 167, none, .mov (.t 0)⟩,
    ⟨some 168, none, .mov (.t 1)⟩,
    ⟨some 169, none, .idxS 2 (.t 167) (.t 168)⟩,
    ⟨some 170, none, .load true 2 (.t 169)⟩,
    ⟨some 171, none, .mov (.t 0)⟩,
    ⟨some 172, none, .mov (.t 13)⟩,
    ⟨some 173, none, .idxS 2 (.t 171) (.t 172)⟩,
    ⟨some 174, none, .load true 2 (.t 173)⟩,
    ⟨some 175, none, .idxS 2 (.t 163) (.t 164)⟩,
    ⟨none, none, .store 2 (.t 175) (.t 170)⟩,
    ⟨some 176, none, .idxS 2 (.t 165) (.t 166)⟩,
    ⟨none, none, .store 2 (.t 176) (.t 174)⟩]
    [[], [], [], [], [], [], [4, 5], [6], [], [], [8, 9], [10], [0, 1, 0, 1, 4, 5, 6, 7, 11], [12, 7, 0, 1, 4, 5, 6, 7, 11], [2, 3, 0, 1, 2, 3, 4, 5, 6, 7, 8, 9, 10, 11, 12, 13], [14, 11, 13, 0, 1, 2, 3, 4, 5, 6, 7, 8, 9, 10, 11, 12, 13]]
    [(0, []), (1, []), (2, []), (3, []), (4, []), (5, []), (6, []), (8, []), (9, []), (10, []), (7, []), (11, []), (12, []), (13, []), (14, []), (15, [])]
    [[], [], [], [], [], [], [4, 5], [4, 5, 6], [], [], [8, 9], [8, 9, 10], [0, 1, 4, 5, 6, 7, 8, 9, 10, 11], [0, 1, 4, 5, 6, 7, 8, 9, 10, 11, 12], [0, 1, 2, 3, 4, 5, 6, 7, 8, 9, 10, 11, 12, 13], [0, 1, 2, 3, 4, 5, 6, 7, 8, 9, 10, 11, 12, 13, 14]]
    [13])
  (.seq (.region [⟨some 177, none, .mov (.t 13)⟩,
    ⟨some 10, none, .mov (.t 177)⟩,
    ⟨some 11, none, .mov (.c (.bool false))⟩]
    [10, 11])
  .ret))))))))))))⟩

def RC.math_bits_Len32 : RFn := ⟨1, [.slot 2],
  (.seq (.region [⟨some 2, none, .mov (.c (.int .i64 0))⟩]
    [0, 2])
  (.seq (.seq (.region [⟨some 3, none, .mov (.t 0)⟩,
    ⟨some 4, none, .bin .geq (.t 3) (.c (u32 65536#32))⟩]
    [0, 2, 4])
  (.cond (.t 4)
    (.seq (.region [⟨some 5, none, .mov (.t 0)⟩,
      ⟨some 6, none, .bin .shr (.t 5) (.c (u64 16#64))⟩,
      ⟨some 0, none, .mov (.t 6)⟩]
      [0])
    (.region [⟨some 2, none, .mov (.c (.int .i64 16))⟩]
      [0, 2]))
    .skip))
  (.seq (.seq (.region [⟨some 7, none, .mov (.t 0)⟩,
    ⟨some 8, none, .bin .geq (.t 7) (.c (u32 256#32))⟩]
    [0, 2, 8])
  (.cond (.t 8)
    (.seq (.region [⟨some 9, none, .mov (.t 0)⟩,
      ⟨some 10, none, .bin .shr (.t 9) (.c (u64 8#64))⟩,
      ⟨some 0, none, .mov (.t 10)⟩]
      [0, 2])
    (.region [⟨some 11, none, .mov (.t 2)⟩,
      ⟨some 12, none, .bin .add (.t 11) (.c (.int .i64 8))⟩,
      ⟨some 2, none, .mov (.t 12)⟩]
      [0, 2]))
    .skip))
  (.seq (.region [⟨some 13, none, .mov (.t 2)⟩,
    ⟨some 14, none, .mov (.t 0)⟩,
    ⟨some 15, none, .conv .u8 (.t 14)⟩,
    ⟨some 16, none, .idxStr (.c (.string lenTab)) (.t 15)⟩,
    ⟨some 17, none, .conv .i64 (.t 16)⟩,
    ⟨some 18, none, .bin .add (.t 13) (.t 17)⟩,
    ⟨some 2, none, .mov (.t 18)⟩]
    [2])
  .ret))))⟩

def RC.math_bits_Len64 : RFn := ⟨1, [.slot 2],
  (.seq (.region [⟨some 2, none, .mov (.c (.int .i64 0))⟩]
    [0, 2])
  (.seq (.seq (.region [⟨some 3, none, .mov (.t 0)⟩,
    ⟨some 4, none, .bin .geq (.t 3) (.c (u64 4294967296#64))⟩]
    [0, 2, 4])
  (.cond (.t 4)
    (.seq (.region [⟨some 5, none, .mov (.t 0)⟩,
      ⟨some 6, none, .bin .shr (.t 5) (.c (u64 32#64))⟩,
      ⟨some 0, none, .mov (.t 6)⟩]
      [0])
    (.region [⟨some 2, none, .mov (.c (.int .i64 32))⟩]
      [0, 2]))
    .skip))
  (.seq (.seq (.region [⟨some 7, none, .mov (.t 0)⟩,
    ⟨some 8, none, .bin .geq (.t 7) (.c (u64 65536#64))⟩]
    [0, 2, 8])
  (.cond (.t 8)
    (.seq (.region [⟨some 9, none, .mov (.t 0)⟩,
      ⟨some 10, none, .bin .shr (.t 9) (.c (u64 16#64))⟩,
      ⟨some 0, none, .mov (.t 10)⟩]
      [0, 2])
    (.region [⟨some 11, none, .mov (.t 2)⟩,
      ⟨some 12, none, .bin .add (.t 11) (.c (.int .i64 16))⟩,
      ⟨some 2, none, .mov (.t 12)⟩]
      [0, 2]))
    .skip))
  (.seq (.seq (.region [⟨some 13, none, .mov (.t 0)⟩,
    ⟨some 14, none, .bin .geq (.t 13) (.c (u64 256#64))⟩]
    [0, 2, 14])
  (.cond (.t 14)
    (.seq (.region [⟨some 15, none, .mov (.t 0)⟩,
      ⟨some 16, none, .bin .shr (.t 15) (.c (u64 8#64))⟩,
      ⟨some 0, none, .mov (.t 16)⟩]
      [0, 2])
    (.region [⟨some 17, none, .mov (.t 2)⟩,
      ⟨some 18, none, .bin .add (.t 17) (.c (.int .i64 8))⟩,
      ⟨some 2, none, .mov (.t 18)⟩]
      [0, 2]))
    .skip))
  (.seq (.region [⟨some 19, none, .mov (.t 2)⟩,
    ⟨some 20, none, .mov (.t 0)⟩,
    ⟨some 21, none, .conv .u8 (.t 20)⟩,
    ⟨some 22, none, .idxStr (.c (.string lenTab)) (.t 21)⟩,
    ⟨some 23, none, .conv .i64 (.t 22)⟩,
    ⟨some 24, none, .bin .add (.t 19) (.t 23)⟩,
    ⟨some 2, none, .mov (.t 24)⟩]
    [2])
  .ret)))))⟩

def RB.slices_siftDownCmpFunc_api_Want_1 : RCode :=
  (.block 1
    (.seq (.region [⟨some 13, none, .mov (.t 10)⟩,
      ⟨some 14, none, .bin .mul (.c (.int .i64 2)) (.t 13)⟩,
      ⟨some 15, none, .bin .add (.t 14) (.c (.int .i64 1))⟩,
      ⟨some 11, none, .mov (.t 15)⟩]
      [0, 2, 3, 4, 10, 11])
    (.seq (.seq (.region [⟨some 16, none, .mov (.t 11)⟩,
      ⟨some 17, none, .mov (.t 2)⟩,
      ⟨some 18, none, .bin .geq (.t 16) (.t 17)⟩]
      [0, 2, 3, 4, 10, 11, 18])
    (.cond (.t 18)
      (.exit 0)
      .skip))
    (.seq (.seq (.drawn [⟨some 19, none, .mov (.t 11)⟩,
      ⟨some 20, none, .bin .add (.t 19) (.c (.int .i64 1))⟩,
      ⟨some 21, none, .mov (.t 2)⟩,
      ⟨some 22, none, .bin .lss (.t 20) (.t 21)⟩,
      ⟨some 23, none, .mov (.t 22)⟩,
      ⟨some 24, some (23, true), .mov (.t 4)⟩,
      ⟨some 25, some (23, true), .mov (.t 0)⟩,
      ⟨some 26, some (23, true), .mov (.t 3)⟩,
      ⟨some 27, some (23, true), .mov (.t 11)⟩,
      ⟨some 28, some (23, true), .bin .add (.t 26) (.t 27)⟩,
      ⟨some 29, some (23, true), .idxS 2 (.t 25) (.t 28)⟩,
      ⟨some 30, some (23, true), .load true 2 (.t 29)⟩,
      ⟨some 31, some (23, true), .mov (.t 0)⟩,
      ⟨some 32, some (23, true), .mov (.t 3)⟩,
      ⟨some 33, some (23, true), .mov (.t 11)⟩,
      ⟨some 34, some (23, true), .bin .add (.t 32) (.t 33)⟩,
      ⟨some 35, some (23, true), .bin .add (.t 34) (.c (.int .i64 1))⟩,
      ⟨some 36, some (23, true), .idxS 2 (.t 31) (.t 35)⟩,
      ⟨some 37, some (23, true), .load true 2 (.t 36)⟩,
      ⟨some 38, some (23, true), .callv (.t 24) [.t 30, .t 37]⟩,
      ⟨some 39, some (23, true), .bin .lss (.t 38) (.c (.int .i64 0))⟩,
      ⟨some 40, none, .pick (.t 23) (.t 39) (.c (.bool false))⟩]
      [[], [0], [], [1, 2], [3], [4], [4], [4], [4], [7, 8, 4], [6, 9, 4], [10, 4], [4], [4], [4], [13, 14, 4], [15, 4], [12, 16, 4], [17, 4], [5, 11, 18, 4, 4], [19, 4], [4, 20]]
      [(0, []), (1, []), (2, []), (3, []), (4, []), (5, []), (6, []), (7, []), (8, []), (9, []), (10, []), (12, []), (13, []), (14, []), (15, []), (16, []), (17, []), (11, []), (18, []), (19, []), (20, []), (21, [])]
      [[], [0], [], [0, 1, 2], [0, 1, 2, 3], [0, 1, 2, 3, 4], [0, 1, 2, 3, 4], [0, 1, 2, 3, 4], [0, 1, 2, 3, 4], [0, 1, 2, 3, 4, 7, 8], [0, 1, 2, 3, 4, 6, 7, 8, 9], [0, 1, 2, 3, 4, 6, 7, 8, 9, 10], [0, 1, 2, 3, 4], [0, 1, 2, 3, 4], [0, 1, 2, 3, 4], [0, 1, 2, 3, 4, 13, 14], [0, 1, 2, 3, 4, 13, 14, 15], [0, 1, 2, 3, 4, 12, 13, 14, 15, 16], [0, 1, 2, 3, 4, 12, 13, 14, 15, 16, 17], [0, 1, 2, 3, 4, 5, 6, 7, 8, 9, 10, 11, 12, 13, 14, 15, 16, 17, 18], [0, 1, 2, 3, 4, 5, 6, 7, 8, 9, 10, 11, 12, 13, 14, 15, 16, 17, 18, 19], [0, 1, 2, 3, 4, 5, 6, 7, 8, 9, 10, 11, 12, 13, 14, 15, 16, 17, 18, 19, 20]]
      [0, 2, 3, 4, 10, 11, 40])
    (.cond (.t 40)
      (.region [⟨some 41, none, .mov (.t 11)⟩,
        ⟨some 42, none, .bin .add (.t 41) (.c (.int .i64 1))⟩,
        ⟨some 11, none, .mov (.t 42)⟩]
        [0, 2, 3, 4, 10, 11])
      .skip))
    (.seq (.seq (.drawn [⟨some 43, none, .mov (.t 4)⟩,
      ⟨some 44, none, .mov (.t 0)⟩,
      ⟨some 45, none, .mov (.t 3)⟩,
      ⟨some 46, none, .mov (.t 10)⟩,
      ⟨some 47, none, .bin .add (.t 45) (.t 46)⟩,
      ⟨some 48, none, .idxS 2 (.t 44) (.t 47)⟩,
      ⟨some 49, none, .load true 2 (.t 48)⟩,
      ⟨some 50, none, .mov (.t 0)⟩,
      ⟨some 51, none, .mov (.t 3)⟩,
      ⟨some 52, none, .mov (.t 11)⟩,
      ⟨some 53, none, .bin .add (.t 51) (.t 52)⟩,
      ⟨some 54, none, .idxS 2 (.t 50) (.t 53)⟩,
      ⟨some 55, none, .load true 2 (.t 54)⟩,
      ⟨some 56, none, .callv (.t 43) [.t 49, .t 55]⟩,
      ⟨some 57, none, .bin .lss (.t 56) (.c (.int .i64 0))⟩,
      ⟨some 58, none, .un .not (.t 57)⟩]
      [[], [], [], [], [2, 3], [1, 4], [5], [], [], [], [8, 9], [7, 10], [11], [0, 6, 12], [13], [14]]
      [(0, []), (1, []), (2, []), (3, []), (4, []), (5, []), (7, []), (8, []), (9, []), (10, []), (11, []), (6, []), (12, []), (13, []), (14, []), (15, [])]
      [[], [], [], [], [2, 3], [1, 2, 3, 4], [1, 2, 3, 4, 5], [], [], [], [8, 9], [7, 8, 9, 10], [7, 8, 9, 10, 11], [0, 1, 2, 3, 4, 5, 6, 7, 8, 9, 10, 11, 12], [0, 1, 2, 3, 4, 5, 6, 7, 8, 9, 10, 11, 12, 13], [0, 1, 2, 3, 4, 5, 6, 7, 8, 9, 10, 11, 12, 13, 14]]
      [0, 2, 3, 4, 10, 11, 58])
    (.cond (.t 58)
      .ret
      .skip))
    (.seq (.drawn [⟨some 59, none, .mov (.t 0)⟩,
      ⟨some 60, none, .mov (.t 3)⟩,
      ⟨some 61, none, .mov (.t 10)⟩,
      ⟨some 62, none, .bin .add (.t 60) (.t 61)⟩,
      ⟨some 63, none, .mov (.t 0)⟩,
      ⟨some 64, none, .mov (.t 3)⟩,
      ⟨some 65, none, .mov (.t 11)⟩,
      ⟨some 66, none, .bin .add (.t 64) (.t 65)⟩,
      ⟨some 67, none, .mov (.t 0)⟩,
      ⟨some 68, none, .mov (.t 3)⟩,
      ⟨some 69, none, .mov (.t 11)⟩,
      ⟨some 70, none, .bin .add (.t 68) (.t 69)⟩,
      ⟨some 71, none, .idxS 2 (.t 67) (.t 70)⟩,
      ⟨some 72, none, .load true 2 (.t 71)⟩,
      ⟨some 73, none, .mov (.t 0)⟩,
      ⟨some 74, none, .mov (.t 3)⟩,
      ⟨some 75, none, .mov (.t 10)⟩,
      ⟨some 76, none, .bin .add (.t 74) (.t 75)⟩,
      ⟨some 77, none, .idxS 2 (.t 73) (.t 76)⟩,
      ⟨some 78, none, .load true 2 (.t 77)⟩,
      ⟨some 79, none, .idxS 2 (.t 59) (.t 62)⟩,
      ⟨none, none, .store 2 (.t 79) (.t 72)⟩,
      ⟨some 80, none, .idxS 2 (.t 63) (.t 66)⟩,
      ⟨none, none, .store 2 (.t 80) (.t 78)⟩]
      [[], [], [], [1, 2], [], [], [], [5, 6], [], [], [], [9, 10], [8, 11], [12], [], [], [], [15, 16], [14, 17], [18], [0, 3, 0, 1, 2, 3, 8, 9, 10, 11, 12, 13, 19], [20, 13, 0, 1, 2, 3, 8, 9, 10, 11, 12, 13, 19], [4, 7, 0, 1, 2, 3, 4, 5, 6, 7, 8, 9, 10, 11, 12, 13, 14, 15, 16, 17, 18, 19, 20, 21], [22, 19, 21, 0, 1, 2, 3, 4, 5, 6, 7, 8, 9, 10, 11, 12, 13, 14, 15, 16, 17, 18, 19, 20, 21]]
      [(0, []), (1, []), (2, []), (3, []), (4, []), (5, []), (6, []), (7, []), (8, []), (9, []), (10, []), (11, []), (12, []), (14, []), (15, []), (16, []), (17, []), (18, []), (13, []), (19, []), (20, []), (21, []), (22, []), (23, [])]
      [[], [], [], [1, 2], [], [], [], [5, 6], [], [], [], [9, 10], [8, 9, 10, 11], [8, 9, 10, 11, 12], [], [], [], [15, 16], [14, 15, 16, 17], [14, 15, 16, 17, 18], [0, 1, 2, 3, 8, 9, 10, 11, 12, 13, 14, 15, 16, 17, 18, 19], [0, 1, 2, 3, 8, 9, 10, 11, 12, 13, 14, 15, 16, 17, 18, 19, 20], [0, 1, 2, 3, 4, 5, 6, 7, 8, 9, 10, 11, 12, 13, 14, 15, 16, 17, 18, 19, 20, 21], [0, 1, 2, 3, 4, 5, 6, 7, 8, 9, 10, 11, 12, 13, 14, 15, 16, 17, 18, 19, 20, 21, 22]]
      [0, 2, 3, 4, 11])
    (.region [⟨some 81, none, .mov (.t 11)⟩,
      ⟨some 10, none, .mov (.t 81)⟩]
      [0, 2, 3, 4, 10])))))) [0, 2, 3, 4, 10])
def RC.slices_siftDownCmpFunc_api_Want : RFn := ⟨5, [],
  (.seq (.region [⟨some 12, none, .mov (.t 1)⟩,
    ⟨some 10, none, .mov (.t 12)⟩]
    [0, 2, 3, 4, 10])
  (.block 0
    (.loop [0, 2, 3, 4, 10] RB.slices_siftDownCmpFunc_api_Want_1) []))⟩

def RC.slices_nextPowerOfTwo : RFn := ⟨1, [.slot 2],
  (.seq (.region [⟨some 2, none, .mov (.c (u64 0#64))⟩]
    [0])
  (.seq (.region [⟨some 3, none, .mov (.t 0)⟩,
    ⟨some 4, none, .conv .u64 (.t 3)⟩,
    ⟨some 5, none, .call F.math_bits_Len [.t 4]⟩,
    ⟨some 6, none, .bin .shl (.c (u64 1#64)) (.t 5)⟩,
    ⟨some 2, none, .mov (.t 6)⟩]
    [2])
  .ret))⟩

def RC.slices_xorshift_Next : RFn := ⟨1, [.slot 2],
  (.seq (.region [⟨some 2, none, .mov (.c (u64 0#64))⟩]
    [0])
  (.seq (.drawn [⟨some 3, none, .mov (.t 0)⟩,
    ⟨some 4, none, .nilchk (.t 3)⟩,
    ⟨some 5, none, .load false 1 (.t 4)⟩,
    ⟨some 6, none, .mov (.t 0)⟩,
    ⟨some 7, none, .nilchk (.t 6)⟩,
    ⟨some 8, none, .load false 1 (.t 7)⟩,
    ⟨some 9, none, .bin .shl (.t 8) (.c (u64 13#64))⟩,
    ⟨some 10, none, .bin .xor (.t 5) (.t 9)⟩,
    ⟨some 11, none, .nilchk (.t 3)⟩,
    ⟨none, none, .store 1 (.t 11) (.t 10)⟩]
    [[], [0], [1], [], [3], [4], [5], [2, 6], [0, 0, 1, 2, 3, 4, 5, 6, 7], [8, 7, 0, 1, 2, 3, 4, 5, 6, 7]]
    [(0, []), (1, []), (3, []), (4, []), (2, []), (5, []), (6, []), (7, []), (8, []), (9, [])]
    [[], [0], [0, 1], [], [3], [3, 4], [3, 4, 5], [0, 1, 2, 3, 4, 5, 6], [0, 1, 2, 3, 4, 5, 6, 7], [0, 1, 2, 3, 4, 5, 6, 7, 8]]
    [0])
  (.seq (.drawn [⟨some 12, none, .mov (.t 0)⟩,
    ⟨some 13, none, .nilchk (.t 12)⟩,
    ⟨some 14, none, .load false 1 (.t 13)⟩,
    ⟨some 15, none, .mov (.t 0)⟩,
    ⟨some 16, none, .nilchk (.t 15)⟩,
    ⟨some 17, none, .load false 1 (.t 16)⟩,
    ⟨some 18, none, .bin .shr (.t 17) (.c (u64 7#64))⟩,
    ⟨some 19, none, .bin .xor (.t 14) (.t 18)⟩,
    ⟨some 20, none, .nilchk (.t 12)⟩,
    ⟨none, none, .store 1 (.t 20) (.t 19)⟩]
    [[], [0], [1], [], [3], [4], [5], [2, 6], [0, 0, 1, 2, 3, 4, 5, 6, 7], [8, 7, 0, 1, 2, 3, 4, 5, 6, 7]]
    [(0, []), (1, []), (3, []), (4, []), (2, []), (5, []), (6, []), (7, []), (8, []), (9, [])]
    [[], [0], [0, 1], [], [3], [3, 4], [3, 4, 5], [0, 1, 2, 3, 4, 5, 6], [0, 1, 2, 3, 4, 5, 6, 7], [0, 1, 2, 3, 4, 5, 6, 7, 8]]
    [0])
  (.seq (.drawn [⟨some 21, none, .mov (.t 0)⟩,
    ⟨some 22, none, .nilchk (.t 21)⟩,
    ⟨some 23, none, .load false 1 (.t 22)⟩,
    ⟨some 24, none, .mov (.t 0)⟩,
    ⟨some 25, none, .nilchk (.t 24)⟩,
    ⟨some 26, none, .load false 1 (.t 25)⟩,
    ⟨some 27, none, .bin .shl (.t 26) (.c (u64 17#64))⟩,
    ⟨some 28, none, .bin .xor (.t 23) (.t 27)⟩,
    ⟨some 29, none, .nilchk (.t 21)⟩,
    ⟨none, none, .store 1 (.t 29) (.t 28)⟩]
    [[], [0], [1], [], [3], [4], [5], [2, 6], [0, 0, 1, 2, 3, 4, 5, 6, 7], [8, 7, 0, 1, 2, 3, 4, 5, 6, 7]]
    [(0, []), (1, []), (3, []), (4, []), (2, []), (5, []), (6, []), (7, []), (8, []), (9, [])]
    [[], [0], [0, 1], [], [3], [3, 4], [3, 4, 5], [0, 1, 2, 3, 4, 5, 6], [0, 1, 2, 3, 4, 5, 6, 7], [0, 1, 2, 3, 4, 5, 6, 7, 8]]
    [0])
  (.seq (.region [⟨some 30, none, .mov (.t 0)⟩,
    ⟨some 31, none, .nilchk (.t 30)⟩,
    ⟨some 32, none, .load false 1 (.t 31)⟩,
    ⟨some 2, none, .mov (.t 32)⟩]
    [2])
  .ret)))))⟩

def RC.slices_medianAdjacentCmpFunc_api_Want : RFn := ⟨4, [.slot 8],
  (.seq (.region [⟨some 8, none, .mov (.c (.int .i64 0))⟩]
    [0, 1, 2, 3])
  (.seq (.region [⟨some 9, none, .mov (.t 0)⟩,
    ⟨some 10, none, .mov (.t 1)⟩,
    ⟨some 11, none, .bin .sub (.t 10) (.c (.int .i64 1))⟩,
    ⟨some 12, none, .mov (.t 1)⟩,
    ⟨some 13, none, .mov (.t 1)⟩,
    ⟨some 14, none, .bin .add (.t 13) (.c (.int .i64 1))⟩,
    ⟨some 15, none, .mov (.t 2)⟩,
    ⟨some 16, none, .mov (.t 3)⟩,
    ⟨some 17, none, .call F.slices_medianCmpFunc_api_Want [.t 9, .t 11, .t 12, .t 14, .t 15, .t 16]⟩,
    ⟨some 8, none, .mov (.t 17)⟩]
    [8])
  .ret))⟩

def RC.slices_medianCmpFunc_api_Want : RFn := ⟨6, [.slot 12],
  (.seq (.region [⟨some 12, none, .mov (.c (.int .i64 0))⟩]
    [0, 1, 2, 3, 4, 5])
  (.seq (.region [⟨some 14, none, .mov (.t 0)⟩,
    ⟨some 15, none, .mov (.t 1)⟩,
    ⟨some 16, none, .mov (.t 2)⟩,
    ⟨some 17, none, .mov (.t 4)⟩,
    ⟨some 18, none, .mov (.t 5)⟩,
    ⟨some 19, none, .call F.slices_order2CmpFunc_api_Want [.t 14, .t 15, .t 16, .t 17, .t 18]⟩,
    ⟨some 13, none, .mov (.t 19)⟩,
    ⟨some 20, none, .ext 0 (.t 13)⟩,
    ⟨some 21, none, .ext 1 (.t 13)⟩,
    ⟨some 1, none, .mov (.t 20)⟩,
    ⟨some 2, none, .mov (.t 21)⟩]
    [0, 1, 2, 3, 4, 5])
  (.seq (.region [⟨some 23, none, .mov (.t 0)⟩,
    ⟨some 24, none, .mov (.t 2)⟩,
    ⟨some 25, none, .mov (.t 3)⟩,
    ⟨some 26, none, .mov (.t 4)⟩,
    ⟨some 27, none, .mov (.t 5)⟩,
    ⟨some 28, none, .call F.slices_order2CmpFunc_api_Want [.t 23, .t 24, .t 25, .t 26, .t 27]⟩,
    ⟨some 22, none, .mov (.t 28)⟩,
    ⟨some 29, none, .ext 0 (.t 22)⟩,
    ⟨some 30, none, .ext 1 (.t 22)⟩,
    ⟨some 2, none, .mov (.t 29)⟩,
    ⟨some 3, none, .mov (.t 30)⟩]
    [0, 1, 2, 4, 5])
  (.seq (.region [⟨some 32, none, .mov (.t 0)⟩,
    ⟨some 33, none, .mov (.t 1)⟩,
    ⟨some 34, none, .mov (.t 2)⟩,
    ⟨some 35, none, .mov (.t 4)⟩,
    ⟨some 36, none, .mov (.t 5)⟩,
    ⟨some 37, none, .call F.slices_order2CmpFunc_api_Want [.t 32, .t 33, .t 34, .t 35, .t 36]⟩,
    ⟨some 31, none, .mov (.t 37)⟩,
    ⟨some 38, none, .ext 0 (.t 31)⟩,
    ⟨some 39, none, .ext 1 (.t 31)⟩,
    ⟨some 1, none, .mov (.t 38)⟩,
    ⟨some 2, none, .mov (.t 39)⟩]
    [2])
  (.seq (.region [⟨some 40, none, .mov (.t 2)⟩,
    ⟨some 12, none, .mov (.t 40)⟩]
    [12])
  .ret)))))⟩

def RC.slices_order2CmpFunc_api_Want : RFn := ⟨5, [.slot 10, .slot 11],
  (.seq (.region [⟨some 10, none, .mov (.c (.int .i64 0))⟩,
    ⟨some 11, none, .mov (.c (.int .i64 0))⟩]
    [0, 1, 2, 3, 4])
  (.seq (.seq (.drawn [⟨some 12, none, .mov (.t 4)⟩,
    ⟨some 13, none, .mov (.t 0)⟩,
    ⟨some 14, none, .mov (.t 2)⟩,
    ⟨some 15, none, .idxS 2 (.t 13) (.t 14)⟩,
    ⟨some 16, none, .load true 2 (.t 15)⟩,
    ⟨some 17, none, .mov (.t 0)⟩,
    ⟨some 18, none, .mov (.t 1)⟩,
    ⟨some 19, none, .idxS 2 (.t 17) (.t 18)⟩,
    ⟨some 20, none, .load true 2 (.t 19)⟩,
    ⟨some 21, none, .callv (.t 12) [.t 16, .t 20]⟩,
    ⟨some 22, none, .bin .lss (.t 21) (.c (.int .i64 0))⟩]
    [[], [], [], [1, 2], [3], [], [], [5, 6], [7], [0, 4, 8], [9]]
    [(0, []), (1, []), (2, []), (3, []), (5, []), (6, []), (7, []), (4, []), (8, []), (9, []), (10, [])]
    [[], [], [], [1, 2], [1, 2, 3], [], [], [5, 6], [5, 6, 7], [0, 1, 2, 3, 4, 5, 6, 7, 8], [0, 1, 2, 3, 4, 5, 6, 7, 8, 9]]
    [1, 2, 3, 22])
  (.cond (.t 22)
    (.seq (.region [⟨some 23, none, .mov (.t 3)⟩,
      ⟨some 24, none, .nilchk (.t 23)⟩,
      ⟨some 25, none, .load false 1 (.t 24)⟩,
      ⟨some 26, none, .bin .add (.t 25) (.c (.int .i64 1))⟩,
      ⟨some 27, none, .nilchk (.t 23)⟩,
      ⟨none, none, .store 1 (.t 27) (.t 26)⟩]
      [1, 2])
    (.seq (.region [⟨some 28, none, .mov (.t 2)⟩,
      ⟨some 29, none, .mov (.t 1)⟩,
      ⟨some 10, none, .mov (.t 28)⟩,
      ⟨some 11, none, .mov (.t 29)⟩]
      [10, 11])
    .ret))
    .skip))
  (.seq (.region [⟨some 30, none, .mov (.t 1)⟩,
    ⟨some 31, none, .mov (.t 2)⟩,
    ⟨some 10, none, .mov (.t 30)⟩,
    ⟨some 11, none, .mov (.t 31)⟩]
    [10, 11])
  .ret)))⟩

def tab0 : List (Nat × FEnt) := [(F.law08_OrderUnits, .rc RC.law08_OrderUnits),
  (F.law08_OrderChecks, .rc RC.law08_OrderChecks),
  (F.order_Unit, .rc RC.order_Unit),
  (F.order_Kind, .rc RC.order_Kind),
  (F.ref08_Is, .rc RC.ref08_Is),
  (F.ref08_Group, .rc RC.ref08_Group),
  (F.law08_awake, .rc RC.law08_awake),
  (F.order_Total, .rc RC.order_Total),
  (F.ref08_Total, .rc RC.ref08_Total),
  (F.order_Check, .rc RC.order_Check),
  (F.ref08_Check, .rc RC.ref08_Check),
  (F.ref08_Same, .rc RC.ref08_Same),
  (F.order_Sort, .rc RC.order_Sort),
  (F.fixq_Add, .rc RC.fixq_Add),
  (F.ref02_Add, .rc RC.ref02_Add),
  (F.order_compare, .rc RC.order_compare),
  (F.slices_Clone_api_Want_api_Want, .rc RC.slices_Clone_api_Want_api_Want),
  (F.slices_SortFunc_api_Want_api_Want, .rc RC.slices_SortFunc_api_Want_api_Want),
  (F.cmp_Or_int, .rc RC.cmp_Or_int),
  (F.cmp_Compare_int, .rc RC.cmp_Compare_int),
  (F.slices_pdqsortCmpFunc_api_Want, .rc RC.slices_pdqsortCmpFunc_api_Want),
  (F.math_bits_Len, .rc RC.math_bits_Len),
  (F.cmp_isNaN_int, .rc RC.cmp_isNaN_int),
  (F.slices_insertionSortCmpFunc_api_Want, .rc RC.slices_insertionSortCmpFunc_api_Want),
  (F.slices_heapSortCmpFunc_api_Want, .rc RC.slices_heapSortCmpFunc_api_Want),
  (F.slices_breakPatternsCmpFunc_api_Want, .rc RC.slices_breakPatternsCmpFunc_api_Want),
  (F.slices_choosePivotCmpFunc_api_Want, .rc RC.slices_choosePivotCmpFunc_api_Want),
  (F.slices_reverseRangeCmpFunc_api_Want, .rc RC.slices_reverseRangeCmpFunc_api_Want),
  (F.slices_partialInsertionSortCmpFunc_api_Want, .rc RC.slices_partialInsertionSortCmpFunc_api_Want),
  (F.slices_partitionEqualCmpFunc_api_Want, .rc RC.slices_partitionEqualCmpFunc_api_Want),
  (F.slices_partitionCmpFunc_api_Want, .rc RC.slices_partitionCmpFunc_api_Want),
  (F.math_bits_Len32, .rc RC.math_bits_Len32),
  (F.math_bits_Len64, .rc RC.math_bits_Len64),
  (F.slices_siftDownCmpFunc_api_Want, .rc RC.slices_siftDownCmpFunc_api_Want),
  (F.slices_nextPowerOfTwo, .rc RC.slices_nextPowerOfTwo),
  (F.slices_xorshift_Next, .rc RC.slices_xorshift_Next),
  (F.slices_medianAdjacentCmpFunc_api_Want, .rc RC.slices_medianAdjacentCmpFunc_api_Want),
  (F.slices_medianCmpFunc_api_Want, .rc RC.slices_medianCmpFunc_api_Want),
  (F.slices_order2CmpFunc_api_Want, .rc RC.slices_order2CmpFunc_api_Want)]
/-- What each number stands for. -/
def R0 : Nat → Option FEnt := lookF tab0
/-- The same, with the examples as known. -/
def tab : List (Nat × FEnt) := (F.law08_awake, .ext X.ok) :: tab0
def R : Nat → Option FEnt := lookF tab
theorem R.law08_awake : R F.law08_awake = some (.ext X.ok) := by with_unfolding_all rfl
theorem R.law08_OrderUnits : R F.law08_OrderUnits = some (.rc RC.law08_OrderUnits) := by with_unfolding_all rfl
theorem R.law08_OrderChecks : R F.law08_OrderChecks = some (.rc RC.law08_OrderChecks) := by with_unfolding_all rfl
theorem R.order_Unit : R F.order_Unit = some (.rc RC.order_Unit) := by with_unfolding_all rfl
theorem R.order_Kind : R F.order_Kind = some (.rc RC.order_Kind) := by with_unfolding_all rfl
theorem R.ref08_Is : R F.ref08_Is = some (.rc RC.ref08_Is) := by with_unfolding_all rfl
theorem R.ref08_Group : R F.ref08_Group = some (.rc RC.ref08_Group) := by with_unfolding_all rfl
theorem R.order_Total : R F.order_Total = some (.rc RC.order_Total) := by with_unfolding_all rfl
theorem R.ref08_Total : R F.ref08_Total = some (.rc RC.ref08_Total) := by with_unfolding_all rfl
theorem R.order_Check : R F.order_Check = some (.rc RC.order_Check) := by with_unfolding_all rfl
theorem R.ref08_Check : R F.ref08_Check = some (.rc RC.ref08_Check) := by with_unfolding_all rfl
theorem R.ref08_Same : R F.ref08_Same = some (.rc RC.ref08_Same) := by with_unfolding_all rfl
theorem R.order_Sort : R F.order_Sort = some (.rc RC.order_Sort) := by with_unfolding_all rfl
theorem R.fixq_Add : R F.fixq_Add = some (.rc RC.fixq_Add) := by with_unfolding_all rfl
theorem R.ref02_Add : R F.ref02_Add = some (.rc RC.ref02_Add) := by with_unfolding_all rfl
theorem R.order_compare : R F.order_compare = some (.rc RC.order_compare) := by with_unfolding_all rfl
theorem R.slices_Clone_api_Want_api_Want : R F.slices_Clone_api_Want_api_Want = some (.rc RC.slices_Clone_api_Want_api_Want) := by with_unfolding_all rfl
theorem R.slices_SortFunc_api_Want_api_Want : R F.slices_SortFunc_api_Want_api_Want = some (.rc RC.slices_SortFunc_api_Want_api_Want) := by with_unfolding_all rfl
theorem R.cmp_Or_int : R F.cmp_Or_int = some (.rc RC.cmp_Or_int) := by with_unfolding_all rfl
theorem R.cmp_Compare_int : R F.cmp_Compare_int = some (.rc RC.cmp_Compare_int) := by with_unfolding_all rfl
theorem R.slices_pdqsortCmpFunc_api_Want : R F.slices_pdqsortCmpFunc_api_Want = some (.rc RC.slices_pdqsortCmpFunc_api_Want) := by with_unfolding_all rfl
theorem R.math_bits_Len : R F.math_bits_Len = some (.rc RC.math_bits_Len) := by with_unfolding_all rfl
theorem R.cmp_isNaN_int : R F.cmp_isNaN_int = some (.rc RC.cmp_isNaN_int) := by with_unfolding_all rfl
theorem R.slices_insertionSortCmpFunc_api_Want : R F.slices_insertionSortCmpFunc_api_Want = some (.rc RC.slices_insertionSortCmpFunc_api_Want) := by with_unfolding_all rfl
theorem R.slices_heapSortCmpFunc_api_Want : R F.slices_heapSortCmpFunc_api_Want = some (.rc RC.slices_heapSortCmpFunc_api_Want) := by with_unfolding_all rfl
theorem R.slices_breakPatternsCmpFunc_api_Want : R F.slices_breakPatternsCmpFunc_api_Want = some (.rc RC.slices_breakPatternsCmpFunc_api_Want) := by with_unfolding_all rfl
theorem R.slices_choosePivotCmpFunc_api_Want : R F.slices_choosePivotCmpFunc_api_Want = some (.rc RC.slices_choosePivotCmpFunc_api_Want) := by with_unfolding_all rfl
theorem R.slices_reverseRangeCmpFunc_api_Want : R F.slices_reverseRangeCmpFunc_api_Want = some (.rc RC.slices_reverseRangeCmpFunc_api_Want) := by with_unfolding_all rfl
theorem R.slices_partialInsertionSortCmpFunc_api_Want : R F.slices_partialInsertionSortCmpFunc_api_Want = some (.rc RC.slices_partialInsertionSortCmpFunc_api_Want) := by with_unfolding_all rfl
theorem R.slices_partitionEqualCmpFunc_api_Want : R F.slices_partitionEqualCmpFunc_api_Want = some (.rc RC.slices_partitionEqualCmpFunc_api_Want) := by with_unfolding_all rfl
theorem R.slices_partitionCmpFunc_api_Want : R F.slices_partitionCmpFunc_api_Want = some (.rc RC.slices_partitionCmpFunc_api_Want) := by with_unfolding_all rfl
theorem R.math_bits_Len32 : R F.math_bits_Len32 = some (.rc RC.math_bits_Len32) := by with_unfolding_all rfl
theorem R.math_bits_Len64 : R F.math_bits_Len64 = some (.rc RC.math_bits_Len64) := by with_unfolding_all rfl
theorem R.slices_siftDownCmpFunc_api_Want : R F.slices_siftDownCmpFunc_api_Want = some (.rc RC.slices_siftDownCmpFunc_api_Want) := by with_unfolding_all rfl
theorem R.slices_nextPowerOfTwo : R F.slices_nextPowerOfTwo = some (.rc RC.slices_nextPowerOfTwo) := by with_unfolding_all rfl
theorem R.slices_xorshift_Next : R F.slices_xorshift_Next = some (.rc RC.slices_xorshift_Next) := by with_unfolding_all rfl
theorem R.slices_medianAdjacentCmpFunc_api_Want : R F.slices_medianAdjacentCmpFunc_api_Want = some (.rc RC.slices_medianAdjacentCmpFunc_api_Want) := by with_unfolding_all rfl
theorem R.slices_medianCmpFunc_api_Want : R F.slices_medianCmpFunc_api_Want = some (.rc RC.slices_medianCmpFunc_api_Want) := by with_unfolding_all rfl
theorem R.slices_order2CmpFunc_api_Want : R F.slices_order2CmpFunc_api_Want = some (.rc RC.slices_order2CmpFunc_api_Want) := by with_unfolding_all rfl
end Go.Am


/- The table of the layer order is as the program has it. Printed by lawgen.py. -/
namespace Go.Am
open Go.Proofs
set_option maxRecDepth 100000

/-- Nothing is asked of the world. -/
def G : Nat → World → Prop := fun _ _ => True
instance : Keeps G := ⟨fun _ _ _ _ h => h⟩
instance : Rises G := ⟨fun _ _ _ _ h => h⟩
theorem hmix : Try.prog.follows .mixedOrders = true := by kernel_rfl
theorem E.law08_OrderUnits : EntOk Try.prog G F.law08_OrderUnits (.rc RC.law08_OrderUnits) := ⟨Try.f3, by unfold F.law08_OrderUnits; exact Try.func3, by kernel_rfl, by kernel_rfl⟩
theorem E.law08_OrderChecks : EntOk Try.prog G F.law08_OrderChecks (.rc RC.law08_OrderChecks) := ⟨Try.f4, by unfold F.law08_OrderChecks; exact Try.func4, by kernel_rfl, by kernel_rfl⟩
theorem E.order_Unit : EntOk Try.prog G F.order_Unit (.rc RC.order_Unit) := ⟨Try.f7, by unfold F.order_Unit; exact Try.func7, by kernel_rfl, by kernel_rfl⟩
theorem E.order_Kind : EntOk Try.prog G F.order_Kind (.rc RC.order_Kind) := ⟨Try.f8, by unfold F.order_Kind; exact Try.func8, by kernel_rfl, by kernel_rfl⟩
theorem E.ref08_Is : EntOk Try.prog G F.ref08_Is (.rc RC.ref08_Is) := ⟨Try.f9, by unfold F.ref08_Is; exact Try.func9, by kernel_rfl, by kernel_rfl⟩
theorem E.ref08_Group : EntOk Try.prog G F.ref08_Group (.rc RC.ref08_Group) := ⟨Try.f10, by unfold F.ref08_Group; exact Try.func10, by kernel_rfl, by kernel_rfl⟩
theorem E.law08_awake : EntOk Try.prog G F.law08_awake (.rc RC.law08_awake) := ⟨Try.f11, by unfold F.law08_awake; exact Try.func11, by kernel_rfl, by kernel_rfl⟩
theorem E.order_Total : EntOk Try.prog G F.order_Total (.rc RC.order_Total) := ⟨Try.f12, by unfold F.order_Total; exact Try.func12, by kernel_rfl, by kernel_rfl⟩
theorem E.ref08_Total : EntOk Try.prog G F.ref08_Total (.rc RC.ref08_Total) := ⟨Try.f13, by unfold F.ref08_Total; exact Try.func13, by kernel_rfl, by kernel_rfl⟩
theorem E.order_Check : EntOk Try.prog G F.order_Check (.rc RC.order_Check) := ⟨Try.f14, by unfold F.order_Check; exact Try.func14, by kernel_rfl, by kernel_rfl⟩
theorem E.ref08_Check : EntOk Try.prog G F.ref08_Check (.rc RC.ref08_Check) := ⟨Try.f15, by unfold F.ref08_Check; exact Try.func15, by kernel_rfl, by kernel_rfl⟩
theorem E.ref08_Same : EntOk Try.prog G F.ref08_Same (.rc RC.ref08_Same) := ⟨Try.f19, by unfold F.ref08_Same; exact Try.func19, by kernel_rfl, by kernel_rfl⟩
theorem E.order_Sort : EntOk Try.prog G F.order_Sort (.rc RC.order_Sort) := ⟨Try.f20, by unfold F.order_Sort; exact Try.func20, by kernel_rfl, by kernel_rfl⟩
theorem E.fixq_Add : EntOk Try.prog G F.fixq_Add (.rc RC.fixq_Add) := ⟨Try.f25, by unfold F.fixq_Add; exact Try.func25, by kernel_rfl, by kernel_rfl⟩
theorem E.ref02_Add : EntOk Try.prog G F.ref02_Add (.rc RC.ref02_Add) := ⟨Try.f26, by unfold F.ref02_Add; exact Try.func26, by kernel_rfl, by kernel_rfl⟩
theorem E.order_compare : EntOk Try.prog G F.order_compare (.rc RC.order_compare) := ⟨Try.f27, by unfold F.order_compare; exact Try.func27, by kernel_rfl, by kernel_rfl⟩
theorem E.slices_Clone_api_Want_api_Want : EntOk Try.prog G F.slices_Clone_api_Want_api_Want (.rc RC.slices_Clone_api_Want_api_Want) := ⟨Try.f29, by unfold F.slices_Clone_api_Want_api_Want; exact Try.func29, by kernel_rfl, by kernel_rfl⟩
theorem E.slices_SortFunc_api_Want_api_Want : EntOk Try.prog G F.slices_SortFunc_api_Want_api_Want (.rc RC.slices_SortFunc_api_Want_api_Want) := ⟨Try.f30, by unfold F.slices_SortFunc_api_Want_api_Want; exact Try.func30, by kernel_rfl, by kernel_rfl⟩
theorem E.cmp_Or_int : EntOk Try.prog G F.cmp_Or_int (.rc RC.cmp_Or_int) := ⟨Try.f33, by unfold F.cmp_Or_int; exact Try.func33, by kernel_rfl, by kernel_rfl⟩
theorem E.cmp_Compare_int : EntOk Try.prog G F.cmp_Compare_int (.rc RC.cmp_Compare_int) := ⟨Try.f34, by unfold F.cmp_Compare_int; exact Try.func34, by kernel_rfl, by kernel_rfl⟩
theorem E.slices_pdqsortCmpFunc_api_Want : EntOk Try.prog G F.slices_pdqsortCmpFunc_api_Want (.rc RC.slices_pdqsortCmpFunc_api_Want) := ⟨Try.f37, by unfold F.slices_pdqsortCmpFunc_api_Want; exact Try.func37, by kernel_rfl, by kernel_rfl⟩
theorem E.math_bits_Len : EntOk Try.prog G F.math_bits_Len (.rc RC.math_bits_Len) := ⟨Try.f38, by unfold F.math_bits_Len; exact Try.func38, by kernel_rfl, by kernel_rfl⟩
theorem E.cmp_isNaN_int : EntOk Try.prog G F.cmp_isNaN_int (.rc RC.cmp_isNaN_int) := ⟨Try.f40, by unfold F.cmp_isNaN_int; exact Try.func40, by kernel_rfl, by kernel_rfl⟩
theorem E.slices_insertionSortCmpFunc_api_Want : EntOk Try.prog G F.slices_insertionSortCmpFunc_api_Want (.rc RC.slices_insertionSortCmpFunc_api_Want) := ⟨Try.f42, by unfold F.slices_insertionSortCmpFunc_api_Want; exact Try.func42, by kernel_rfl, by kernel_rfl⟩
theorem E.slices_heapSortCmpFunc_api_Want : EntOk Try.prog G F.slices_heapSortCmpFunc_api_Want (.rc RC.slices_heapSortCmpFunc_api_Want) := ⟨Try.f43, by unfold F.slices_heapSortCmpFunc_api_Want; exact Try.func43, by kernel_rfl, by kernel_rfl⟩
theorem E.slices_breakPatternsCmpFunc_api_Want : EntOk Try.prog G F.slices_breakPatternsCmpFunc_api_Want (.rc RC.slices_breakPatternsCmpFunc_api_Want) := ⟨Try.f44, by unfold F.slices_breakPatternsCmpFunc_api_Want; exact Try.func44, by kernel_rfl, by kernel_rfl⟩
theorem E.slices_choosePivotCmpFunc_api_Want : EntOk Try.prog G F.slices_choosePivotCmpFunc_api_Want (.rc RC.slices_choosePivotCmpFunc_api_Want) := ⟨Try.f45, by unfold F.slices_choosePivotCmpFunc_api_Want; exact Try.func45, by kernel_rfl, by kernel_rfl⟩
theorem E.slices_reverseRangeCmpFunc_api_Want : EntOk Try.prog G F.slices_reverseRangeCmpFunc_api_Want (.rc RC.slices_reverseRangeCmpFunc_api_Want) := ⟨Try.f46, by unfold F.slices_reverseRangeCmpFunc_api_Want; exact Try.func46, by kernel_rfl, by kernel_rfl⟩
theorem E.slices_partialInsertionSortCmpFunc_api_Want : EntOk Try.prog G F.slices_partialInsertionSortCmpFunc_api_Want (.rc RC.slices_partialInsertionSortCmpFunc_api_Want) := ⟨Try.f47, by unfold F.slices_partialInsertionSortCmpFunc_api_Want; exact Try.func47, by kernel_rfl, by kernel_rfl⟩
theorem E.slices_partitionEqualCmpFunc_api_Want : EntOk Try.prog G F.slices_partitionEqualCmpFunc_api_Want (.rc RC.slices_partitionEqualCmpFunc_api_Want) := ⟨Try.f48, by unfold F.slices_partitionEqualCmpFunc_api_Want; exact Try.func48, by kernel_rfl, by kernel_rfl⟩
theorem E.slices_partitionCmpFunc_api_Want : EntOk Try.prog G F.slices_partitionCmpFunc_api_Want (.rc RC.slices_partitionCmpFunc_api_Want) := ⟨Try.f49, by unfold F.slices_partitionCmpFunc_api_Want; exact Try.func49, by kernel_rfl, by kernel_rfl⟩
theorem E.math_bits_Len32 : EntOk Try.prog G F.math_bits_Len32 (.rc RC.math_bits_Len32) := ⟨Try.f50, by unfold F.math_bits_Len32; exact Try.func50, by kernel_rfl, by kernel_rfl⟩
theorem E.math_bits_Len64 : EntOk Try.prog G F.math_bits_Len64 (.rc RC.math_bits_Len64) := ⟨Try.f51, by unfold F.math_bits_Len64; exact Try.func51, by kernel_rfl, by kernel_rfl⟩
theorem E.slices_siftDownCmpFunc_api_Want : EntOk Try.prog G F.slices_siftDownCmpFunc_api_Want (.rc RC.slices_siftDownCmpFunc_api_Want) := ⟨Try.f53, by unfold F.slices_siftDownCmpFunc_api_Want; exact Try.func53, by kernel_rfl, by kernel_rfl⟩
theorem E.slices_nextPowerOfTwo : EntOk Try.prog G F.slices_nextPowerOfTwo (.rc RC.slices_nextPowerOfTwo) := ⟨Try.f54, by unfold F.slices_nextPowerOfTwo; exact Try.func54, by kernel_rfl, by kernel_rfl⟩
theorem E.slices_xorshift_Next : EntOk Try.prog G F.slices_xorshift_Next (.rc RC.slices_xorshift_Next) := ⟨Try.f55, by unfold F.slices_xorshift_Next; exact Try.func55, by kernel_rfl, by kernel_rfl⟩
theorem E.slices_medianAdjacentCmpFunc_api_Want : EntOk Try.prog G F.slices_medianAdjacentCmpFunc_api_Want (.rc RC.slices_medianAdjacentCmpFunc_api_Want) := ⟨Try.f56, by unfold F.slices_medianAdjacentCmpFunc_api_Want; exact Try.func56, by kernel_rfl, by kernel_rfl⟩
theorem E.slices_medianCmpFunc_api_Want : EntOk Try.prog G F.slices_medianCmpFunc_api_Want (.rc RC.slices_medianCmpFunc_api_Want) := ⟨Try.f57, by unfold F.slices_medianCmpFunc_api_Want; exact Try.func57, by kernel_rfl, by kernel_rfl⟩
theorem E.slices_order2CmpFunc_api_Want : EntOk Try.prog G F.slices_order2CmpFunc_api_Want (.rc RC.slices_order2CmpFunc_api_Want) := ⟨Try.f58, by unfold F.slices_order2CmpFunc_api_Want; exact Try.func58, by kernel_rfl, by kernel_rfl⟩
theorem ents : EntsOk Try.prog G tab0 := ⟨E.law08_OrderUnits, E.law08_OrderChecks, E.order_Unit, E.order_Kind, E.ref08_Is, E.ref08_Group, E.law08_awake, E.order_Total, E.ref08_Total, E.order_Check, E.ref08_Check, E.ref08_Same, E.order_Sort, E.fixq_Add, E.ref02_Add, E.order_compare, E.slices_Clone_api_Want_api_Want, E.slices_SortFunc_api_Want_api_Want, E.cmp_Or_int, E.cmp_Compare_int, E.slices_pdqsortCmpFunc_api_Want, E.math_bits_Len, E.cmp_isNaN_int, E.slices_insertionSortCmpFunc_api_Want, E.slices_heapSortCmpFunc_api_Want, E.slices_breakPatternsCmpFunc_api_Want, E.slices_choosePivotCmpFunc_api_Want, E.slices_reverseRangeCmpFunc_api_Want, E.slices_partialInsertionSortCmpFunc_api_Want, E.slices_partitionEqualCmpFunc_api_Want, E.slices_partitionCmpFunc_api_Want, E.math_bits_Len32, E.math_bits_Len64, E.slices_siftDownCmpFunc_api_Want, E.slices_nextPowerOfTwo, E.slices_xorshift_Next, E.slices_medianAdjacentCmpFunc_api_Want, E.slices_medianCmpFunc_api_Want, E.slices_order2CmpFunc_api_Want, trivial⟩
theorem tabOk0 : TabOk Try.prog G R0 := TabOk.of ents
theorem C.law08_awake : EntOk Try.prog G F.law08_awake (.ext X.ok) := X.ok_sim (const_sim hmix tabOk0 (n := 1000) (by kernel_rfl))
theorem tabOk : TabOk Try.prog G R := TabOk.of (l := tab) (⟨C.law08_awake, ents⟩)
end Go.Am


/- Blocks, by their numbers: loads and stores as what they do to a block's cells. -/
set_option linter.unusedVariables false
namespace Go.Am

def ldW : Option AObj → Nat → Option Value
  | some (.cells c _), o => c[o]?
  | _, _ => none
def ldA : Option AObj → Nat → Nat → Option Value
  | some (.cells c _), o, sz => if o + sz ≤ c.length then some (.agg ((c.drop o).take sz).toArray) else none
  | _, _, _ => none
def stB (m : Mem) (b : Nat) : Option AObj → Nat → List Value → Option Mem
  | some (.cells c (some u)), o, vs => if o + vs.length ≤ c.length ∧ oneCells vs = true then some (m.set b (some (.cells (writeL c o vs) (some u)))) else none
  | _, _, _ => none

theorem ldW_c {c : List Value} {own : Option Nat} {o : Nat} : ldW (some (.cells c own)) o = c[o]? := rfl
theorem ldA_c {c : List Value} {own : Option Nat} {o sz : Nat} : ldA (some (.cells c own)) o sz = if o + sz ≤ c.length then some (.agg ((c.drop o).take sz).toArray) else none := rfl
theorem stB_c {m : Mem} {b u o : Nat} {c vs : List Value} : stB m b (some (.cells c (some u))) o vs = if o + vs.length ≤ c.length ∧ oneCells vs = true then some (m.set b (some (.cells (writeL c o vs) (some u)))) else none := rfl

theorem load_w {m : Mem} {sz b o : Nat} : aLoad false sz m (.pointer (some ⟨b, o, none⟩)) = ldW (m.blk b) o := by
  simp only [aLoad, Bool.false_eq_true, if_false]
  unfold ldW
  split <;> simp_all
theorem load_a {m : Mem} {sz b o : Nat} : aLoad true sz m (.pointer (some ⟨b, o, none⟩)) = ldA (m.blk b) o sz := by
  simp only [aLoad, if_true]
  unfold ldA
  split <;> simp_all
theorem store_b {m : Mem} {sz b o : Nat} {v : Value} : aStore sz m (.pointer (some ⟨b, o, none⟩)) v = if v.cells.size = sz then stB m b (m.blk b) o v.cells.toList else none := by
  simp only [aStore]
  split
  · unfold aWrite stB
    split <;> simp_all
  · rfl
theorem idxS_b {u b o n c : Nat} {k : IntKind} {i : Int} : aIdxS u (.slice (some ⟨b, o, none⟩) n c) (.int k i) = if 0 ≤ i ∧ i < n then some (.pointer (some ⟨b, o + i.toNat * u, none⟩)) else none := rfl
theorem set_blk {m : Mem} {b k : Nat} {o : Option AObj} : (m.set b o).blk k = if k = b then o else m.blk k := rfl
theorem new_blk {m : Mem} {k : Nat} {o : AObj} : (m.new o).blk k = if k = m.next then some o else m.blk k := rfl
theorem set_next {m : Mem} {b : Nat} {o : Option AObj} : (m.set b o).next = m.next := rfl
theorem new_next {m : Mem} {o : AObj} : (m.new o).next = m.next + 1 := rfl
theorem len_s {a : Option Addr} {n c : Nat} : aLen (.slice a n c) = some (.int .i64 n) := rfl
theorem writeL_one {cs : List Value} {i : Nat} {v : Value} (h : i < cs.length) : writeL cs i [v] = cs.set i v := writeL_set h
theorem toArr_one {v : Value} : (#[v] : Array Value).toList = [v] := rfl
theorem size_one {v : Value} : (#[v] : Array Value).size = 1 := rfl
theorem toList_toArr {l : List Value} : l.toArray.toList = l := rfl
theorem size_toArr {l : List Value} : l.toArray.size = l.length := by simp

/-- What is at these blocks may have changed; all else is as it was. -/
structure Upd (m m' : Mem) (fp : List Nat) : Prop where
  next : m.next ≤ m'.next
  same : ∀ b, b < m.next → b ∉ fp → m'.blk b = m.blk b

theorem Upd.refl (m : Mem) (fp : List Nat) : Upd m m fp := ⟨Nat.le_refl _, fun _ _ _ => rfl⟩
theorem Upd.trans {a b c : Mem} {fp fq fr : List Nat} (h : Upd a b fp) (k : Upd b c fq) (h1 : ∀ x ∈ fp, x ∈ fr) (h2 : ∀ x ∈ fq, x ∈ fr ∨ a.next ≤ x) : Upd a c fr :=
  ⟨Nat.le_trans h.next k.next, fun x hx hn => by
    rw [k.same x (Nat.lt_of_lt_of_le hx h.next) (fun hm => by rcases h2 x hm with h3 | h3; exact hn h3; omega), h.same x hx (fun hm => hn (h1 x hm))]⟩
theorem Ext.upd {m m' : Mem} (h : Ext m m') {fp : List Nat} : Upd m m' fp := ⟨h.next, fun b hb _ => h.same b hb⟩
theorem Upd.ext {m m' : Mem} (h : Upd m m' []) : Ext m m' := ⟨h.next, fun b hb => h.same b hb (by simp)⟩
theorem Upd.set {m : Mem} {b : Nat} {o : Option AObj} {fp : List Nat} (h : b ∈ fp) : Upd m (m.set b o) fp :=
  ⟨Nat.le_refl _, fun x hx hn => by rw [set_blk, if_neg (fun e => hn (by rw [e]; exact h))]⟩
/-- Only blocks from some number on have changed. -/
theorem Upd.ext_of {m0 m m' : Mem} {fp : List Nat} (h0 : Ext m0 m) (h : Upd m m' fp) (hf : ∀ x ∈ fp, m0.next ≤ x) : Ext m0 m' :=
  ⟨Nat.le_trans h0.next h.next, fun b hb => by
    rw [h.same b (Nat.lt_of_lt_of_le hb h0.next) (fun hm => by have := hf b hm; omega), h0.same b hb]⟩
end Go.Am


/- More of slices that grow: whole slices put behind. -/
set_option linter.unusedVariables false
namespace Go.Am

theorem Sl.src {m : Mem} {u k : Nat} {xs : List Value} {x : Value} (h : Sl m u k xs x) : aSrc u k m x = some xs ∧ sliceLen x = some k := by
  cases h with
  | nil h hc => subst h; subst hc; exact ⟨rfl, rfl⟩
  | «at» hc h =>
    refine ⟨?_, rfl⟩
    simp only [aSrc]
    split
    · rename_i e; subst e
      have := aCells_len h
      rw [Nat.zero_mul] at this
      rw [List.eq_nil_of_length_eq_zero this]
    · rw [if_pos (Nat.le_refl _)]; exact h

/-- All of a slice behind one's own. -/
theorem Own.appAll {m0 m : Mem} {u n k by_ : Nat} {cs xs : List Value} {v x : Value} (h : Own m0 m u n cs v) (hx : Ext m0 m) (hs : Sl m u k xs x) (h1 : oneCells xs = true) (hby : (n + k) * by_ ≤ 2 ^ 47) (hn : n + k < 2 ^ 62) (hfull : ∀ a p q, v = .slice a p q → p = q) :
    ∃ v' m', aApp none u by_ m v x = some (v', m') ∧ Own m0 m' u (n + k) (cs ++ xs) v' ∧ Ext m0 m' := by
  obtain ⟨hsrc, hlen⟩ := hs.src
  have hxl := hs.length
  cases h with
  | nil h hc =>
    subst h; subst hc
    by_cases hk : k = 0
    · subst hk
      refine ⟨.slice none 0 0, m, by simp [aApp, hlen, hsrc], .nil rfl ?_, hx⟩
      rw [Nat.zero_mul] at hxl
      rw [List.eq_nil_of_length_eq_zero hxl]; rfl
    · refine ⟨.slice (some ⟨m.next, 0, none⟩) k k, m.new (.cells xs (some u)), ?_, ?_, hx.trans Ext.new⟩
      · simp only [aApp, hlen, Option.bind_some, hsrc, hk, if_false]
        rw [if_pos ⟨by simpa using hby, by simpa using hn, h1⟩]
        rfl
      · rw [Nat.zero_add, List.nil_append]
        exact .at (all := xs) hx.next (by simp [Mem.new]) (Nat.le_refl _) (by simp [Mem.new]) hxl (by rw [← hxl, List.take_length]) h1
  | @«at» b c all hb hb2 hnc hm hl hcs hone =>
    by_cases hk : k = 0
    · subst hk
      rw [Nat.zero_mul] at hxl
      have hxs := List.eq_nil_of_length_eq_zero hxl
      subst hxs
      refine ⟨.slice (some ⟨b, 0, none⟩) n c, m, ?_, by rw [List.append_nil]; exact .at hb hb2 hnc hm hl hcs hone, hx⟩
      simp only [aApp, hlen, Option.bind_some, hsrc, if_true]
      rw [if_pos ⟨hnc, by rw [hm]; rfl⟩]
    · by_cases hroom : n + k ≤ c
      · have hle : n * u + k * u ≤ c * u := by rw [← Nat.add_mul]; exact Nat.mul_le_mul_right _ hroom
        refine ⟨.slice (some ⟨b, 0, none⟩) (n + k) c, m.set b (some (.cells (writeL all (n * u) xs) (some u))), ?_, ?_, hx.set hb⟩
        · simp only [aApp, hlen, Option.bind_some, hsrc, hk, if_false, Nat.zero_add]
          rw [if_pos hroom]
          unfold aWrite
          rw [hm]
          simp only
          rw [if_pos ⟨by omega, h1⟩]; rfl
        · refine .at (all := writeL all (n * u) xs) hb (by simpa [Mem.set] using hb2) hroom (by simp [Mem.set]) ?_ ?_ (oneCells_append hone h1)
          · unfold writeL; simp; omega
          · unfold writeL
            rw [Nat.add_mul, List.append_assoc, List.take_append]
            have e : (all.take (n * u)).length = n * u := by simp; omega
            rw [e, List.take_of_length_le (by omega), show n * u + k * u - n * u = xs.length by omega, List.take_left, hcs]
      · have hcn : n = c := hfull _ _ _ rfl
        subst hcn
        have hall : all.take (n * u) = all := by rw [← hl, List.take_length]
        rw [hall] at hcs
        subst hcs
        refine ⟨.slice (some ⟨m.next, 0, none⟩) (n + k) (n + k), (m.set b none).new (.cells (all ++ xs) (some u)), ?_, ?_, (hx.set hb).trans Ext.new⟩
        · simp only [aApp, hlen, Option.bind_some, hsrc, hk, if_false, Nat.zero_add]
          rw [if_neg hroom, hm]
          simp only [List.drop_zero, hall]
          rw [if_pos ⟨hby, hn, h1, hone, Nat.le_refl _, by omega, .inr ⟨by first | rfl | trivial, .inr (by first | rfl | trivial)⟩⟩]
          simp only [Option.isSome_some, true_and, hl, if_true, place]
          rfl
        · refine .at (all := all ++ xs) (by have := hx.next; omega) (by simp [Mem.new, Mem.set]) (Nat.le_refl _) (by simp [Mem.new, Mem.set]) (by simp [hl, hxl, Nat.add_mul]) ?_ (oneCells_append hone h1)
          rw [Nat.add_mul, List.take_of_length_le (by simp; omega)]

/-- A slice, copied: what stands behind an empty one. -/
theorem app_copy {m : Mem} {u k by_ : Nat} {xs : List Value} {x : Value} (hs : Sl (m.new (.cells [] (some u))) u k xs x) (h1 : oneCells xs = true) (hby : k * by_ ≤ 2 ^ 47) (hn : k < 2 ^ 62) :
    ∃ v' m', aApp none u by_ (m.new (.cells [] (some u))) (.slice (some ⟨m.next, 0, none⟩) 0 0) x = some (v', m') ∧ Own m m' u k xs v' ∧ Ext m m' := by
  have ho : Own m (m.new (.cells [] (some u))) u 0 [] (.slice (some ⟨m.next, 0, none⟩) 0 0) :=
    .at (all := []) (Nat.le_refl _) (by simp [Mem.new]) (Nat.le_refl _) (by simp [Mem.new]) (by simp) (by simp) rfl
  have := ho.appAll (by_ := by_) Ext.new hs h1 (by simpa using hby) (by simpa using hn) (by intro a p q h; cases h; rfl)
  simpa using this

/-- The same, with where it stands. -/
theorem app_copy_at {m : Mem} {u k by_ : Nat} {xs : List Value} {x : Value} (hs : Sl (m.new (.cells [] (some u))) u k xs x) (h1 : oneCells xs = true) (hby : k * by_ ≤ 2 ^ 47) (hn : k < 2 ^ 62) (hk : k ≠ 0) :
    ∃ m', aApp none u by_ (m.new (.cells [] (some u))) (.slice (some ⟨m.next, 0, none⟩) 0 0) x = some (.slice (some ⟨m.next + 1, 0, none⟩) k k, m') ∧ m'.blk (m.next + 1) = some (.cells xs (some u)) ∧ m'.next = m.next + 2 ∧ Ext m m' := by
  obtain ⟨hsrc, hlen⟩ := hs.src
  refine ⟨((m.new (.cells [] (some u))).set m.next none).new (.cells xs (some u)), ?_, by simp [Mem.new, Mem.set], by simp [Mem.new, Mem.set], (Ext.new.set (Nat.le_refl _)).trans Ext.new⟩
  have hb : (m.new (.cells [] (some u))).blk m.next = some (.cells [] (some u)) := by simp [Mem.new]
  simp only [aApp, hlen, Option.bind_some, hsrc, hk, if_false, Nat.zero_add]
  rw [if_neg (by omega), hb]
  simp only [List.drop_nil, List.take_nil, Nat.zero_mul, List.length_nil, List.nil_append]
  rw [if_pos ⟨by simpa using hby, by simpa using hn, h1, by first | rfl | trivial, Nat.le_refl _, Nat.le_refl _, .inr ⟨by first | rfl | trivial, .inr (by first | rfl | trivial)⟩⟩]
  simp [place, Mem.new, Mem.set]
  rfl

/-- The same behind nothing. -/
theorem app_nil {m : Mem} {u k by_ : Nat} {xs : List Value} {x : Value} (hs : Sl m u k xs x) (h1 : oneCells xs = true) (hby : k * by_ ≤ 2 ^ 47) (hn : k < 2 ^ 62) :
    ∃ v' m', aApp none u by_ m (.slice none 0 0) x = some (v', m') ∧ Own m m' u k xs v' ∧ Ext m m' := by
  have ho : Own m m u 0 [] (.slice none 0 0) := .nil rfl rfl
  have := ho.appAll (by_ := by_) (Ext.refl _) hs h1 (by simpa using hby) (by simpa using hn) (by intro a p q h; cases h; rfl)
  simpa using this

/-- A slice whose block is none of some. -/
def SlOff (fp : List Nat) : Value → Prop
  | .slice (some a) _ _ => a.block ∉ fp
  | _ => True

theorem Sl.upd {m m' : Mem} {u n : Nat} {cs : List Value} {v : Value} {fp : List Nat} (h : Sl m u n cs v) (hb : SlLt m v) (ho : SlOff fp v) (hx : Upd m m' fp) : Sl m' u n cs v := by
  cases h with
  | nil h hc => exact .nil h hc
  | «at» hc h =>
    refine .at hc ?_
    unfold aCells at h ⊢
    rw [hx.same _ hb ho]; exact h

theorem SlLt.upd {m m' : Mem} {v : Value} {fp : List Nat} (h : SlLt m v) (hx : Upd m m' fp) : SlLt m' v := by
  unfold SlLt at *
  split <;> simp_all
  exact Nat.lt_of_lt_of_le h hx.next

theorem Own.lt {m0 m : Mem} {u n : Nat} {cs : List Value} {v : Value} (h : Own m0 m u n cs v) : SlLt m v := by
  cases h with
  | nil h hc => trivial
  | «at» hb hb2 hn hm hl hcs h1 => exact hb2
theorem Own.off {m0 m : Mem} {u n : Nat} {cs : List Value} {v : Value} {fp : List Nat} (h : Own m0 m u n cs v) (hf : ∀ x ∈ fp, x < m0.next) : SlOff fp v := by
  cases h with
  | nil h hc => trivial
  | «at» hb hb2 hn hm hl hcs h1 => intro hm; have := hf _ hm; simp only at this; omega

/-- One more behind one's own, where the new block's number is given. -/
theorem Own.appAt {m0 m : Mem} {u n by_ q : Nat} {cs xs : List Value} {v x : Value} (h : Own m0 m u n cs v) (hx : Ext m0 m) (hs : Sl m u 1 xs x) (h1 : oneCells xs = true) (hby : (n + 1) * by_ ≤ 2 ^ 47) (hn : n + 1 < 2 ^ 62) (hq : m0.next ≤ q) (hq2 : q < m.next) (ho : SlOff [q] v) :
    ∃ v' m', aApp (some q) u by_ m v x = some (v', m') ∧ Own m0 m' u (n + 1) (cs ++ xs) v' ∧ Ext m0 m' := by
  obtain ⟨hsrc, hlen⟩ := hs.src
  have hxl := hs.length
  cases h with
  | nil h hc =>
    subst h; subst hc
    refine ⟨.slice (some ⟨q, 0, none⟩) 1 1, m.set q (some (.cells xs (some u))), ?_, ?_, hx.set hq⟩
    · simp only [aApp, hlen, Option.bind_some, hsrc, Nat.one_ne_zero, if_false]
      rw [if_pos ⟨by simpa using hby, by simp, h1⟩]
      rfl
    · rw [Nat.zero_add, List.nil_append]
      exact .at (all := xs) hq (by simpa [Mem.set] using hq2) (Nat.le_refl _) (by simp [Mem.set]) hxl (by rw [← hxl, List.take_length]) h1
  | @«at» b c all hb hb2 hnc hm hl hcs hone =>
    have hbq : b ≠ q := by intro e; subst e; simp [SlOff] at ho
    by_cases hroom : n + 1 ≤ c
    · have hle : n * u + 1 * u ≤ c * u := by rw [← Nat.add_mul]; exact Nat.mul_le_mul_right _ hroom
      refine ⟨.slice (some ⟨b, 0, none⟩) (n + 1) c, m.set b (some (.cells (writeL all (n * u) xs) (some u))), ?_, ?_, hx.set hb⟩
      · simp only [aApp, hlen, Option.bind_some, hsrc, Nat.one_ne_zero, if_false, Nat.zero_add]
        rw [if_pos hroom]
        unfold aWrite
        rw [hm]
        simp only
        rw [if_pos ⟨by omega, h1⟩]; rfl
      · refine .at (all := writeL all (n * u) xs) hb (by simpa [Mem.set] using hb2) hroom (by simp [Mem.set]) ?_ ?_ (oneCells_append hone h1)
        · unfold writeL; simp; omega
        · unfold writeL
          rw [Nat.add_mul, List.append_assoc, List.take_append]
          have e : (all.take (n * u)).length = n * u := by simp; omega
          rw [e, List.take_of_length_le (by omega), show n * u + 1 * u - n * u = xs.length by omega, List.take_left, hcs]
    · have hcn : n = c := by omega
      subst hcn
      have hall : all.take (n * u) = all := by rw [← hl, List.take_length]
      rw [hall] at hcs
      subst hcs
      refine ⟨.slice (some ⟨q, 0, none⟩) (n + 1) (n + 1), (m.set b none).set q (some (.cells (all ++ xs) (some u))), ?_, ?_, (hx.set hb).set hq⟩
      · simp only [aApp, hlen, Option.bind_some, hsrc, Nat.one_ne_zero, if_false, Nat.zero_add]
        rw [if_neg hroom, hm]
        simp only [List.drop_zero, hall]
        rw [if_pos ⟨hby, hn, h1, hone, Nat.le_refl _, by omega, .inr ⟨by first | rfl | trivial, .inr (by first | rfl | trivial)⟩⟩]
        simp only [Option.isSome_some, true_and, hl, if_true, place]
      · refine .at (all := all ++ xs) hq (by simpa [Mem.set] using hq2) (Nat.le_refl _) (by simp [Mem.set]) (by simp [hl, hxl, Nat.add_mul]) ?_ (oneCells_append hone h1)
        rw [Nat.add_mul, List.take_of_length_le (by simp; omega)]

/-- The same in an open order. -/
theorem Own.appD {m0 m : Mem} {u n by_ N s t : Nat} {cs es : List Value} {v : Value} (h : Own m0 m u n cs v) (hx : Ext m0 m) (he : es.length = u) (h1 : oneCells es = true) (hby : (n + 1) * by_ ≤ 2 ^ 47) (hn : n + 1 < 2 ^ 62) (hs : s < N) (ht : t < N) :
    ∃ v' m', aApp (some (m.next + t)) u by_ ((m.bump N).set (m.next + s) (some (.cells es (some u)))) v (.slice (some ⟨m.next + s, 0, none⟩) 1 1) = some (v', m') ∧ Own m0 m' u (n + 1) (cs ++ es) v' ∧ Ext m0 m' := by
  have hX : Ext m ((m.bump N).set (m.next + s) (some (.cells es (some u)))) := by
    refine Ext.set ⟨by simp, fun b hb => rfl⟩ (by omega)
  refine (h.keep hX).appAt (hx.trans hX) ?_ h1 hby hn (by have := hx.next; omega) (by simp [Mem.set]; omega) ?_
  · refine .at (Nat.le_refl _) ?_
    unfold aCells
    simp only [Mem.set, if_true, Nat.zero_add, List.drop_zero]
    rw [if_pos (by omega), Nat.one_mul, ← he, List.take_length]
  · have := h.lt
    revert this
    cases v <;> simp only [SlOff, SlLt] <;> try (intros; trivial)
    rename_i b _ _
    cases b <;> simp only [] <;> try (intros; trivial)
    intro h; simp; omega

/-- What a loop leaves may be told ahead, and used later. -/
theorem WL.mono {R : Nat → Option FEnt} {ks : List Nat} {c : RCode} {e : Env} {m : Mem} {Q Q' : Ex → Env → Mem → Prop} (h : WL R ks c e m Q) (hq : ∀ x e m, Q x e m → Q' x e m) : WL R ks c e m Q' := by
  intro Z hZ
  refine h Z fun e m hz => hZ e m (wp.mono (fun x e' m' hx => ?_) hz)
  exact onNormal.mono (fun _ _ _ h => hq _ _ _ h) (fun e m h => h) hx

theorem watchOk_nil {e : Env} {m m' : Mem} : watchOk e m m' [] = True := (rfl)
theorem watchOk_cons {e : Env} {m m' : Mem} {x : Nat} {r : List Nat} : watchOk e m m' (x :: r) = ((match Env.get e x with | some v => (match blkOf v with | some b => m'.blk b = m.blk b | none => True) | none => False) ∧ watchOk e m m' r) := (rfl)
theorem blkOf_ptr {b o : Nat} : blkOf (.pointer (some ⟨b, o, none⟩)) = some b := (rfl)
theorem blkOf_undef : blkOf undef = none := (rfl)
theorem blkOf_int {k : IntKind} {a : Int} : blkOf (.int k a) = none := (rfl)
attribute [go_sem] watchOk_nil watchOk_cons blkOf_ptr blkOf_undef blkOf_int
theorem load_bump {w : Bool} {u n : Nat} {m : Mem} {p : Value} : aLoad w u (m.bump n) p = aLoad w u m p := (rfl)
theorem blk_bump {n : Nat} {m : Mem} : (m.bump n).blk = m.blk := (rfl)
attribute [go_sem] load_bump blk_bump
theorem Ext.bump {m : Mem} {n : Nat} : Ext m (m.bump n) := ⟨by simp, fun b hb => rfl⟩

/-! ### parts of slices, copies -/

theorem unitOk_own {m : Mem} {b u : Nat} {cs : List Value} (h : m.blk b = some (.cells cs (some u))) : unitOk u m b = true := by unfold unitOk; rw [h]; simp

theorem sub_from {m : Mem} {b o n c u : Nat} {k : IntKind} {i : Nat} (hu : unitOk u m b = true) (h : i ≤ n) (hc : n ≤ c) :
    aSub u m (.slice (some ⟨b, o, none⟩) n c) (some (.int k i)) none none = some (.slice (some ⟨b, o + i * u, none⟩) (n - i) (c - i)) := by
  simp only [aSub, hu, if_true, aBounds, aBound]
  simp [h, cutAt, hc, Int.toNat_natCast]

theorem sub_to {m : Mem} {b o n c u : Nat} {k : IntKind} {i : Nat} (hu : unitOk u m b = true) (h : i ≤ c) :
    aSub u m (.slice (some ⟨b, o, none⟩) n c) none (some (.int k i)) none = some (.slice (some ⟨b, o, none⟩) i c) := by
  simp only [aSub, hu, if_true, aBounds, aBound]
  simp [h, cutAt, Int.toNat_natCast]

theorem sub_both {m : Mem} {b o n c u : Nat} {k k' : IntKind} {i j : Nat} (hu : unitOk u m b = true) (h : i ≤ j) (hj : j ≤ c) :
    aSub u m (.slice (some ⟨b, o, none⟩) n c) (some (.int k i)) (some (.int k' j)) none = some (.slice (some ⟨b, o + i * u, none⟩) (j - i) (c - i)) := by
  simp only [aSub, hu, if_true, aBounds, aBound]
  simp [h, hj, cutAt, Int.toNat_natCast]

/-- A copy into one's own block. -/
theorem copy_into {m : Mem} {b o n c u k : Nat} {cs xs : List Value} {x : Value} (hm : m.blk b = some (.cells cs (some u))) (hs : aSrc u (Nat.min k n) m x = some xs) (hl : sliceLen x = some k) (h1 : oneCells xs = true) (hx : xs.length = (Nat.min k n) * u) (ho : o + n * u ≤ cs.length) :
    aCopy u m (.slice (some ⟨b, o, none⟩) n c) x = some (.int .i64 (Nat.min k n : Nat), m.set b (some (.cells (writeL cs o xs) (some u)))) := by
  have hd : sliceLen (.slice (some ⟨b, o, none⟩) n c) = some n := rfl
  simp only [aCopy, hd, hl, Option.bind_some, hs]
  have hle : (Nat.min k n) * u ≤ n * u := Nat.mul_le_mul_right _ (Nat.min_le_right _ _)
  by_cases h0 : Nat.min k n = 0
  · rw [if_pos h0, h0]
    rw [h0, Nat.zero_mul] at hx
    have := List.eq_nil_of_length_eq_zero hx
    subst this
    have e : writeL cs o [] = cs := by unfold writeL; simp
    rw [e]
    have : m.set b (some (.cells cs (some u))) = m := by
      unfold Mem.set; congr 1; funext q; split
      · rename_i e; subst e; exact hm.symm
      · rfl
    rw [this]; rfl
  · rw [if_neg h0]
    unfold aWrite
    rw [hm]
    simp only
    rw [if_pos ⟨by omega, h1⟩]; rfl

theorem make_eq {m : Mem} {u by_ n : Nat} {z : List Value} {k k' : IntKind} (h1 : n < 2 ^ 62) (h2 : n * by_ ≤ 2 ^ 47) (h3 : z.length = u) (h4 : oneCells z = true) :
    aMake none u by_ z m (.int k n) (.int k' n) = some (.slice (some ⟨m.next, 0, none⟩) n n, m.new (.cells (zeros z n) (some u))) := by
  simp only [aMake, place]
  rw [if_pos ⟨by omega, by omega, by omega, by omega, h3, h4⟩, Int.toNat_natCast]

theorem zeros_int {n : Nat} : zeros [.int .i64 0] n = intsZ (List.replicate n 0) := by
  induction n with
  | zero => rfl
  | succ n ih => simp [zeros, ih, intsZ, List.replicate_succ]

/-! ### elements of more than one cell -/

theorem flat_len {α : Type} {f : α → List Value} {u : Nat} (hf : ∀ a, (f a).length = u) : ∀ {l : List α}, (l.flatMap f).length = l.length * u
  | [] => by simp
  | a :: l => by rw [List.flatMap_cons, List.length_append, hf, flat_len hf, List.length_cons, Nat.succ_mul]; omega

theorem flat_drop {α : Type} {f : α → List Value} {u : Nat} (hf : ∀ a, (f a).length = u) : ∀ {l : List α} {i : Nat} (h : i < l.length), ((l.flatMap f).drop (i * u)).take u = f l[i]
  | a :: l, 0, _ => by rw [Nat.zero_mul, List.drop_zero, List.flatMap_cons, ← hf a, List.take_left]; rfl
  | a :: l, i + 1, h => by
    rw [List.flatMap_cons, show (i + 1) * u = (f a).length + i * u by rw [hf, Nat.succ_mul]; omega, ← List.drop_drop, List.drop_left, flat_drop hf (by simpa using h)]; rfl

/-- What is read of the i-th element. -/
theorem Sl.elem {α : Type} {f : α → List Value} {m : Mem} {u : Nat} {l : List α} {v : Value} (h : Sl m u l.length (l.flatMap f) v) (hf : ∀ a, (f a).length = u) {k : IntKind} {i : Nat} (hi : i < l.length) :
    ∃ b o, aIdxS u v (.int k i) = some (.pointer (some ⟨b, o, none⟩)) ∧ aLoad true u m (.pointer (some ⟨b, o, none⟩)) = some (.agg (f l[i]).toArray) ∧
      (∀ j, j < u → aLoad false 1 m (.pointer (some ⟨b, o + j, none⟩)) = (f l[i])[j]?) ∧ (SlLt m v → b < m.next) := by
  have hb : ∃ b o, aIdxS u v (.int k i) = some (.pointer (some ⟨b, o, none⟩)) ∧ (SlLt m v → b < m.next) := by
    cases h with
    | nil h hc => omega
    | @«at» b o c hc h =>
      refine ⟨b, o + i * u, ?_, fun h => h⟩
      simp only [aIdxS]; rw [if_pos (by omega), Int.toNat_natCast]
  obtain ⟨b, o, h1, h4⟩ := hb
  obtain ⟨b', o', h1', h2, h3⟩ := h.cell (k := k) hi
  rw [h1] at h1'
  cases h1'
  refine ⟨b, o, h1, by rw [h3, flat_drop hf hi], fun j hj => ?_, h4⟩
  rw [h2 j hj, ← flat_drop hf hi, List.getElem?_take, List.getElem?_drop, if_pos hj]

/-- A block that is there. -/
structure Bk (m : Mem) (b : Nat) (cs : List Value) (u : Nat) : Prop where
  at_ : m.blk b = some (.cells cs (some u))
  lt : b < m.next
theorem Bk.new {m : Mem} {cs : List Value} {u : Nat} : Bk (m.new (.cells cs (some u))) m.next cs u := ⟨by simp [Mem.new], by simp [Mem.new]⟩
theorem Bk.ne {m : Mem} {b u : Nat} {cs : List Value} (h : Bk m b cs u) : (b = m.next) = False := eq_false (Nat.ne_of_lt h.lt)
theorem Bk.keep {m m' : Mem} {b u : Nat} {cs : List Value} (h : Bk m b cs u) (hx : Ext m m') : Bk m' b cs u := ⟨by rw [hx.same _ h.lt]; exact h.at_, Nat.lt_of_lt_of_le h.lt hx.next⟩
theorem Bk.upd {m m' : Mem} {b u : Nat} {cs : List Value} {fp : List Nat} (h : Bk m b cs u) (hx : Upd m m' fp) (hn : b ∉ fp) : Bk m' b cs u := ⟨by rw [hx.same _ h.lt hn]; exact h.at_, Nat.lt_of_lt_of_le h.lt hx.next⟩
end Go.Am


/- What putting behind a slice touches: its own block alone. -/
set_option linter.unusedVariables false
namespace Go.Am

/-- The block of a slice. -/
def vb : Value → List Nat
  | .slice (some a) _ _ => [a.block]
  | _ => []

theorem SlOff.vb_iff {v : Value} {fp : List Nat} : SlOff fp v ↔ ∀ b ∈ vb v, b ∉ fp := by
  unfold SlOff vb
  split <;> simp
theorem SlLt.vb_iff {m : Mem} {v : Value} : SlLt m v ↔ ∀ b ∈ vb v, b < m.next := by
  unfold SlLt vb
  split <;> simp

theorem Upd.new_of {m m' : Mem} {fp : List Nat} {o : AObj} (h : Upd m m' fp) : Upd m (m'.new o) fp :=
  ⟨Nat.le_trans h.next (by simp [Mem.new]), fun b hb hn => by
    have := h.next
    rw [← h.same b hb hn]
    simp only [Mem.new]
    rw [if_neg (by omega)]⟩

theorem aWrite_upd {m m' : Mem} {b o : Nat} {xs : List Value} (h : aWrite m b o xs = some m') : Upd m m' [b] ∧ m'.next = m.next := by
  unfold aWrite at h
  split at h
  · split at h
    · cases h; exact ⟨Upd.set (by simp), rfl⟩
    · cases h
  · cases h

theorem app_upd {u by_ : Nat} {m m' : Mem} {v v' x : Value} (h : aApp none u by_ m v x = some (v', m')) : Upd m m' (vb v) ∧ (vb v' = vb v ∨ vb v' = [m.next]) := by
  unfold aApp at h
  rw [Option.bind_eq_some_iff] at h
  obtain ⟨n, hn, h⟩ := h
  rw [Option.bind_eq_some_iff] at h
  obtain ⟨xs, hxs, h⟩ := h
  split at h
  · split at h
    · cases h; exact ⟨Upd.refl _ _, .inl rfl⟩
    · split at h
      · simp only [place] at h
        cases h
        exact ⟨(Upd.refl _ _).new_of, .inr rfl⟩
      · cases h
  · split at h
    · split at h
      · cases h; exact ⟨Upd.refl _ _, .inl rfl⟩
      · cases h
    · split at h
      · rw [Option.map_eq_some_iff] at h
        obtain ⟨m1, h1, h2⟩ := h
        cases h2
        exact ⟨(aWrite_upd h1).1, .inl rfl⟩
      · split at h
        · split at h
          · simp only [place] at h
            cases h
            refine ⟨?_, .inr ?_⟩
            · split
              · exact (Upd.set (by simp [vb])).new_of
              · exact (Upd.refl _ _).new_of
            · split <;> rfl
          · cases h
        · cases h
  · cases h
/-- A function value is called. -/
def gV (R : Nat → Option FEnt) (fv : Value) (vs : List Value) (m : Mem) (Q : Value → Mem → Prop) (_ : Ph Q := ph) : Prop := ∃ f a b, fv = .func (.func f) a b ∧ WC R f (a.toList ++ vs ++ b.toList) m Q
theorem a_callv {R : Nat → Option FEnt} {at_ : Option Nat} {e : Env} {m : Mem} {Q : Value → Mem → Prop} {x : X} {xs : List X} : gpA R at_ e m (.callv x xs) Q = Got (x.ev e) fun fv => Got (evs e xs) fun vs => gV R fv vs m Q := by
  refine propext ⟨?_, ?_⟩
  · rintro ⟨f, a, b, vs, h1, h2, h3⟩; exact ⟨_, h1, _, h2, f, a, b, rfl, h3⟩
  · rintro ⟨_, h1, vs, h2, f, a, b, rfl, h3⟩; exact ⟨f, a, b, vs, h1, h2, h3⟩
theorem gV_func {R : Nat → Option FEnt} {m : Mem} {Q : Value → Mem → Prop} {f : Nat} {vs : List Value} : gV R (.func (.func f) #[] #[]) vs m Q = gC R f vs m Q := by
  refine propext ⟨?_, fun h => ⟨f, #[], #[], rfl, by have h : WC R f vs m Q := h; simpa using h⟩⟩
  rintro ⟨_, _, _, h, k⟩
  cases h
  show WC R f vs m Q
  simpa using k
attribute [go_sem] a_callv gV_func

theorem gV.of {R : Nat → Option FEnt} {fv : Value} {vs : List Value} {m : Mem} {Q Q' : Value → Mem → Prop} (h : gV R fv vs m Q') (k : ∀ v m', Q' v m' → Q v m') : gV R fv vs m Q := by
  obtain ⟨f, a, b, rfl, h2⟩ := h
  exact ⟨f, a, b, rfl, h2.mono k⟩
theorem gV_cap {R : Nat → Option FEnt} {m : Mem} {Q : Value → Mem → Prop} {f : Nat} {vs : List Value} {c : Value} : gV R (.func (.func f) #[] #[c]) vs m Q = gC R f (vs ++ [c]) m Q := by
  refine propext ⟨?_, fun h => ⟨f, #[], #[c], rfl, by have h : WC R f (vs ++ [c]) m Q := h; simpa using h⟩⟩
  rintro ⟨_, _, _, h, k⟩
  cases h
  show WC R f (vs ++ [c]) m Q
  simpa using k
end Go.Am


/- Rows of spans, with no program in sight: what is in one; that a right row is told by what is in it; how many numbers there are. -/
set_option linter.unusedVariables false
set_option linter.unusedSimpArgs false
namespace Go.Am

abbrev Sp := Int × Int
instance : Inhabited Sp := ⟨(0, 0)⟩
def spV (s : Sp) : List Value := [.int .i64 s.1, .int .i64 s.2]
theorem spV_len (s : Sp) : (spV s).length = 2 := rfl
theorem spV_one (s : Sp) : oneCells (spV s) = true := rfl
theorem spV_flat (l : List Sp) : oneCells (l.flatMap spV) = true := by
  unfold oneCells
  rw [List.all_eq_true]
  intro x hx
  obtain ⟨y, _, hy⟩ := List.mem_flatMap.1 hx
  have := spV_one y
  unfold oneCells at this
  exact List.all_eq_true.1 this x hy

def InS (l : List Sp) (x : Int) : Prop := ∃ s ∈ l, s.1 ≤ x ∧ x < s.2
def hasS (l : List Sp) (x : Int) : Bool := l.any fun s => decide (s.1 ≤ x) && decide (x < s.2)
theorem hasS_iff {l : List Sp} {x : Int} : hasS l x = true ↔ InS l x := by
  simp only [hasS, InS, List.any_eq_true, Bool.and_eq_true, decide_eq_true_eq]
theorem hasS_eq {l l' : List Sp} {x y : Int} (h : InS l x ↔ InS l' y) : hasS l x = hasS l' y := by
  rw [Bool.eq_iff_iff, hasS_iff, hasS_iff]; exact h
theorem InS.nil {x : Int} : ¬ InS [] x := by rintro ⟨s, h, _⟩; simp at h
theorem InS.cons {s : Sp} {l : List Sp} {x : Int} : InS (s :: l) x ↔ (s.1 ≤ x ∧ x < s.2) ∨ InS l x := by
  unfold InS; simp
theorem InS.append {a b : List Sp} {x : Int} : InS (a ++ b) x ↔ InS a x ∨ InS b x := by
  unfold InS
  constructor
  · rintro ⟨s, h, h1⟩
    rcases List.mem_append.1 h with h | h
    · exact .inl ⟨s, h, h1⟩
    · exact .inr ⟨s, h, h1⟩
  · rintro (⟨s, h, h1⟩ | ⟨s, h, h1⟩)
    · exact ⟨s, List.mem_append.2 (.inl h), h1⟩
    · exact ⟨s, List.mem_append.2 (.inr h), h1⟩
theorem InS.single {s : Sp} {x : Int} : InS [s] x ↔ s.1 ≤ x ∧ x < s.2 := by
  unfold InS; simp
theorem InS.snoc {a : List Sp} {s : Sp} {x : Int} : InS (a ++ [s]) x ↔ InS a x ∨ (s.1 ≤ x ∧ x < s.2) := by
  rw [InS.append, InS.single]

/-- A row that is right: none is empty, and there is a number between any two. -/
def Rt (l : List Sp) : Prop := (∀ s ∈ l, s.1 < s.2) ∧ l.Pairwise fun s t => s.2 < t.1
theorem Rt.nil : Rt [] := ⟨by simp, .nil⟩
theorem Rt.cons {s : Sp} {l : List Sp} : Rt (s :: l) ↔ s.1 < s.2 ∧ (∀ t ∈ l, s.2 < t.1) ∧ Rt l := by
  unfold Rt
  rw [List.pairwise_cons]
  constructor
  · rintro ⟨h1, h2, h3⟩
    exact ⟨h1 s (by simp), h2, fun t ht => h1 t (by simp [ht]), h3⟩
  · rintro ⟨h1, h2, h3, h4⟩
    refine ⟨fun t ht => ?_, h2, h4⟩
    rcases List.mem_cons.1 ht with rfl | h
    · exact h1
    · exact h3 t h
theorem Rt.snoc {s : Sp} {l : List Sp} : Rt (l ++ [s]) ↔ Rt l ∧ s.1 < s.2 ∧ ∀ t ∈ l, t.2 < s.1 := by
  unfold Rt
  rw [List.pairwise_append]
  constructor
  · rintro ⟨h1, h2, -, h3⟩
    exact ⟨⟨fun t ht => h1 t (by simp [ht]), h2⟩, h1 s (by simp), fun t ht => h3 t ht s (by simp)⟩
  · rintro ⟨⟨h1, h2⟩, h3, h4⟩
    refine ⟨fun t ht => ?_, h2, List.pairwise_singleton _ _, fun t ht u hu => ?_⟩
    · rcases List.mem_append.1 ht with h | h
      · exact h1 t h
      · rw [List.mem_singleton.1 h]; exact h3
    · rw [List.mem_singleton.1 hu]; exact h4 t ht

/-- A right row is told by what is in it. -/
theorem Rt.eq : ∀ {a b : List Sp}, Rt a → Rt b → (∀ x, InS a x ↔ InS b x) → a = b
  | [], [], _, _, _ => rfl
  | [], t :: b, _, hb, h => by
    have := (h t.1).2 (InS.cons.2 (.inl ⟨Int.le_refl _, (Rt.cons.1 hb).1⟩))
    exact absurd this InS.nil
  | s :: a, [], ha, _, h => by
    have := (h s.1).1 (InS.cons.2 (.inl ⟨Int.le_refl _, (Rt.cons.1 ha).1⟩))
    exact absurd this InS.nil
  | s :: a, t :: b, ha, hb, h => by
    obtain ⟨a1, a2, a3⟩ := Rt.cons.1 ha
    obtain ⟨b1, b2, b3⟩ := Rt.cons.1 hb
    have ga : ∀ x, InS a x → s.2 < x := by rintro x ⟨u, hu, h1, _⟩; have := a2 u hu; omega
    have gb : ∀ x, InS b x → t.2 < x := by rintro x ⟨u, hu, h1, _⟩; have := b2 u hu; omega
    have k : ∀ x, ((s.1 ≤ x ∧ x < s.2) ∨ InS a x) ↔ ((t.1 ≤ x ∧ x < t.2) ∨ InS b x) := fun x => by rw [← InS.cons, ← InS.cons]; exact h x
    have e1 : s.1 = t.1 := by
      have h1 : t.1 ≤ s.1 := by
        rcases (k s.1).1 (.inl ⟨Int.le_refl _, a1⟩) with h | h
        · exact h.1
        · have := gb _ h; omega
      have h2 : s.1 ≤ t.1 := by
        rcases (k t.1).2 (.inl ⟨Int.le_refl _, b1⟩) with h | h
        · exact h.1
        · have := ga _ h; omega
      omega
    have e2 : s.2 = t.2 := by
      have h1 : ¬ s.2 < t.2 := fun hlt => by
        rcases (k s.2).2 (.inl ⟨by omega, hlt⟩) with h | h
        · omega
        · have := ga _ h; omega
      have h2 : ¬ t.2 < s.2 := fun hlt => by
        rcases (k t.2).1 (.inl ⟨by omega, hlt⟩) with h | h
        · omega
        · have := gb _ h; omega
      omega
    have e : s = t := Prod.ext e1 e2
    subst e
    congr 1
    refine Rt.eq a3 b3 fun x => ?_
    have kx := k x
    constructor
    · intro hx
      have := ga x hx
      rcases kx.1 (.inr hx) with h | h
      · omega
      · exact h
    · intro hx
      have := gb x hx
      rcases kx.2 (.inr hx) with h | h
      · omega
      · exact h

theorem Rt.none {a : List Sp} (h : Rt a) (hn : ∀ x, ¬ InS a x) : a = [] :=
  Rt.eq h Rt.nil fun x => ⟨fun hx => absurd hx (hn x), fun hx => absurd hx InS.nil⟩

/-! ### Steps -/
theorem Rt.put {r : List Sp} {s : Sp} (h : Rt r) (h1 : s.1 < s.2) (h2 : ∀ t ∈ r, t.2 < s.1) : Rt (r ++ [s]) := Rt.snoc.2 ⟨h, h1, h2⟩
/-- The last one goes on. -/
theorem Rt.more {r : List Sp} {t : Sp} {e : Int} (h : Rt (r ++ [t])) (h1 : t.2 ≤ e) : Rt (r ++ [(t.1, e)]) := by
  obtain ⟨h2, h3, h4⟩ := Rt.snoc.1 h
  exact Rt.snoc.2 ⟨h2, by show t.1 < e; omega, h4⟩
theorem Rt.last {r : List Sp} {t : Sp} (h : Rt (r ++ [t])) {u : Sp} (hu : u ∈ r ++ [t]) : u.2 ≤ t.2 := by
  obtain ⟨h2, h3, h4⟩ := Rt.snoc.1 h
  rcases List.mem_append.1 hu with h | h
  · have := h4 u h; omega
  · rw [List.mem_singleton.1 h]; omega

/-! ### How many -/
def sumS (l : List Sp) : Int := (l.map fun s => s.2 - s.1).foldr (· + ·) 0
theorem sumS_cons {s : Sp} {l : List Sp} : sumS (s :: l) = (s.2 - s.1) + sumS l := rfl

def cnt (p : Int → Bool) (lo : Int) (n : Nat) : Int := ((List.range n).countP fun (i : Nat) => p (lo + i))
theorem cnt_succ {p : Int → Bool} {lo : Int} {n : Nat} : cnt p lo (n + 1) = cnt p lo n + (if p (lo + n) then 1 else 0) := by
  unfold cnt
  rw [List.range_succ, List.countP_append]
  simp only [List.countP_cons, List.countP_nil]
  split <;> simp
theorem cnt_or {p q : Int → Bool} {lo : Int} (h : ∀ x, ¬ (p x = true ∧ q x = true)) : ∀ {n : Nat}, cnt (fun x => p x || q x) lo n = cnt p lo n + cnt q lo n
  | 0 => rfl
  | n + 1 => by
    rw [cnt_succ, cnt_succ, cnt_succ, cnt_or h]
    have := h (lo + n)
    cases hp : p (lo + n) <;> cases hq : q (lo + n) <;> simp [hp, hq] at this ⊢ <;> omega
theorem cnt_congr {p q : Int → Bool} {lo : Int} {n : Nat} (h : ∀ x, p x = q x) : cnt p lo n = cnt q lo n := by
  have : p = q := funext h
  rw [this]
theorem cnt_none {lo : Int} : ∀ {n : Nat}, cnt (fun _ => false) lo n = 0
  | 0 => rfl
  | n + 1 => by rw [cnt_succ, cnt_none]; rfl
theorem cnt_span {a b lo : Int} (h1 : lo ≤ a) (h2 : a ≤ b) : ∀ {n : Nat}, b ≤ lo + n → cnt (fun x => decide (a ≤ x) && decide (x < b)) lo n = b - a := by
  have key : ∀ n : Nat, cnt (fun x => decide (a ≤ x) && decide (x < b)) lo n = (if lo + n ≤ a then 0 else if lo + n ≤ b then lo + n - a else b - a) := by
    intro n
    induction n with
    | zero =>
      show (0 : Int) = _
      rw [if_pos (by omega)]
    | succ n ih =>
      rw [cnt_succ, ih]
      by_cases c1 : a ≤ lo + n
      · by_cases c2 : lo + n < b
        · simp only [c1, c2, decide_true, Bool.and_self, if_true]
          rw [if_neg (show ¬ lo + ((n + 1 : Nat) : Int) ≤ a by omega), if_pos (show lo + ((n + 1 : Nat) : Int) ≤ b by omega)]
          by_cases c3 : lo + (n : Int) ≤ a
          · rw [if_pos c3]; omega
          · rw [if_neg c3, if_pos (by omega)]; omega
        · simp only [c1, c2, decide_true, decide_false, Bool.and_false, Bool.false_eq_true, if_false]
          rw [if_neg (show ¬ lo + ((n + 1 : Nat) : Int) ≤ a by omega), if_neg (show ¬ lo + ((n + 1 : Nat) : Int) ≤ b by omega)]
          by_cases c3 : lo + (n : Int) ≤ a
          · rw [if_pos c3]; omega
          · rw [if_neg c3]
            by_cases c4 : lo + (n : Int) ≤ b
            · rw [if_pos c4]; omega
            · rw [if_neg c4]; omega
      · simp only [c1, decide_false, Bool.false_and, Bool.false_eq_true, if_false]
        rw [if_pos (show lo + (n : Int) ≤ a by omega), if_pos (show lo + ((n + 1 : Nat) : Int) ≤ a by omega)]
        omega
  intro n h
  rw [key]
  by_cases c : lo + (n : Int) ≤ a
  · rw [if_pos c]; omega
  · rw [if_neg c]
    by_cases c2 : lo + (n : Int) ≤ b
    · rw [if_pos c2]; omega
    · rw [if_neg c2]

theorem Rt.cnt {lo : Int} {n : Nat} : ∀ {l : List Sp}, Rt l → (∀ s ∈ l, lo ≤ s.1 ∧ s.2 ≤ lo + n) → cnt (hasS l) lo n = sumS l
  | [], _, _ => by
    rw [show sumS [] = 0 from rfl, ← cnt_none (lo := lo) (n := n)]
    exact cnt_congr fun x => rfl
  | s :: l, h, hb => by
    obtain ⟨h1, h2, h3⟩ := Rt.cons.1 h
    have hs := hb s (by simp)
    rw [sumS_cons, ← Rt.cnt h3 (fun t ht => hb t (by simp [ht])), ← cnt_span hs.1 (by omega) hs.2, ← cnt_or]
    · exact cnt_congr fun x => by unfold hasS; rw [List.any_cons]
    · rintro x ⟨h4, h5⟩
      simp only [Bool.and_eq_true, decide_eq_true_eq] at h4
      obtain ⟨t, ht, h6, h7⟩ := hasS_iff.1 h5
      have := h2 t ht
      omega

theorem bounds : ∀ (l : List Sp), ∃ lo : Int, ∃ n : Nat, ∀ s ∈ l, lo ≤ s.1 ∧ s.2 ≤ lo + n
  | [] => ⟨0, 0, by simp⟩
  | s :: l => by
    obtain ⟨lo, n, h⟩ := bounds l
    refine ⟨min lo s.1, (max (lo + n) s.2 - min lo s.1).toNat, fun t ht => ?_⟩
    rcases List.mem_cons.1 ht with rfl | ht
    · omega
    · have := h t ht; omega

/-- Two rows with nothing in common: as many as both. -/
theorem Rt.sum {a b c : List Sp} (ha : Rt a) (hb : Rt b) (hc : Rt c) (h : ∀ x, InS c x ↔ InS a x ∨ InS b x) (hd : ∀ x, ¬ (InS a x ∧ InS b x)) : sumS a + sumS b = sumS c := by
  obtain ⟨lo, n, hx⟩ := bounds (a ++ (b ++ c))
  rw [← ha.cnt (lo := lo) (n := n) (fun s hs => hx s (by simp [hs])), ← hb.cnt (lo := lo) (n := n) (fun s hs => hx s (by simp [hs])), ← hc.cnt (lo := lo) (n := n) (fun s hs => hx s (by simp [hs])), ← cnt_or]
  · refine (cnt_congr fun x => ?_).symm
    rw [Bool.eq_iff_iff, Bool.or_eq_true, hasS_iff, hasS_iff, hasS_iff]; exact h x
  · rintro x ⟨h1, h2⟩
    exact hd x ⟨hasS_iff.1 h1, hasS_iff.1 h2⟩

/-- As the program adds it up. -/
def sumB (l : List Sp) : BitVec 64 := BitVec.ofInt 64 (sumS l)
def stepB (n : BitVec 64) (s : Sp) : BitVec 64 := n + (BitVec.ofInt 64 s.2 - BitVec.ofInt 64 s.1)
theorem foldB : ∀ (l : List Sp) (n : BitVec 64), l.foldl stepB n = n + sumB l
  | [], n => by show n = n + BitVec.ofInt 64 0; simp
  | s :: l, n => by
    rw [List.foldl_cons, foldB l]
    unfold sumB stepB
    rw [sumS_cons, BitVec.ofInt_add, show s.2 - s.1 = s.2 + -s.1 by omega, BitVec.ofInt_add, BitVec.ofInt_neg, BitVec.sub_eq_add_neg, BitVec.add_assoc]
end Go.Am
