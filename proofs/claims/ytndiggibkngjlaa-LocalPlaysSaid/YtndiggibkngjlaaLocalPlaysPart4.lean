/- Parts of the proofs of the statements of this seat: AmTabLocal. No conditions. -/
import Derived.Test.YtndiggibkngjlaaLocalPlaysPart3
set_option linter.unusedVariables false
set_option linter.unusedSimpArgs false

/- The functions of the layer local in the form of the abstract machine. Printed by amgen.py. -/
set_option linter.unusedVariables false
namespace Go.Am

@[irreducible] def F.law15_LocalPromised : Nat := 3
@[irreducible] def F.law15_LocalJust : Nat := 4
@[irreducible] def F.law15_LocalRest : Nat := 5
@[irreducible] def F.law15_LocalPlays : Nat := 6
@[irreducible] def F.law15_made : Nat := 8
@[irreducible] def F.ref15_Check : Nat := 9
@[irreducible] def F.law15_awake : Nat := 10
@[irreducible] def F.local_Local_Total : Nat := 11
@[irreducible] def F.local_Local_Pick : Nat := 12
@[irreducible] def F.local_Local_Got : Nat := 13
@[irreducible] def F.local_New : Nat := 14
@[irreducible] def F.ref15_New : Nat := 15
@[irreducible] def F.ref15_Pick : Nat := 16
@[irreducible] def F.local_Local_Begin : Nat := 17
@[irreducible] def F.ref15_Begin : Nat := 18
@[irreducible] def F.ref15_Drop : Nat := 19
@[irreducible] def F.local_Local_Drop : Nat := 20
@[irreducible] def F.ref08_Total : Nat := 21
@[irreducible] def F.ref08_Same : Nat := 22
@[irreducible] def F.local_Local_Wants : Nat := 23
@[irreducible] def F.ref08_Check : Nat := 24
@[irreducible] def F.order_Total : Nat := 25
@[irreducible] def F.slices_Contains_int_int : Nat := 26
@[irreducible] def F.local_ahead : Nat := 27
@[irreducible] def F.local_Local_find : Nat := 28
@[irreducible] def F.order_Check : Nat := 29
@[irreducible] def F.slices_SortFunc_local_entry_local_entry : Nat := 30
@[irreducible] def F.local_New_1 : Nat := 31
@[irreducible] def F.cmp_Compare_int : Nat := 32
@[irreducible] def F.ref15_Next : Nat := 33
@[irreducible] def F.slices_Delete_local_entry_local_entry : Nat := 34
@[irreducible] def F.ref02_Add : Nat := 35
@[irreducible] def F.ref08_Is : Nat := 36
@[irreducible] def F.fixq_Add : Nat := 37
@[irreducible] def F.slices_Index_int_int : Nat := 38
@[irreducible] def F.fixq_Compare : Nat := 39
@[irreducible] def F.slices_IndexFunc_local_entry_local_entry : Nat := 40
@[irreducible] def F.local_Local_find_1 : Nat := 41
@[irreducible] def F.order_Kind : Nat := 42
@[irreducible] def F.slices_pdqsortCmpFunc_local_entry : Nat := 43
@[irreducible] def F.math_bits_Len : Nat := 44
@[irreducible] def F.cmp_isNaN_int : Nat := 45
@[irreducible] def F.ref15_Has : Nat := 46
@[irreducible] def F.math_bits_Mul64 : Nat := 47
@[irreducible] def F.slices_insertionSortCmpFunc_local_entry : Nat := 48
@[irreducible] def F.slices_heapSortCmpFunc_local_entry : Nat := 49
@[irreducible] def F.slices_breakPatternsCmpFunc_local_entry : Nat := 50
@[irreducible] def F.slices_choosePivotCmpFunc_local_entry : Nat := 51
@[irreducible] def F.slices_reverseRangeCmpFunc_local_entry : Nat := 52
@[irreducible] def F.slices_partialInsertionSortCmpFunc_local_entry : Nat := 53
@[irreducible] def F.slices_partitionEqualCmpFunc_local_entry : Nat := 54
@[irreducible] def F.slices_partitionCmpFunc_local_entry : Nat := 55
@[irreducible] def F.math_bits_Len32 : Nat := 56
@[irreducible] def F.math_bits_Len64 : Nat := 57
@[irreducible] def F.slices_siftDownCmpFunc_local_entry : Nat := 58
@[irreducible] def F.slices_nextPowerOfTwo : Nat := 59
@[irreducible] def F.slices_xorshift_Next : Nat := 60
@[irreducible] def F.slices_medianAdjacentCmpFunc_local_entry : Nat := 61
@[irreducible] def F.slices_medianCmpFunc_local_entry : Nat := 62
@[irreducible] def F.slices_order2CmpFunc_local_entry : Nat := 63

def RB.law15_LocalPromised_1 : RCode :=
  (.seq (.seq (.region [⟨some 78, none, .mov (.t 15)⟩,
    ⟨some 79, none, .mov (.t 1)⟩,
    ⟨some 80, none, .len (.t 79)⟩,
    ⟨some 81, none, .bin .lss (.t 78) (.t 80)⟩]
    [1, 9, 11, 15, 81])
  (.cond (.t 81)
    .skip
    (.exit 4)))
  (.seq (.block 5
    (.seq (.region [⟨some 85, none, .mov (.t 9)⟩,
      ⟨some 86, none, .mov (.t 1)⟩,
      ⟨some 87, none, .mov (.t 15)⟩,
      ⟨some 88, none, .idxS 2 (.t 86) (.t 87)⟩,
      ⟨some 89, none, .fieldAddr 0 (.t 88)⟩,
      ⟨some 90, none, .load false 1 (.t 89)⟩,
      ⟨some 91, none, .call F.local_Local_Got [.t 85, .t 90]⟩,
      ⟨some 84, none, .mov (.t 91)⟩,
      ⟨some 92, none, .ext 0 (.t 84)⟩,
      ⟨some 93, none, .ext 1 (.t 84)⟩,
      ⟨some 16, none, .mov (.t 92)⟩,
      ⟨some 17, none, .mov (.t 93)⟩]
      [1, 9, 11, 15, 16, 17])
    (.seq (.region [⟨some 94, none, .mov (.t 17)⟩,
      ⟨some 95, none, .un .not (.t 94)⟩,
      ⟨some 96, none, .mov (.t 95)⟩,
      ⟨some 97, some (96, false), .mov (.t 11)⟩,
      ⟨some 98, some (96, false), .mov (.t 1)⟩,
      ⟨some 99, some (96, false), .mov (.t 15)⟩,
      ⟨some 100, some (96, false), .idxS 2 (.t 98) (.t 99)⟩,
      ⟨some 101, some (96, false), .fieldAddr 0 (.t 100)⟩,
      ⟨some 102, some (96, false), .load false 1 (.t 101)⟩,
      ⟨some 103, some (96, false), .look .int (.bool false) false (.t 97) (.t 102)⟩,
      ⟨some 104, some (96, false), .un .not (.t 103)⟩,
      ⟨some 105, some (96, false), .mov (.t 104)⟩,
      ⟨some 106, some (105, true), .mov (.t 16)⟩,
      ⟨some 107, some (105, true), .mov (.t 1)⟩,
      ⟨some 108, some (105, true), .mov (.t 15)⟩,
      ⟨some 109, some (105, true), .idxS 2 (.t 107) (.t 108)⟩,
      ⟨some 110, some (105, true), .fieldAddr 1 (.t 109)⟩,
      ⟨some 111, some (105, true), .load false 1 (.t 110)⟩,
      ⟨some 112, some (105, true), .bin .lss (.t 106) (.t 111)⟩,
      ⟨some 113, some (96, false), .pick (.t 105) (.t 112) (.c (.bool false))⟩,
      ⟨some 114, none, .pick (.t 96) (.c (.bool true)) (.t 113)⟩]
      [1, 9, 11, 15, 114])
    (.cond (.t 114)
      (.seq (.region [⟨some 8, none, .mov (.c (.bool false))⟩]
        [8])
      .ret)
      .skip))) [1, 9, 11, 15])
  (.region [⟨some 82, none, .mov (.t 15)⟩,
    ⟨some 83, none, .bin .add (.t 82) (.c (.int .i64 1))⟩,
    ⟨some 15, none, .mov (.t 83)⟩]
    [1, 9, 11, 15])))
def RB.law15_LocalPromised_2 : RCode :=
  (.seq (.seq (.region [⟨some 64, none, .mov (.t 14)⟩,
    ⟨some 65, none, .mov (.t 13)⟩,
    ⟨some 66, none, .len (.t 65)⟩,
    ⟨some 67, none, .bin .lss (.t 64) (.t 66)⟩]
    [1, 2, 3, 9, 11, 12, 13, 14, 67])
  (.cond (.t 67)
    .skip
    (.exit 2)))
  (.seq (.block 3
    (.region [⟨some 70, none, .mov (.t 11)⟩,
      ⟨some 71, none, .mov (.t 13)⟩,
      ⟨some 72, none, .mov (.t 14)⟩,
      ⟨some 73, none, .idxS 1 (.t 71) (.t 72)⟩,
      ⟨some 74, none, .load false 1 (.t 73)⟩,
      ⟨none, none, .upd .int (.t 70) (.t 74) (.c (.bool true))⟩]
      [1, 2, 3, 9, 11, 12, 13, 14]) [1, 2, 3, 9, 11, 12, 13, 14])
  (.region [⟨some 68, none, .mov (.t 14)⟩,
    ⟨some 69, none, .bin .add (.t 68) (.c (.int .i64 1))⟩,
    ⟨some 14, none, .mov (.t 69)⟩]
    [1, 2, 3, 9, 11, 12, 13, 14])))
def RB.law15_LocalPromised_3 : RCode :=
  (.seq (.seq (.region [⟨some 39, none, .mov (.t 12)⟩,
    ⟨some 40, none, .mov (.t 9)⟩,
    ⟨some 41, none, .call F.local_Local_Total [.t 40]⟩,
    ⟨some 42, none, .mov (.t 3)⟩,
    ⟨some 43, none, .conv .i64 (.t 42)⟩,
    ⟨some 44, none, .bin .rem (.t 43) (.c (.int .i64 40))⟩,
    ⟨some 45, none, .bin .add (.t 41) (.t 44)⟩,
    ⟨some 46, none, .bin .lss (.t 39) (.t 45)⟩]
    [1, 2, 3, 9, 11, 12, 46])
  (.cond (.t 46)
    .skip
    (.exit 0)))
  (.seq (.block 1
    (.seq (.region [⟨some 13, none, .mov (.c (.slice none 0 0))⟩]
      [1, 2, 3, 9, 11, 12, 13])
    (.seq (.seq (.region [⟨some 49, none, .mov (.t 12)⟩,
      ⟨some 50, none, .mov (.t 2)⟩,
      ⟨some 51, none, .len (.t 50)⟩,
      ⟨some 52, none, .bin .lss (.t 49) (.t 51)⟩]
      [1, 2, 3, 9, 11, 12, 13, 52])
    (.cond (.t 52)
      (.drawn [⟨some 53, none, .mov (.t 2)⟩,
        ⟨some 54, none, .mov (.t 12)⟩,
        ⟨some 55, none, .idxS 1 (.t 53) (.t 54)⟩,
        ⟨some 56, none, .load false 1 (.t 55)⟩,
        ⟨some 57, none, .mov (.t 2)⟩,
        ⟨some 58, none, .mov (.t 12)⟩,
        ⟨some 59, none, .idxS 1 (.t 57) (.t 58)⟩,
        ⟨some 60, none, .load false 1 (.t 59)⟩,
        ⟨some 61, none, .len (.t 60)⟩,
        ⟨some 62, none, .minmax false [.t 61, .c (.int .i64 40)]⟩,
        ⟨some 63, none, .sub 1 (.t 56) none (some (.t 62)) none⟩,
        ⟨some 13, none, .mov (.t 63)⟩]
        [[], [], [0, 1], [2], [], [], [4, 5], [6], [7], [8], [3, 9], [10, 0, 1, 2, 3, 4, 5, 6, 7, 8, 9, 10]]
        [(0, []), (1, []), (2, []), (4, []), (5, []), (6, []), (3, []), (7, []), (8, []), (9, []), (10, []), (11, [])]
        [[], [], [0, 1], [0, 1, 2], [], [], [4, 5], [4, 5, 6], [4, 5, 6, 7], [4, 5, 6, 7, 8], [0, 1, 2, 3, 4, 5, 6, 7, 8, 9], [0, 1, 2, 3, 4, 5, 6, 7, 8, 9, 10]]
        [1, 2, 3, 9, 11, 12, 13])
      .skip))
    (.seq (.seq (.region [⟨some 14, none, .mov (.c (.int .i64 0))⟩]
      [1, 2, 3, 9, 11, 12, 13, 14])
    (.block 2
      (.loop [1, 2, 3, 9, 11, 12, 13, 14] RB.law15_LocalPromised_2) [1, 2, 3, 9, 11, 12, 13]))
    (.region [⟨some 75, none, .mov (.t 9)⟩,
      ⟨some 76, none, .mov (.t 13)⟩,
      ⟨some 77, none, .call F.local_Local_Pick [.t 75, .t 76]⟩]
      [1, 2, 3, 9, 11, 12])))) [1, 2, 3, 9, 11, 12])
  (.region [⟨some 47, none, .mov (.t 12)⟩,
    ⟨some 48, none, .bin .add (.t 47) (.c (.int .i64 1))⟩,
    ⟨some 12, none, .mov (.t 48)⟩]
    [1, 2, 3, 9, 11, 12])))
def RC.law15_LocalPromised : RFn := ⟨4, [.slot 8],
  (.seq (.region [⟨some 8, none, .mov (.c (.bool false))⟩]
    [0, 1, 2, 3])
  (.seq (.region [⟨some 18, none, .mov (.t 1)⟩,
    ⟨some 19, none, .mov (.t 1)⟩,
    ⟨some 20, none, .len (.t 19)⟩,
    ⟨some 21, none, .minmax false [.t 20, .c (.int .i64 80)]⟩,
    ⟨some 22, none, .sub 2 (.t 18) none (some (.t 21)) none⟩,
    ⟨some 1, none, .mov (.t 22)⟩]
    [0, 1, 2, 3])
  (.seq (.region [⟨some 24, none, .mov (.t 0)⟩,
    ⟨some 25, none, .mov (.t 1)⟩,
    ⟨some 26, none, .call F.law15_made [.t 24, .t 25]⟩,
    ⟨some 23, none, .mov (.t 26)⟩,
    ⟨some 27, none, .ext 0 (.t 23)⟩,
    ⟨some 28, none, .ext 1 (.t 23)⟩,
    ⟨some 9, none, .mov (.t 27)⟩,
    ⟨some 10, none, .mov (.t 28)⟩]
    [0, 1, 2, 3, 9, 10])
  (.seq (.seq (.region [⟨some 29, none, .mov (.t 10)⟩,
    ⟨some 30, none, .un .not (.t 29)⟩]
    [0, 1, 2, 3, 9, 30])
  (.cond (.t 30)
    (.seq (.region [⟨some 31, none, .mov (.t 0)⟩,
      ⟨some 32, none, .mov (.t 1)⟩,
      ⟨some 33, none, .call F.ref15_Check [.t 31, .t 32]⟩,
      ⟨some 34, none, .bin .neq (.t 33) (.c (.int .i64 0))⟩,
      ⟨some 35, none, .mov (.t 34)⟩,
      ⟨some 36, some (35, true), .call F.law15_awake []⟩,
      ⟨some 37, none, .pick (.t 35) (.t 36) (.c (.bool false))⟩,
      ⟨some 8, none, .mov (.t 37)⟩]
      [8])
    .ret)
    .skip))
  (.seq (.region [⟨some 38, none, .mkmap⟩,
    ⟨some 11, none, .mov (.t 38)⟩]
    [1, 2, 3, 9, 11])
  (.seq (.seq (.region [⟨some 12, none, .mov (.c (.int .i64 0))⟩]
    [1, 2, 3, 9, 11, 12])
  (.block 0
    (.loop [1, 2, 3, 9, 11, 12] RB.law15_LocalPromised_3) [1, 9, 11]))
  (.seq (.seq (.region [⟨some 15, none, .mov (.c (.int .i64 0))⟩]
    [1, 9, 11, 15])
  (.block 4
    (.loop [1, 9, 11, 15] RB.law15_LocalPromised_1) []))
  (.seq (.region [⟨some 115, none, .call F.law15_awake []⟩,
    ⟨some 8, none, .mov (.t 115)⟩]
    [8])
  .ret))))))))⟩

def RB.law15_LocalJust_1 : RCode :=
  (.seq (.seq (.region [⟨some 44, none, .mov (.t 9)⟩,
    ⟨some 45, none, .mov (.t 1)⟩,
    ⟨some 46, none, .len (.t 45)⟩,
    ⟨some 47, none, .bin .lss (.t 44) (.t 46)⟩]
    [1, 5, 9, 47])
  (.cond (.t 47)
    .skip
    (.exit 2)))
  (.seq (.block 3
    (.seq (.region [⟨some 51, none, .mov (.t 5)⟩,
      ⟨some 52, none, .mov (.t 1)⟩,
      ⟨some 53, none, .mov (.t 9)⟩,
      ⟨some 54, none, .idxS 2 (.t 52) (.t 53)⟩,
      ⟨some 55, none, .fieldAddr 0 (.t 54)⟩,
      ⟨some 56, none, .load false 1 (.t 55)⟩,
      ⟨some 57, none, .call F.local_Local_Got [.t 51, .t 56]⟩,
      ⟨some 50, none, .mov (.t 57)⟩,
      ⟨some 58, none, .ext 0 (.t 50)⟩,
      ⟨some 59, none, .ext 1 (.t 50)⟩,
      ⟨some 10, none, .mov (.t 58)⟩,
      ⟨some 11, none, .mov (.t 59)⟩]
      [1, 5, 9, 10, 11])
    (.seq (.region [⟨some 60, none, .mov (.t 11)⟩,
      ⟨some 61, none, .un .not (.t 60)⟩,
      ⟨some 62, none, .mov (.t 61)⟩,
      ⟨some 63, some (62, false), .mov (.t 10)⟩,
      ⟨some 64, some (62, false), .mov (.t 1)⟩,
      ⟨some 65, some (62, false), .mov (.t 9)⟩,
      ⟨some 66, some (62, false), .idxS 2 (.t 64) (.t 65)⟩,
      ⟨some 67, some (62, false), .fieldAddr 1 (.t 66)⟩,
      ⟨some 68, some (62, false), .load false 1 (.t 67)⟩,
      ⟨some 69, some (62, false), .bin .neq (.t 63) (.t 68)⟩,
      ⟨some 70, none, .pick (.t 62) (.c (.bool true)) (.t 69)⟩]
      [1, 5, 9, 70])
    (.cond (.t 70)
      (.seq (.region [⟨some 4, none, .mov (.c (.bool false))⟩]
        [4])
      .ret)
      .skip))) [1, 5, 9])
  (.region [⟨some 48, none, .mov (.t 9)⟩,
    ⟨some 49, none, .bin .add (.t 48) (.c (.int .i64 1))⟩,
    ⟨some 9, none, .mov (.t 49)⟩]
    [1, 5, 9])))
def RB.law15_LocalJust_2 : RCode :=
  (.seq (.region [⟨some 35, none, .bin .lss (.t 34) (.t 33)⟩]
    [1, 5, 33, 34, 35])
  (.seq (.cond (.t 35)
    .skip
    (.exit 0))
  (.seq (.block 1
    (.seq (.region [⟨some 37, none, .mov (.t 5)⟩,
      ⟨some 38, none, .call F.local_Local_Pick [.t 37, .c (.slice none 0 0)]⟩,
      ⟨some 36, none, .mov (.t 38)⟩,
      ⟨some 39, none, .ext 0 (.t 36)⟩,
      ⟨some 40, none, .ext 1 (.t 36)⟩,
      ⟨some 7, none, .mov (.t 39)⟩,
      ⟨some 8, none, .mov (.t 40)⟩]
      [1, 5, 8, 33, 34])
    (.seq (.region [⟨some 41, none, .mov (.t 8)⟩,
      ⟨some 42, none, .un .not (.t 41)⟩]
      [1, 5, 33, 34, 42])
    (.cond (.t 42)
      (.seq (.region [⟨some 4, none, .mov (.c (.bool false))⟩]
        [4])
      .ret)
      .skip))) [1, 5, 33, 34])
  (.region [⟨some 43, none, .bin .add (.t 34) (.c (.int .i64 1))⟩,
    ⟨some 34, none, .mov (.t 43)⟩]
    [1, 5, 33, 34]))))
def RC.law15_LocalJust : RFn := ⟨2, [.slot 4],
  (.seq (.region [⟨some 4, none, .mov (.c (.bool false))⟩]
    [0, 1])
  (.seq (.region [⟨some 12, none, .mov (.t 1)⟩,
    ⟨some 13, none, .mov (.t 1)⟩,
    ⟨some 14, none, .len (.t 13)⟩,
    ⟨some 15, none, .minmax false [.t 14, .c (.int .i64 80)]⟩,
    ⟨some 16, none, .sub 2 (.t 12) none (some (.t 15)) none⟩,
    ⟨some 1, none, .mov (.t 16)⟩]
    [0, 1])
  (.seq (.region [⟨some 18, none, .mov (.t 0)⟩,
    ⟨some 19, none, .mov (.t 1)⟩,
    ⟨some 20, none, .call F.law15_made [.t 18, .t 19]⟩,
    ⟨some 17, none, .mov (.t 20)⟩,
    ⟨some 21, none, .ext 0 (.t 17)⟩,
    ⟨some 22, none, .ext 1 (.t 17)⟩,
    ⟨some 5, none, .mov (.t 21)⟩,
    ⟨some 6, none, .mov (.t 22)⟩]
    [0, 1, 5, 6])
  (.seq (.seq (.region [⟨some 23, none, .mov (.t 6)⟩,
    ⟨some 24, none, .un .not (.t 23)⟩]
    [0, 1, 5, 24])
  (.cond (.t 24)
    (.seq (.region [⟨some 25, none, .mov (.t 0)⟩,
      ⟨some 26, none, .mov (.t 1)⟩,
      ⟨some 27, none, .call F.ref15_Check [.t 25, .t 26]⟩,
      ⟨some 28, none, .bin .neq (.t 27) (.c (.int .i64 0))⟩,
      ⟨some 29, none, .mov (.t 28)⟩,
      ⟨some 30, some (29, true), .call F.law15_awake []⟩,
      ⟨some 31, none, .pick (.t 29) (.t 30) (.c (.bool false))⟩,
      ⟨some 4, none, .mov (.t 31)⟩]
      [4])
    .ret)
    .skip))
  (.seq (.seq (.region [⟨some 32, none, .mov (.t 5)⟩,
    ⟨some 33, none, .call F.local_Local_Total [.t 32]⟩,
    ⟨some 34, none, .mov (.c (.int .i64 0))⟩]
    [1, 5, 33, 34])
  (.block 0
    (.loop [1, 5, 33, 34] RB.law15_LocalJust_2) [1, 5]))
  (.seq (.seq (.region [⟨some 9, none, .mov (.c (.int .i64 0))⟩]
    [1, 5, 9])
  (.block 2
    (.loop [1, 5, 9] RB.law15_LocalJust_1) []))
  (.seq (.region [⟨some 71, none, .call F.law15_awake []⟩,
    ⟨some 4, none, .mov (.t 71)⟩]
    [4])
  .ret)))))))⟩

def RB.law15_LocalRest_1 : RCode :=
  (.seq (.seq (.region [⟨some 58, none, .mov (.t 13)⟩,
    ⟨some 59, none, .mov (.t 1)⟩,
    ⟨some 60, none, .len (.t 59)⟩,
    ⟨some 61, none, .bin .lss (.t 58) (.t 60)⟩]
    [1, 2, 7, 9, 10, 13, 61])
  (.cond (.t 61)
    .skip
    (.exit 2)))
  (.seq (.block 3
    (.seq (.region [⟨some 65, none, .mov (.t 7)⟩,
      ⟨some 66, none, .mov (.t 1)⟩,
      ⟨some 67, none, .mov (.t 13)⟩,
      ⟨some 68, none, .idxS 2 (.t 66) (.t 67)⟩,
      ⟨some 69, none, .fieldAddr 0 (.t 68)⟩,
      ⟨some 70, none, .load false 1 (.t 69)⟩,
      ⟨some 71, none, .call F.local_Local_Got [.t 65, .t 70]⟩,
      ⟨some 64, none, .mov (.t 71)⟩,
      ⟨some 72, none, .ext 0 (.t 64)⟩,
      ⟨some 73, none, .ext 1 (.t 64)⟩,
      ⟨some 14, none, .mov (.t 72)⟩,
      ⟨some 15, none, .mov (.t 73)⟩]
      [1, 2, 7, 9, 10, 13, 14])
    (.seq (.region [⟨some 74, none, .mov (.t 14)⟩,
      ⟨some 75, none, .mov (.t 9)⟩,
      ⟨some 76, none, .bin .mul (.t 74) (.t 75)⟩,
      ⟨some 77, none, .mov (.t 1)⟩,
      ⟨some 78, none, .mov (.t 13)⟩,
      ⟨some 79, none, .idxS 2 (.t 77) (.t 78)⟩,
      ⟨some 80, none, .fieldAddr 1 (.t 79)⟩,
      ⟨some 81, none, .load false 1 (.t 80)⟩,
      ⟨some 82, none, .mov (.t 10)⟩,
      ⟨some 83, none, .bin .mul (.t 81) (.t 82)⟩,
      ⟨some 84, none, .bin .sub (.t 76) (.t 83)⟩,
      ⟨some 16, none, .mov (.t 84)⟩]
      [1, 2, 7, 9, 10, 13, 16])
    (.seq (.region [⟨some 85, none, .mov (.t 16)⟩,
      ⟨some 86, none, .mov (.t 1)⟩,
      ⟨some 87, none, .len (.t 86)⟩,
      ⟨some 88, none, .bin .sub (.t 87) (.c (.int .i64 1))⟩,
      ⟨some 89, none, .mov (.t 9)⟩,
      ⟨some 90, none, .bin .mul (.t 88) (.t 89)⟩,
      ⟨some 91, none, .bin .gtr (.t 85) (.t 90)⟩,
      ⟨some 92, none, .mov (.t 91)⟩,
      ⟨some 93, some (92, false), .mov (.t 16)⟩,
      ⟨some 94, some (92, false), .un .neg (.t 93)⟩,
      ⟨some 95, some (92, false), .mov (.t 1)⟩,
      ⟨some 96, some (92, false), .len (.t 95)⟩,
      ⟨some 97, some (92, false), .bin .sub (.t 96) (.c (.int .i64 1))⟩,
      ⟨some 98, some (92, false), .mov (.t 9)⟩,
      ⟨some 99, some (92, false), .bin .mul (.t 97) (.t 98)⟩,
      ⟨some 100, some (92, false), .bin .gtr (.t 94) (.t 99)⟩,
      ⟨some 101, none, .pick (.t 92) (.c (.bool true)) (.t 100)⟩]
      [1, 2, 7, 9, 10, 13, 101])
    (.cond (.t 101)
      (.seq (.region [⟨some 6, none, .mov (.c (.bool false))⟩]
        [6])
      .ret)
      .skip)))) [1, 2, 7, 9, 10, 13])
  (.region [⟨some 62, none, .mov (.t 13)⟩,
    ⟨some 63, none, .bin .add (.t 62) (.c (.int .i64 1))⟩,
    ⟨some 13, none, .mov (.t 63)⟩]
    [1, 2, 7, 9, 10, 13])))
def RB.law15_LocalRest_2 : RCode :=
  (.seq (.seq (.region [⟨some 39, none, .mov (.t 10)⟩,
    ⟨some 40, none, .mov (.t 2)⟩,
    ⟨some 41, none, .conv .i64 (.t 40)⟩,
    ⟨some 42, none, .bin .rem (.t 41) (.c (.int .i64 300))⟩,
    ⟨some 43, none, .bin .leq (.t 39) (.t 42)⟩,
    ⟨some 44, none, .mov (.t 43)⟩,
    ⟨some 45, some (44, true), .mov (.t 1)⟩,
    ⟨some 46, some (44, true), .len (.t 45)⟩,
    ⟨some 47, some (44, true), .bin .gtr (.t 46) (.c (.int .i64 0))⟩,
    ⟨some 48, none, .pick (.t 44) (.t 47) (.c (.bool false))⟩]
    [1, 2, 7, 9, 10, 48])
  (.cond (.t 48)
    .skip
    (.exit 0)))
  (.seq (.block 1
    (.seq (.seq (.region [⟨some 52, none, .mov (.t 7)⟩,
      ⟨some 53, none, .call F.local_Local_Pick [.t 52, .c (.slice none 0 0)]⟩,
      ⟨some 51, none, .mov (.t 53)⟩,
      ⟨some 54, none, .ext 0 (.t 51)⟩,
      ⟨some 55, none, .ext 1 (.t 51)⟩,
      ⟨some 11, none, .mov (.t 54)⟩,
      ⟨some 12, none, .mov (.t 55)⟩]
      [1, 2, 7, 9, 10, 12])
    (.seq (.region [⟨some 56, none, .mov (.t 12)⟩,
      ⟨some 57, none, .un .not (.t 56)⟩]
      [1, 2, 7, 9, 10, 57])
    (.cond (.t 57)
      (.seq (.region [⟨some 6, none, .mov (.c (.bool false))⟩]
        [6])
      .ret)
      .skip)))
    (.seq (.region [⟨some 13, none, .mov (.c (.int .i64 0))⟩]
      [1, 2, 7, 9, 10, 13])
    (.block 2
      (.loop [1, 2, 7, 9, 10, 13] RB.law15_LocalRest_1) [1, 2, 7, 9, 10]))) [1, 2, 7, 9, 10])
  (.region [⟨some 49, none, .mov (.t 10)⟩,
    ⟨some 50, none, .bin .add (.t 49) (.c (.int .i64 1))⟩,
    ⟨some 10, none, .mov (.t 50)⟩]
    [1, 2, 7, 9, 10])))
def RC.law15_LocalRest : RFn := ⟨3, [.slot 6],
  (.seq (.region [⟨some 6, none, .mov (.c (.bool false))⟩]
    [0, 1, 2])
  (.seq (.region [⟨some 17, none, .mov (.t 1)⟩,
    ⟨some 18, none, .mov (.t 1)⟩,
    ⟨some 19, none, .len (.t 18)⟩,
    ⟨some 20, none, .minmax false [.t 19, .c (.int .i64 80)]⟩,
    ⟨some 21, none, .sub 2 (.t 17) none (some (.t 20)) none⟩,
    ⟨some 1, none, .mov (.t 21)⟩]
    [0, 1, 2])
  (.seq (.region [⟨some 23, none, .mov (.t 0)⟩,
    ⟨some 24, none, .mov (.t 1)⟩,
    ⟨some 25, none, .call F.law15_made [.t 23, .t 24]⟩,
    ⟨some 22, none, .mov (.t 25)⟩,
    ⟨some 26, none, .ext 0 (.t 22)⟩,
    ⟨some 27, none, .ext 1 (.t 22)⟩,
    ⟨some 7, none, .mov (.t 26)⟩,
    ⟨some 8, none, .mov (.t 27)⟩]
    [0, 1, 2, 7, 8])
  (.seq (.seq (.region [⟨some 28, none, .mov (.t 8)⟩,
    ⟨some 29, none, .un .not (.t 28)⟩]
    [0, 1, 2, 7, 29])
  (.cond (.t 29)
    (.seq (.region [⟨some 30, none, .mov (.t 0)⟩,
      ⟨some 31, none, .mov (.t 1)⟩,
      ⟨some 32, none, .call F.ref15_Check [.t 30, .t 31]⟩,
      ⟨some 33, none, .bin .neq (.t 32) (.c (.int .i64 0))⟩,
      ⟨some 34, none, .mov (.t 33)⟩,
      ⟨some 35, some (34, true), .call F.law15_awake []⟩,
      ⟨some 36, none, .pick (.t 34) (.t 35) (.c (.bool false))⟩,
      ⟨some 6, none, .mov (.t 36)⟩]
      [6])
    .ret)
    .skip))
  (.seq (.region [⟨some 37, none, .mov (.t 7)⟩,
    ⟨some 38, none, .call F.local_Local_Total [.t 37]⟩,
    ⟨some 9, none, .mov (.t 38)⟩]
    [1, 2, 7, 9])
  (.seq (.seq (.region [⟨some 10, none, .mov (.c (.int .i64 1))⟩]
    [1, 2, 7, 9, 10])
  (.block 0
    (.loop [1, 2, 7, 9, 10] RB.law15_LocalRest_2) []))
  (.seq (.region [⟨some 102, none, .call F.law15_awake []⟩,
    ⟨some 6, none, .mov (.t 102)⟩]
    [6])
  .ret)))))))⟩

def RB.law15_LocalPlays_1 : RCode :=
  (.seq (.seq (.region [⟨some 157, none, .mov (.t 25)⟩,
    ⟨some 158, none, .fieldAddr 0 (.t 11)⟩,
    ⟨some 159, none, .load false 1 (.t 158)⟩,
    ⟨some 160, none, .len (.t 159)⟩,
    ⟨some 161, none, .bin .lss (.t 157) (.t 160)⟩]
    [2, 3, 9, 11, 12, 20, 22, 23, 24, 25, 161])
  (.cond (.t 161)
    .skip
    (.exit 3)))
  (.seq (.block 4
    (.seq (.region [⟨some 164, none, .fieldAddr 0 (.t 11)⟩,
      ⟨some 165, none, .load false 1 (.t 164)⟩,
      ⟨some 166, none, .mov (.t 25)⟩,
      ⟨some 167, none, .idxS 2 (.t 165) (.t 166)⟩,
      ⟨some 168, none, .fieldAddr 0 (.t 167)⟩,
      ⟨some 169, none, .load false 1 (.t 168)⟩,
      ⟨some 170, none, .mov (.t 3)⟩,
      ⟨some 171, none, .bin .eql (.t 169) (.t 170)⟩]
      [2, 3, 9, 11, 12, 20, 22, 23, 24, 25, 171])
    (.cond (.t 171)
      (.region [⟨some 172, none, .fieldAddr 1 (.t 11)⟩,
        ⟨some 173, none, .load false 1 (.t 172)⟩,
        ⟨some 174, none, .mov (.t 25)⟩,
        ⟨some 175, none, .idxS 1 (.t 173) (.t 174)⟩,
        ⟨some 176, none, .load false 1 (.t 175)⟩,
        ⟨some 23, none, .mov (.t 176)⟩,
        ⟨some 24, none, .mov (.c (.bool true))⟩]
        [2, 3, 9, 11, 12, 20, 22, 23, 24, 25])
      .skip)) [2, 3, 9, 11, 12, 20, 22, 23, 24, 25])
  (.region [⟨some 162, none, .mov (.t 25)⟩,
    ⟨some 163, none, .bin .add (.t 162) (.c (.int .i64 1))⟩,
    ⟨some 25, none, .mov (.t 163)⟩]
    [2, 3, 9, 11, 12, 20, 22, 23, 24, 25])))
def RB.law15_LocalPlays_2 : RCode :=
  (.seq (.seq (.region [⟨some 59, none, .mov (.t 12)⟩,
    ⟨some 60, none, .mov (.t 2)⟩,
    ⟨some 61, none, .len (.t 60)⟩,
    ⟨some 62, none, .bin .lss (.t 59) (.t 61)⟩,
    ⟨some 63, none, .mov (.t 62)⟩,
    ⟨some 64, some (63, true), .mov (.t 12)⟩,
    ⟨some 65, some (63, true), .bin .lss (.t 64) (.c (.int .i64 100))⟩,
    ⟨some 66, none, .pick (.t 63) (.t 65) (.c (.bool false))⟩]
    [2, 3, 9, 11, 12, 66])
  (.cond (.t 66)
    .skip
    (.exit 0)))
  (.seq (.block 1
    (.seq (.region [⟨some 69, none, .mov (.t 2)⟩,
      ⟨some 70, none, .mov (.t 12)⟩,
      ⟨some 71, none, .idxS 3 (.t 69) (.t 70)⟩,
      ⟨some 72, none, .load true 3 (.t 71)⟩,
      ⟨some 13, none, .alloc [(.int .i64 0), (.slice none 0 0), (.int .i64 0)]⟩,
      ⟨none, none, .store 3 (.t 13) (.t 72)⟩]
      [2, 3, 9, 11, 12, 13])
    (.seq (.seq (.region [⟨some 73, none, .fieldAddr 1 (.t 13)⟩,
      ⟨some 74, none, .load false 1 (.t 73)⟩,
      ⟨some 75, none, .len (.t 74)⟩,
      ⟨some 76, none, .bin .gtr (.t 75) (.c (.int .i64 40))⟩]
      [2, 3, 9, 11, 12, 13, 76])
    (.cond (.t 76)
      (.region [⟨some 77, none, .fieldAddr 1 (.t 13)⟩,
        ⟨some 78, none, .load false 1 (.t 77)⟩,
        ⟨some 79, none, .sub 1 (.t 78) none (some (.c (.int .i64 40))) none⟩,
        ⟨some 80, none, .fieldAddr 1 (.t 13)⟩,
        ⟨none, none, .store 1 (.t 80) (.t 79)⟩]
        [2, 3, 9, 11, 12, 13])
      .skip))
    (.seq (.seq (.region [⟨some 81, none, .fieldAddr 0 (.t 13)⟩,
      ⟨some 82, none, .load false 1 (.t 81)⟩]
      [2, 3, 9, 11, 12, 13, 82])
    (.block 2
      (.seq (.seq (.region [⟨some 84, none, .bin .eql (.t 82) (.c (.int .i64 0))⟩,
        ⟨some 83, none, .mov (.t 84)⟩]
        [2, 3, 9, 11, 12, 13, 82, 83])
      (.cond (.t 83)
        .skip
        (.seq (.region [⟨some 85, none, .bin .eql (.t 82) (.c (.int .i64 1))⟩,
          ⟨some 83, none, .mov (.t 85)⟩]
          [2, 3, 9, 11, 12, 13, 82, 83])
        (.cond (.t 83)
          .skip
          (.region [⟨some 86, none, .bin .eql (.t 82) (.c (.int .i64 2))⟩,
            ⟨some 83, none, .mov (.t 86)⟩]
            [2, 3, 9, 11, 12, 13, 82, 83])))))
      (.cond (.t 83)
        (.seq (.region [⟨some 88, none, .mov (.t 9)⟩,
          ⟨some 89, none, .fieldAddr 1 (.t 13)⟩,
          ⟨some 90, none, .load false 1 (.t 89)⟩,
          ⟨some 91, none, .call F.local_Local_Pick [.t 88, .t 90]⟩,
          ⟨some 87, none, .mov (.t 91)⟩,
          ⟨some 92, none, .ext 0 (.t 87)⟩,
          ⟨some 93, none, .ext 1 (.t 87)⟩,
          ⟨some 14, none, .mov (.t 92)⟩,
          ⟨some 15, none, .mov (.t 93)⟩]
          [2, 3, 9, 11, 12, 13, 14, 15])
        (.seq (.region [⟨some 95, none, .load true 2 (.t 11)⟩,
          ⟨some 96, none, .fieldAddr 1 (.t 13)⟩,
          ⟨some 97, none, .load false 1 (.t 96)⟩,
          ⟨some 98, none, .call F.ref15_Pick [.t 95, .t 97]⟩,
          ⟨some 94, none, .mov (.t 98)⟩,
          ⟨some 99, none, .ext 0 (.t 94)⟩,
          ⟨some 100, none, .ext 1 (.t 94)⟩,
          ⟨some 16, none, .alloc [(.slice none 0 0), (.slice none 0 0)]⟩,
          ⟨none, none, .store 2 (.t 16) (.t 99)⟩,
          ⟨some 17, none, .mov (.t 100)⟩]
          [2, 3, 9, 11, 12, 14, 15, 16, 17])
        (.seq (.region [⟨some 101, none, .load true 2 (.t 16)⟩,
          ⟨none, none, .store 2 (.t 11) (.t 101)⟩]
          [2, 3, 9, 11, 12, 14, 15, 17])
        (.seq (.region [⟨some 102, none, .mov (.t 14)⟩,
          ⟨some 103, none, .mov (.t 17)⟩,
          ⟨some 104, none, .bin .neq (.t 102) (.t 103)⟩,
          ⟨some 105, none, .mov (.t 104)⟩,
          ⟨some 106, some (105, false), .mov (.t 15)⟩,
          ⟨some 107, some (105, false), .mov (.t 17)⟩,
          ⟨some 108, some (105, false), .bin .gtr (.t 107) (.c (.int .i64 0))⟩,
          ⟨some 109, some (105, false), .eq true .bool (.t 106) (.t 108)⟩,
          ⟨some 110, none, .pick (.t 105) (.c (.bool true)) (.t 109)⟩]
          [2, 3, 9, 11, 12, 110])
        (.cond (.t 110)
          (.seq (.region [⟨some 8, none, .mov (.c (.bool false))⟩]
            [8])
          .ret)
          .skip)))))
        (.seq (.region [⟨some 112, none, .bin .eql (.t 82) (.c (.int .i64 3))⟩,
          ⟨some 111, none, .mov (.t 112)⟩]
          [2, 3, 9, 11, 12, 13, 82, 111])
        (.cond (.t 111)
          (.seq (.region [⟨some 113, none, .mov (.t 9)⟩,
            ⟨some 114, none, .call F.local_Local_Begin [.t 113]⟩]
            [2, 3, 9, 11, 12])
          (.region [⟨some 115, none, .load true 2 (.t 11)⟩,
            ⟨some 116, none, .call F.ref15_Begin [.t 115]⟩,
            ⟨none, none, .store 2 (.t 11) (.t 116)⟩]
            [2, 3, 9, 11, 12]))
          (.seq (.region [⟨some 118, none, .bin .eql (.t 82) (.c (.int .i64 4))⟩,
            ⟨some 117, none, .mov (.t 118)⟩]
            [2, 3, 9, 11, 12, 13, 117])
          (.cond (.t 117)
            (.seq (.region [⟨some 120, none, .load true 2 (.t 11)⟩,
              ⟨some 121, none, .fieldAddr 2 (.t 13)⟩,
              ⟨some 122, none, .load false 1 (.t 121)⟩,
              ⟨some 123, none, .call F.ref15_Drop [.t 120, .t 122]⟩,
              ⟨some 119, none, .mov (.t 123)⟩,
              ⟨some 124, none, .ext 0 (.t 119)⟩,
              ⟨some 125, none, .ext 1 (.t 119)⟩,
              ⟨some 18, none, .alloc [(.slice none 0 0), (.slice none 0 0)]⟩,
              ⟨none, none, .store 2 (.t 18) (.t 124)⟩,
              ⟨some 19, none, .mov (.t 125)⟩]
              [2, 3, 9, 11, 12, 13, 18, 19])
            (.seq (.region [⟨some 126, none, .load true 2 (.t 18)⟩,
              ⟨none, none, .store 2 (.t 11) (.t 126)⟩]
              [2, 3, 9, 11, 12, 13, 19])
            (.seq (.region [⟨some 127, none, .mov (.t 9)⟩,
              ⟨some 128, none, .fieldAddr 2 (.t 13)⟩,
              ⟨some 129, none, .load false 1 (.t 128)⟩,
              ⟨some 130, none, .call F.local_Local_Drop [.t 127, .t 129]⟩,
              ⟨some 131, none, .mov (.t 19)⟩,
              ⟨some 132, none, .eq true .bool (.t 130) (.t 131)⟩]
              [2, 3, 9, 11, 12, 132])
            (.cond (.t 132)
              (.seq (.region [⟨some 8, none, .mov (.c (.bool false))⟩]
                [8])
              .ret)
              .skip))))
            .skip)))))) [2, 3, 9, 11, 12]))
    (.seq (.region [⟨some 134, none, .fieldAddr 0 (.t 11)⟩,
      ⟨some 135, none, .load false 1 (.t 134)⟩,
      ⟨some 136, none, .call F.ref08_Total [.t 135]⟩,
      ⟨some 133, none, .mov (.t 136)⟩,
      ⟨some 137, none, .ext 0 (.t 133)⟩,
      ⟨some 138, none, .ext 1 (.t 133)⟩,
      ⟨some 20, none, .mov (.t 137)⟩,
      ⟨some 21, none, .mov (.t 138)⟩]
      [2, 3, 9, 11, 12, 20])
    (.seq (.seq (.drawn [⟨some 139, none, .mov (.t 9)⟩,
      ⟨some 140, none, .call F.local_Local_Wants [.t 139]⟩,
      ⟨some 141, none, .fieldAddr 0 (.t 11)⟩,
      ⟨some 142, none, .load false 1 (.t 141)⟩,
      ⟨some 143, none, .call F.ref08_Same [.t 140, .t 142]⟩,
      ⟨some 144, none, .un .not (.t 143)⟩,
      ⟨some 145, none, .mov (.t 144)⟩,
      ⟨some 146, some (145, false), .mov (.t 9)⟩,
      ⟨some 147, some (145, false), .call F.local_Local_Total [.t 146]⟩,
      ⟨some 148, some (145, false), .mov (.t 20)⟩,
      ⟨some 149, some (145, false), .bin .neq (.t 147) (.t 148)⟩,
      ⟨some 150, none, .pick (.t 145) (.c (.bool true)) (.t 149)⟩]
      [[], [0], [], [2], [1, 3, 1], [4], [5, 4], [6], [7, 6, 6], [6], [8, 9, 6], [6, 10]]
      [(0, []), (2, []), (3, []), (1, [141]), (4, []), (5, []), (6, []), (7, []), (9, []), (8, []), (10, []), (11, [])]
      [[], [0], [], [2], [0, 1, 2, 3], [0, 1, 2, 3, 4], [0, 1, 2, 3, 4, 5], [0, 1, 2, 3, 4, 5, 6], [0, 1, 2, 3, 4, 5, 6, 7], [0, 1, 2, 3, 4, 5, 6], [0, 1, 2, 3, 4, 5, 6, 7, 8, 9], [0, 1, 2, 3, 4, 5, 6, 7, 8, 9, 10]]
      [2, 3, 9, 11, 12, 150])
    (.cond (.t 150)
      (.seq (.region [⟨some 8, none, .mov (.c (.bool false))⟩]
        [8])
      .ret)
      .skip))
    (.seq (.region [⟨some 152, none, .mov (.t 9)⟩,
      ⟨some 153, none, .mov (.t 3)⟩,
      ⟨some 154, none, .call F.local_Local_Got [.t 152, .t 153]⟩,
      ⟨some 151, none, .mov (.t 154)⟩,
      ⟨some 155, none, .ext 0 (.t 151)⟩,
      ⟨some 156, none, .ext 1 (.t 151)⟩,
      ⟨some 20, none, .mov (.t 155)⟩,
      ⟨some 22, none, .mov (.t 156)⟩]
      [2, 3, 9, 11, 12, 20, 22])
    (.seq (.region [⟨some 23, none, .mov (.c (.int .i64 0))⟩,
      ⟨some 24, none, .mov (.c (.bool false))⟩]
      [2, 3, 9, 11, 12, 20, 22, 23, 24])
    (.seq (.seq (.region [⟨some 25, none, .mov (.c (.int .i64 0))⟩]
      [2, 3, 9, 11, 12, 20, 22, 23, 24, 25])
    (.block 3
      (.loop [2, 3, 9, 11, 12, 20, 22, 23, 24, 25] RB.law15_LocalPlays_1) [2, 3, 9, 11, 12, 20, 22, 23, 24]))
    (.seq (.region [⟨some 177, none, .mov (.t 20)⟩,
      ⟨some 178, none, .mov (.t 23)⟩,
      ⟨some 179, none, .bin .neq (.t 177) (.t 178)⟩,
      ⟨some 180, none, .mov (.t 179)⟩,
      ⟨some 181, some (180, false), .mov (.t 22)⟩,
      ⟨some 182, some (180, false), .mov (.t 24)⟩,
      ⟨some 183, some (180, false), .eq true .bool (.t 181) (.t 182)⟩,
      ⟨some 184, none, .pick (.t 180) (.c (.bool true)) (.t 183)⟩]
      [2, 3, 9, 11, 12, 184])
    (.cond (.t 184)
      (.seq (.region [⟨some 8, none, .mov (.c (.bool false))⟩]
        [8])
      .ret)
      .skip)))))))))) [2, 3, 9, 11, 12])
  (.region [⟨some 67, none, .mov (.t 12)⟩,
    ⟨some 68, none, .bin .add (.t 67) (.c (.int .i64 1))⟩,
    ⟨some 12, none, .mov (.t 68)⟩]
    [2, 3, 9, 11, 12])))
def RC.law15_LocalPlays : RFn := ⟨4, [.slot 8],
  (.seq (.region [⟨some 8, none, .mov (.c (.bool false))⟩]
    [0, 1, 2, 3])
  (.seq (.region [⟨some 26, none, .mov (.t 1)⟩,
    ⟨some 27, none, .mov (.t 1)⟩,
    ⟨some 28, none, .len (.t 27)⟩,
    ⟨some 29, none, .minmax false [.t 28, .c (.int .i64 80)]⟩,
    ⟨some 30, none, .sub 2 (.t 26) none (some (.t 29)) none⟩,
    ⟨some 1, none, .mov (.t 30)⟩]
    [0, 1, 2, 3])
  (.seq (.region [⟨some 32, none, .mov (.t 0)⟩,
    ⟨some 33, none, .mov (.t 1)⟩,
    ⟨some 34, none, .call F.local_New [.t 32, .t 33]⟩,
    ⟨some 31, none, .mov (.t 34)⟩,
    ⟨some 35, none, .ext 0 (.t 31)⟩,
    ⟨some 36, none, .ext 1 (.t 31)⟩,
    ⟨some 9, none, .mov (.t 35)⟩,
    ⟨some 10, none, .mov (.t 36)⟩]
    [0, 1, 2, 3, 9, 10])
  (.seq (.seq (.region [⟨some 37, none, .mov (.t 10)⟩,
    ⟨some 38, none, .mov (.t 0)⟩,
    ⟨some 39, none, .mov (.t 1)⟩,
    ⟨some 40, none, .call F.ref15_Check [.t 38, .t 39]⟩,
    ⟨some 41, none, .bin .neq (.t 37) (.t 40)⟩]
    [1, 2, 3, 9, 10, 41])
  (.cond (.t 41)
    (.seq (.region [⟨some 8, none, .mov (.c (.bool false))⟩]
      [8])
    .ret)
    .skip))
  (.seq (.seq (.region [⟨some 42, none, .mov (.t 10)⟩,
    ⟨some 43, none, .bin .neq (.t 42) (.c (.int .i64 0))⟩,
    ⟨some 44, none, .mov (.t 43)⟩,
    ⟨some 45, some (44, false), .mov (.t 9)⟩,
    ⟨some 46, some (44, false), .eq false .ptr (.t 45) (.c (.pointer none))⟩,
    ⟨some 47, none, .pick (.t 44) (.c (.bool true)) (.t 46)⟩]
    [1, 2, 3, 9, 10, 47])
  (.cond (.t 47)
    (.seq (.region [⟨some 48, none, .mov (.t 10)⟩,
      ⟨some 49, none, .bin .neq (.t 48) (.c (.int .i64 0))⟩,
      ⟨some 50, none, .mov (.t 49)⟩,
      ⟨some 51, some (50, true), .mov (.t 9)⟩,
      ⟨some 52, some (50, true), .eq false .ptr (.t 51) (.c (.pointer none))⟩,
      ⟨some 53, none, .pick (.t 50) (.t 52) (.c (.bool false))⟩,
      ⟨some 54, none, .mov (.t 53)⟩,
      ⟨some 55, some (54, true), .call F.law15_awake []⟩,
      ⟨some 56, none, .pick (.t 54) (.t 55) (.c (.bool false))⟩,
      ⟨some 8, none, .mov (.t 56)⟩]
      [8])
    .ret)
    .skip))
  (.seq (.region [⟨some 57, none, .mov (.t 1)⟩,
    ⟨some 58, none, .call F.ref15_New [.t 57]⟩,
    ⟨some 11, none, .alloc [(.slice none 0 0), (.slice none 0 0)]⟩,
    ⟨none, none, .store 2 (.t 11) (.t 58)⟩]
    [2, 3, 9, 11])
  (.seq (.seq (.region [⟨some 12, none, .mov (.c (.int .i64 0))⟩]
    [2, 3, 9, 11, 12])
  (.block 0
    (.loop [2, 3, 9, 11, 12] RB.law15_LocalPlays_2) []))
  (.seq (.region [⟨some 185, none, .call F.law15_awake []⟩,
    ⟨some 8, none, .mov (.t 185)⟩]
    [8])
  .ret))))))))⟩

def RC.law15_made : RFn := ⟨2, [.slot 4, .slot 5],
  (.seq (.region [⟨some 4, none, .mov (.c (.pointer none))⟩,
    ⟨some 5, none, .mov (.c (.bool false))⟩]
    [0, 1])
  (.seq (.region [⟨some 9, none, .mov (.t 0)⟩,
    ⟨some 10, none, .mov (.t 1)⟩,
    ⟨some 11, none, .call F.local_New [.t 9, .t 10]⟩,
    ⟨some 8, none, .mov (.t 11)⟩,
    ⟨some 12, none, .ext 0 (.t 8)⟩,
    ⟨some 13, none, .ext 1 (.t 8)⟩,
    ⟨some 6, none, .mov (.t 12)⟩,
    ⟨some 7, none, .mov (.t 13)⟩]
    [6, 7])
  (.seq (.seq (.region [⟨some 14, none, .mov (.t 7)⟩,
    ⟨some 15, none, .bin .neq (.t 14) (.c (.int .i64 0))⟩,
    ⟨some 16, none, .mov (.t 15)⟩,
    ⟨some 17, some (16, false), .mov (.t 6)⟩,
    ⟨some 18, some (16, false), .eq false .ptr (.t 17) (.c (.pointer none))⟩,
    ⟨some 19, none, .pick (.t 16) (.c (.bool true)) (.t 18)⟩]
    [6, 19])
  (.cond (.t 19)
    (.seq (.region [⟨some 4, none, .mov (.c (.pointer none))⟩,
      ⟨some 5, none, .mov (.c (.bool false))⟩]
      [4, 5])
    .ret)
    .skip))
  (.seq (.region [⟨some 20, none, .mov (.t 6)⟩,
    ⟨some 21, none, .call F.local_Local_Pick [.t 20, .c (.slice none 0 0)]⟩]
    [6])
  (.seq (.region [⟨some 22, none, .mov (.t 6)⟩,
    ⟨some 23, none, .call F.local_Local_Pick [.t 22, .c (.slice none 0 0)]⟩]
    [6])
  (.seq (.region [⟨some 24, none, .mov (.t 6)⟩,
    ⟨some 25, none, .call F.local_Local_Begin [.t 24]⟩]
    [6])
  (.seq (.region [⟨some 26, none, .mov (.t 6)⟩,
    ⟨some 4, none, .mov (.t 26)⟩,
    ⟨some 5, none, .mov (.c (.bool true))⟩]
    [4, 5])
  .ret)))))))⟩

def RC.ref15_Check : RFn := ⟨2, [.slot 4],
  (.seq (.region [⟨some 4, none, .mov (.c (.int .i64 0))⟩]
    [0, 1])
  (.seq (.region [⟨some 8, none, .mov (.t 0)⟩,
    ⟨some 9, none, .mov (.t 1)⟩,
    ⟨some 10, none, .call F.ref08_Check [.t 8, .t 9]⟩,
    ⟨some 5, none, .mov (.t 10)⟩]
    [0, 1, 5])
  (.seq (.seq (.region [⟨some 11, none, .mov (.t 5)⟩,
    ⟨some 12, none, .bin .neq (.t 11) (.c (.int .i64 0))⟩]
    [0, 1, 5, 12])
  (.cond (.t 12)
    (.seq (.region [⟨some 13, none, .mov (.t 5)⟩,
      ⟨some 4, none, .mov (.t 13)⟩]
      [4])
    .ret)
    .skip))
  (.seq (.region [⟨some 15, none, .mov (.t 1)⟩,
    ⟨some 16, none, .call F.ref08_Total [.t 15]⟩,
    ⟨some 14, none, .mov (.t 16)⟩,
    ⟨some 17, none, .ext 0 (.t 14)⟩,
    ⟨some 18, none, .ext 1 (.t 14)⟩,
    ⟨some 6, none, .mov (.t 17)⟩,
    ⟨some 7, none, .mov (.t 18)⟩]
    [0, 6])
  (.seq (.seq (.region [⟨some 19, none, .mov (.t 6)⟩,
    ⟨some 20, none, .mov (.t 0)⟩,
    ⟨some 21, none, .bin .gtr (.t 19) (.t 20)⟩]
    [21])
  (.cond (.t 21)
    (.seq (.region [⟨some 4, none, .mov (.c (.int .i64 12))⟩]
      [4])
    .ret)
    .skip))
  (.seq (.region [⟨some 4, none, .mov (.c (.int .i64 0))⟩]
    [4])
  .ret))))))⟩

def RC.law15_awake : RFn := ⟨0, [.slot 0],
  (.seq (.region [⟨some 0, none, .mov (.c (.bool false))⟩]
    [])
  (.seq (.region [⟨some 14, none, .build [(.int .i64 0), (.int .i64 0)] [(0, 1, .c (.int .i64 2)), (1, 1, .c (.int .i64 1))]⟩,
    ⟨some 15, none, .build [(.int .i64 0), (.int .i64 0)] [(0, 1, .c (.int .i64 1)), (1, 1, .c (.int .i64 2))]⟩,
    ⟨some 16, none, .bslice [(.int .i64 0), (.int .i64 0), (.int .i64 0), (.int .i64 0)] [(0, 2, .t 14), (2, 2, .t 15)] 2 2⟩,
    ⟨some 17, none, .call F.local_New [.c (.int .i64 4), .t 16]⟩,
    ⟨some 13, none, .mov (.t 17)⟩,
    ⟨some 18, none, .ext 0 (.t 13)⟩,
    ⟨some 19, none, .ext 1 (.t 13)⟩,
    ⟨some 1, none, .mov (.t 18)⟩,
    ⟨some 2, none, .mov (.t 19)⟩]
    [1, 2])
  (.seq (.seq (.region [⟨some 20, none, .mov (.t 2)⟩,
    ⟨some 21, none, .bin .neq (.t 20) (.c (.int .i64 0))⟩,
    ⟨some 22, none, .mov (.t 21)⟩,
    ⟨some 23, some (22, false), .mov (.t 1)⟩,
    ⟨some 24, some (22, false), .eq false .ptr (.t 23) (.c (.pointer none))⟩,
    ⟨some 25, none, .pick (.t 22) (.c (.bool true)) (.t 24)⟩]
    [1, 25])
  (.cond (.t 25)
    (.seq (.region [⟨some 0, none, .mov (.c (.bool false))⟩]
      [0])
    .ret)
    .skip))
  (.seq (.region [⟨some 27, none, .mov (.t 1)⟩,
    ⟨some 28, none, .call F.local_Local_Pick [.t 27, .c (.slice none 0 0)]⟩,
    ⟨some 26, none, .mov (.t 28)⟩,
    ⟨some 29, none, .ext 0 (.t 26)⟩,
    ⟨some 30, none, .ext 1 (.t 26)⟩,
    ⟨some 3, none, .mov (.t 29)⟩,
    ⟨some 4, none, .mov (.t 30)⟩]
    [1, 3])
  (.seq (.region [⟨some 32, none, .mov (.t 1)⟩,
    ⟨some 33, none, .call F.local_Local_Pick [.t 32, .c (.slice none 0 0)]⟩,
    ⟨some 31, none, .mov (.t 33)⟩,
    ⟨some 34, none, .ext 0 (.t 31)⟩,
    ⟨some 35, none, .ext 1 (.t 31)⟩,
    ⟨some 5, none, .mov (.t 34)⟩,
    ⟨some 6, none, .mov (.t 35)⟩]
    [1, 3, 5])
  (.seq (.region [⟨some 37, none, .mov (.t 1)⟩,
    ⟨some 38, none, .call F.local_Local_Pick [.t 37, .c (.slice none 0 0)]⟩,
    ⟨some 36, none, .mov (.t 38)⟩,
    ⟨some 39, none, .ext 0 (.t 36)⟩,
    ⟨some 40, none, .ext 1 (.t 36)⟩,
    ⟨some 7, none, .mov (.t 39)⟩,
    ⟨some 8, none, .mov (.t 40)⟩]
    [1, 3, 5, 7])
  (.seq (.region [⟨some 42, none, .mov (.t 1)⟩,
    ⟨some 43, none, .bslice [(.int .i64 0), (.int .i64 0)] [(0, 1, .c (.int .i64 1)), (1, 1, .c (.int .i64 2))] 2 1⟩,
    ⟨some 44, none, .call F.local_Local_Pick [.t 42, .t 43]⟩,
    ⟨some 41, none, .mov (.t 44)⟩,
    ⟨some 45, none, .ext 0 (.t 41)⟩,
    ⟨some 46, none, .ext 1 (.t 41)⟩,
    ⟨some 9, none, .mov (.t 45)⟩,
    ⟨some 10, none, .mov (.t 46)⟩]
    [1, 3, 5, 7, 9, 10])
  (.seq (.region [⟨some 48, none, .mov (.t 1)⟩,
    ⟨some 49, none, .call F.local_Local_Got [.t 48, .c (.int .i64 1)]⟩,
    ⟨some 47, none, .mov (.t 49)⟩,
    ⟨some 50, none, .ext 0 (.t 47)⟩,
    ⟨some 51, none, .ext 1 (.t 47)⟩,
    ⟨some 11, none, .mov (.t 50)⟩,
    ⟨some 12, none, .mov (.t 51)⟩]
    [1, 3, 5, 7, 9, 10, 11, 12])
  (.seq (.region [⟨some 52, none, .mov (.t 3)⟩,
    ⟨some 53, none, .bin .eql (.t 52) (.c (.int .i64 1))⟩,
    ⟨some 54, none, .mov (.t 53)⟩,
    ⟨some 55, some (54, true), .mov (.t 5)⟩,
    ⟨some 56, some (54, true), .bin .eql (.t 55) (.c (.int .i64 1))⟩,
    ⟨some 57, none, .pick (.t 54) (.t 56) (.c (.bool false))⟩,
    ⟨some 58, none, .mov (.t 57)⟩,
    ⟨some 59, some (58, true), .mov (.t 7)⟩,
    ⟨some 60, some (58, true), .bin .eql (.t 59) (.c (.int .i64 2))⟩,
    ⟨some 61, none, .pick (.t 58) (.t 60) (.c (.bool false))⟩,
    ⟨some 62, none, .mov (.t 61)⟩,
    ⟨some 63, some (62, true), .mov (.t 9)⟩,
    ⟨some 64, some (62, true), .bin .eql (.t 63) (.c (.int .i64 0))⟩,
    ⟨some 65, none, .pick (.t 62) (.t 64) (.c (.bool false))⟩,
    ⟨some 66, none, .mov (.t 65)⟩,
    ⟨some 67, some (66, true), .mov (.t 10)⟩,
    ⟨some 68, some (66, true), .un .not (.t 67)⟩,
    ⟨some 69, none, .pick (.t 66) (.t 68) (.c (.bool false))⟩,
    ⟨some 70, none, .mov (.t 69)⟩,
    ⟨some 71, some (70, true), .mov (.t 11)⟩,
    ⟨some 72, some (70, true), .bin .eql (.t 71) (.c (.int .i64 2))⟩,
    ⟨some 73, none, .pick (.t 70) (.t 72) (.c (.bool false))⟩,
    ⟨some 74, none, .mov (.t 73)⟩,
    ⟨some 75, some (74, true), .mov (.t 12)⟩,
    ⟨some 76, none, .pick (.t 74) (.t 75) (.c (.bool false))⟩,
    ⟨some 77, none, .mov (.t 76)⟩,
    ⟨some 78, some (77, true), .mov (.t 1)⟩,
    ⟨some 79, some (77, true), .call F.local_Local_Total [.t 78]⟩,
    ⟨some 80, some (77, true), .bin .eql (.t 79) (.c (.int .i64 3))⟩,
    ⟨some 81, none, .pick (.t 77) (.t 80) (.c (.bool false))⟩,
    ⟨some 0, none, .mov (.t 81)⟩]
    [0])
  .ret)))))))))⟩

def RC.local_Local_Total : RFn := ⟨1, [.slot 2],
  (.seq (.region [⟨some 2, none, .mov (.c (.int .i64 0))⟩]
    [0])
  (.seq (.region [⟨some 6, none, .mov (.t 0)⟩,
    ⟨some 7, none, .call F.local_Local_Wants [.t 6]⟩,
    ⟨some 8, none, .call F.order_Total [.t 7]⟩,
    ⟨some 5, none, .mov (.t 8)⟩,
    ⟨some 9, none, .ext 0 (.t 5)⟩,
    ⟨some 10, none, .ext 1 (.t 5)⟩,
    ⟨some 3, none, .mov (.t 9)⟩,
    ⟨some 4, none, .mov (.t 10)⟩]
    [3])
  (.seq (.region [⟨some 11, none, .mov (.t 3)⟩,
    ⟨some 2, none, .mov (.t 11)⟩]
    [2])
  .ret)))⟩

def RB.local_Local_Pick_1 : RCode :=
  (.seq (.region [⟨some 17, none, .bin .lss (.t 16) (.t 15)⟩]
    [0, 1, 6, 14, 15, 16, 17])
  (.seq (.cond (.t 17)
    .skip
    (.exit 0))
  (.seq (.block 1
    (.seq (.region [⟨some 18, none, .mov (.t 16)⟩,
      ⟨some 19, none, .idxS 3 (.t 14) (.t 16)⟩,
      ⟨some 20, none, .load true 3 (.t 19)⟩,
      ⟨some 8, none, .alloc [(.int .i64 0), (.int .i64 0), (.int .i64 0)]⟩,
      ⟨some 7, none, .mov (.t 18)⟩,
      ⟨none, none, .store 3 (.t 8) (.t 20)⟩]
      [0, 1, 6, 7, 8, 14, 15, 16])
    (.seq (.seq (.region [⟨some 21, none, .mov (.t 1)⟩,
      ⟨some 22, none, .fieldAddr 0 (.t 8)⟩,
      ⟨some 23, none, .fieldAddr 0 (.t 22)⟩,
      ⟨some 24, none, .load false 1 (.t 23)⟩,
      ⟨some 25, none, .call F.slices_Contains_int_int [.t 21, .t 24]⟩]
      [0, 1, 6, 7, 8, 14, 15, 16, 25])
    (.cond (.t 25)
      (.exit 1)
      .skip))
    (.seq (.drawn [⟨some 26, none, .mov (.t 6)⟩,
      ⟨some 27, none, .bin .lss (.t 26) (.c (.int .i64 0))⟩,
      ⟨some 28, none, .mov (.t 27)⟩,
      ⟨some 29, some (28, false), .load true 3 (.t 8)⟩,
      ⟨some 30, some (28, false), .mov (.t 0)⟩,
      ⟨some 31, some (28, false), .nilchk (.t 30)⟩,
      ⟨some 32, some (28, false), .fieldAddr 0 (.t 31)⟩,
      ⟨some 33, some (28, false), .load false 1 (.t 32)⟩,
      ⟨some 34, some (28, false), .mov (.t 6)⟩,
      ⟨some 35, some (28, false), .idxS 3 (.t 33) (.t 34)⟩,
      ⟨some 36, some (28, false), .load true 3 (.t 35)⟩,
      ⟨some 37, some (28, false), .call F.local_ahead [.t 29, .t 36]⟩,
      ⟨some 38, none, .pick (.t 28) (.c (.bool true)) (.t 37)⟩]
      [[], [0], [1], [2], [2], [4, 2], [5, 2], [6, 2], [2], [7, 8, 2], [9, 2], [3, 10, 2, 2], [2, 11]]
      [(0, []), (1, []), (2, []), (4, []), (5, []), (6, []), (8, []), (3, []), (7, []), (9, []), (10, []), (11, []), (12, [])]
      [[], [0], [0, 1], [0, 1, 2], [0, 1, 2], [0, 1, 2, 4], [0, 1, 2, 4, 5], [0, 1, 2, 4, 5, 6], [0, 1, 2], [0, 1, 2, 4, 5, 6, 7, 8], [0, 1, 2, 4, 5, 6, 7, 8, 9], [0, 1, 2, 3, 4, 5, 6, 7, 8, 9, 10], [0, 1, 2, 3, 4, 5, 6, 7, 8, 9, 10, 11]]
      [0, 1, 6, 7, 14, 15, 16, 38])
    (.cond (.t 38)
      (.region [⟨some 39, none, .mov (.t 7)⟩,
        ⟨some 6, none, .mov (.t 39)⟩]
        [0, 1, 6, 14, 15, 16])
      .skip)))) [0, 1, 6, 14, 15, 16])
  (.region [⟨some 40, none, .bin .add (.t 16) (.c (.int .i64 1))⟩,
    ⟨some 16, none, .mov (.t 40)⟩]
    [0, 1, 6, 14, 15, 16]))))
def RC.local_Local_Pick : RFn := ⟨2, [.slot 4, .slot 5],
  (.seq (.region [⟨some 4, none, .mov (.c (.int .i64 0))⟩,
    ⟨some 5, none, .mov (.c (.bool false))⟩]
    [0, 1])
  (.seq (.seq (.region [⟨some 9, none, .mov (.t 0)⟩,
    ⟨some 10, none, .eq false .ptr (.t 9) (.c (.pointer none))⟩]
    [0, 1, 10])
  (.cond (.t 10)
    (.seq (.region [⟨some 4, none, .mov (.c (.int .i64 0))⟩,
      ⟨some 5, none, .mov (.c (.bool false))⟩]
      [4, 5])
    .ret)
    .skip))
  (.seq (.region [⟨some 6, none, .mov (.c (.int .i64 (-1)))⟩]
    [0, 1, 6])
  (.seq (.seq (.region [⟨some 11, none, .mov (.t 0)⟩,
    ⟨some 12, none, .nilchk (.t 11)⟩,
    ⟨some 13, none, .fieldAddr 0 (.t 12)⟩,
    ⟨some 14, none, .load false 1 (.t 13)⟩,
    ⟨some 15, none, .len (.t 14)⟩,
    ⟨some 16, none, .mov (.c (.int .i64 0))⟩]
    [0, 1, 6, 14, 15, 16])
  (.block 0
    (.loop [0, 1, 6, 14, 15, 16] RB.local_Local_Pick_1) [0, 6]))
  (.seq (.seq (.region [⟨some 41, none, .mov (.t 6)⟩,
    ⟨some 42, none, .bin .lss (.t 41) (.c (.int .i64 0))⟩]
    [0, 6, 42])
  (.cond (.t 42)
    (.seq (.region [⟨some 4, none, .mov (.c (.int .i64 0))⟩,
      ⟨some 5, none, .mov (.c (.bool false))⟩]
      [4, 5])
    .ret)
    .skip))
  (.seq (.region [⟨some 43, none, .mov (.t 0)⟩,
    ⟨some 44, none, .nilchk (.t 43)⟩,
    ⟨some 45, none, .fieldAddr 0 (.t 44)⟩,
    ⟨some 46, none, .load false 1 (.t 45)⟩,
    ⟨some 47, none, .mov (.t 6)⟩,
    ⟨some 48, none, .idxS 3 (.t 46) (.t 47)⟩,
    ⟨some 49, none, .fieldAddr 2 (.t 48)⟩,
    ⟨some 50, none, .load false 1 (.t 49)⟩,
    ⟨some 51, none, .bin .add (.t 50) (.c (.int .i64 1))⟩,
    ⟨some 52, none, .idxS 3 (.t 46) (.t 47)⟩,
    ⟨some 53, none, .fieldAddr 2 (.t 52)⟩,
    ⟨none, none, .store 1 (.t 53) (.t 51)⟩]
    [0, 6])
  (.seq (.region [⟨some 54, none, .mov (.t 0)⟩,
    ⟨some 55, none, .nilchk (.t 54)⟩,
    ⟨some 56, none, .fieldAddr 0 (.t 55)⟩,
    ⟨some 57, none, .load false 1 (.t 56)⟩,
    ⟨some 58, none, .mov (.t 6)⟩,
    ⟨some 59, none, .idxS 3 (.t 57) (.t 58)⟩,
    ⟨some 60, none, .fieldAddr 0 (.t 59)⟩,
    ⟨some 61, none, .fieldAddr 0 (.t 60)⟩,
    ⟨some 62, none, .load false 1 (.t 61)⟩,
    ⟨some 4, none, .mov (.t 62)⟩,
    ⟨some 5, none, .mov (.c (.bool true))⟩]
    [4, 5])
  .ret)))))))⟩

def RC.local_Local_Got : RFn := ⟨2, [.slot 4, .slot 5],
  (.seq (.region [⟨some 4, none, .mov (.c (.int .i64 0))⟩,
    ⟨some 5, none, .mov (.c (.bool false))⟩]
    [0, 1])
  (.seq (.region [⟨some 7, none, .mov (.t 0)⟩,
    ⟨some 8, none, .mov (.t 1)⟩,
    ⟨some 9, none, .call F.local_Local_find [.t 7, .t 8]⟩,
    ⟨some 6, none, .mov (.t 9)⟩]
    [0, 6])
  (.seq (.seq (.region [⟨some 10, none, .mov (.t 6)⟩,
    ⟨some 11, none, .bin .lss (.t 10) (.c (.int .i64 0))⟩]
    [0, 6, 11])
  (.cond (.t 11)
    (.seq (.region [⟨some 4, none, .mov (.c (.int .i64 0))⟩,
      ⟨some 5, none, .mov (.c (.bool false))⟩]
      [4, 5])
    .ret)
    .skip))
  (.seq (.region [⟨some 12, none, .mov (.t 0)⟩,
    ⟨some 13, none, .nilchk (.t 12)⟩,
    ⟨some 14, none, .fieldAddr 0 (.t 13)⟩,
    ⟨some 15, none, .load false 1 (.t 14)⟩,
    ⟨some 16, none, .mov (.t 6)⟩,
    ⟨some 17, none, .idxS 3 (.t 15) (.t 16)⟩,
    ⟨some 18, none, .fieldAddr 2 (.t 17)⟩,
    ⟨some 19, none, .load false 1 (.t 18)⟩,
    ⟨some 4, none, .mov (.t 19)⟩,
    ⟨some 5, none, .mov (.c (.bool true))⟩]
    [4, 5])
  .ret))))⟩

def RB.local_New_1 : RCode :=
  (.seq (.region [⟨some 35, none, .bin .lss (.t 34) (.t 33)⟩]
    [9, 32, 33, 34, 35])
  (.seq (.cond (.t 35)
    .skip
    (.exit 0))
  (.seq (.block 1
    (.seq (.region [⟨some 36, none, .idxS 2 (.t 32) (.t 34)⟩,
      ⟨some 37, none, .load true 2 (.t 36)⟩,
      ⟨some 11, none, .alloc [(.int .i64 0), (.int .i64 0)]⟩,
      ⟨none, none, .store 2 (.t 11) (.t 37)⟩]
      [9, 11, 32, 33, 34])
    (.drawn [⟨some 38, none, .mov (.t 9)⟩,
      ⟨some 39, none, .mov (.t 9)⟩,
      ⟨some 40, none, .nilchk (.t 39)⟩,
      ⟨some 41, none, .fieldAddr 0 (.t 40)⟩,
      ⟨some 42, none, .load false 1 (.t 41)⟩,
      ⟨some 43, none, .load true 2 (.t 11)⟩,
      ⟨some 44, none, .build [(.int .i64 0), (.int .i64 0), (.int .i64 0)] [(0, 2, .t 43)]⟩,
      ⟨some 45, none, .bslice [(.int .i64 0), (.int .i64 0), (.int .i64 0)] [(0, 3, .t 44)] 1 3⟩,
      ⟨some 46, none, .app 3 24 (.t 42) (.t 45)⟩,
      ⟨some 47, none, .nilchk (.t 38)⟩,
      ⟨some 48, none, .fieldAddr 0 (.t 47)⟩,
      ⟨none, none, .store 1 (.t 48) (.t 46)⟩]
      [[], [], [1], [2], [3], [], [5], [6], [4, 7], [0, 0, 1, 2, 3, 4, 5, 6, 7, 8], [9, 0, 1, 2, 3, 4, 5, 6, 7, 8], [10, 8, 8, 0, 1, 2, 3, 4, 5, 6, 7, 8]]
      [(0, []), (1, []), (2, []), (3, []), (4, []), (5, []), (6, []), (7, []), (8, []), (9, []), (10, []), (11, [])]
      [[], [], [1], [1, 2], [1, 2, 3], [], [5], [5, 6], [1, 2, 3, 4, 5, 6, 7], [0, 1, 2, 3, 4, 5, 6, 7, 8], [0, 1, 2, 3, 4, 5, 6, 7, 8, 9], [0, 1, 2, 3, 4, 5, 6, 7, 8, 9, 10]]
      [9, 32, 33, 34])) [9, 32, 33, 34])
  (.region [⟨some 49, none, .bin .add (.t 34) (.c (.int .i64 1))⟩,
    ⟨some 34, none, .mov (.t 49)⟩]
    [9, 32, 33, 34]))))
def RC.local_New : RFn := ⟨2, [.slot 4, .slot 5],
  (.seq (.region [⟨some 4, none, .mov (.c (.pointer none))⟩,
    ⟨some 5, none, .mov (.c (.int .i64 0))⟩]
    [0, 1])
  (.seq (.seq (.region [⟨some 12, none, .mov (.t 0)⟩,
    ⟨some 13, none, .mov (.t 1)⟩,
    ⟨some 14, none, .call F.order_Check [.t 12, .t 13]⟩,
    ⟨some 6, none, .mov (.t 14)⟩]
    [0, 1, 6])
  (.seq (.region [⟨some 15, none, .mov (.t 6)⟩,
    ⟨some 16, none, .bin .neq (.t 15) (.c (.int .i64 0))⟩]
    [0, 1, 6, 16])
  (.cond (.t 16)
    (.seq (.region [⟨some 17, none, .mov (.t 6)⟩,
      ⟨some 4, none, .mov (.c (.pointer none))⟩,
      ⟨some 5, none, .mov (.t 17)⟩]
      [4, 5])
    .ret)
    .skip)))
  (.seq (.seq (.region [⟨some 19, none, .mov (.t 1)⟩,
    ⟨some 20, none, .call F.order_Total [.t 19]⟩,
    ⟨some 18, none, .mov (.t 20)⟩,
    ⟨some 21, none, .ext 0 (.t 18)⟩,
    ⟨some 22, none, .ext 1 (.t 18)⟩,
    ⟨some 7, none, .mov (.t 21)⟩,
    ⟨some 8, none, .mov (.t 22)⟩]
    [0, 1, 7, 8])
  (.seq (.region [⟨some 23, none, .mov (.t 8)⟩,
    ⟨some 24, none, .bin .neq (.t 23) (.c (.int .i64 0))⟩,
    ⟨some 25, none, .mov (.t 24)⟩,
    ⟨some 26, some (25, false), .mov (.t 7)⟩,
    ⟨some 27, some (25, false), .mov (.t 0)⟩,
    ⟨some 28, some (25, false), .bin .gtr (.t 26) (.t 27)⟩,
    ⟨some 29, none, .pick (.t 25) (.c (.bool true)) (.t 28)⟩]
    [1, 29])
  (.cond (.t 29)
    (.seq (.region [⟨some 4, none, .mov (.c (.pointer none))⟩,
      ⟨some 5, none, .mov (.c (.int .i64 12))⟩]
      [4, 5])
    .ret)
    .skip)))
  (.seq (.region [⟨some 30, none, .build [(.slice none 0 0)] []⟩,
    ⟨some 31, none, .box (.t 30)⟩,
    ⟨some 9, none, .mov (.t 31)⟩]
    [1, 9])
  (.seq (.seq (.region [⟨some 32, none, .mov (.t 1)⟩,
    ⟨some 33, none, .len (.t 32)⟩,
    ⟨some 34, none, .mov (.c (.int .i64 0))⟩]
    [9, 32, 33, 34])
  (.block 0
    (.loop [9, 32, 33, 34] RB.local_New_1) [9]))
  (.seq (.region [⟨some 50, none, .mov (.t 9)⟩,
    ⟨some 51, none, .nilchk (.t 50)⟩,
    ⟨some 52, none, .fieldAddr 0 (.t 51)⟩,
    ⟨some 53, none, .load false 1 (.t 52)⟩,
    ⟨some 54, none, .call F.slices_SortFunc_local_entry_local_entry [.t 53, .f F.local_New_1]⟩]
    [9])
  (.seq (.region [⟨some 55, none, .mov (.t 9)⟩,
    ⟨some 4, none, .mov (.t 55)⟩,
    ⟨some 5, none, .mov (.c (.int .i64 0))⟩]
    [4, 5])
  .ret)))))))⟩

def RB.ref15_New_1 : RCode :=
  (.seq (.seq (.drawn [⟨some 14, none, .mov (.t 5)⟩,
    ⟨some 15, none, .fieldAddr 0 (.t 3)⟩,
    ⟨some 16, none, .load false 1 (.t 15)⟩,
    ⟨some 17, none, .len (.t 16)⟩,
    ⟨some 18, none, .bin .lss (.t 14) (.t 17)⟩,
    ⟨some 19, none, .mov (.t 18)⟩,
    ⟨some 20, some (19, true), .fieldAddr 0 (.t 3)⟩,
    ⟨some 21, some (19, true), .load false 1 (.t 20)⟩,
    ⟨some 22, some (19, true), .mov (.t 5)⟩,
    ⟨some 23, some (19, true), .idxS 2 (.t 21) (.t 22)⟩,
    ⟨some 24, some (19, true), .fieldAddr 0 (.t 23)⟩,
    ⟨some 25, some (19, true), .load false 1 (.t 24)⟩,
    ⟨some 26, some (19, true), .mov (.t 0)⟩,
    ⟨some 27, some (19, true), .mov (.t 4)⟩,
    ⟨some 28, some (19, true), .idxS 2 (.t 26) (.t 27)⟩,
    ⟨some 29, some (19, true), .fieldAddr 0 (.t 28)⟩,
    ⟨some 30, some (19, true), .load false 1 (.t 29)⟩,
    ⟨some 31, some (19, true), .bin .lss (.t 25) (.t 30)⟩,
    ⟨some 32, none, .pick (.t 19) (.t 31) (.c (.bool false))⟩]
    [[], [], [1], [2], [0, 3], [4], [5], [6, 5], [5], [7, 8, 5], [9, 5], [10, 5], [5], [5], [12, 13, 5], [14, 5], [15, 5], [11, 16, 5], [5, 17]]
    [(0, []), (1, []), (2, []), (3, []), (4, []), (5, []), (6, []), (8, []), (12, []), (13, []), (14, []), (15, []), (7, []), (9, []), (10, []), (11, []), (16, []), (17, []), (18, [])]
    [[], [], [1], [1, 2], [0, 1, 2, 3], [0, 1, 2, 3, 4], [0, 1, 2, 3, 4, 5], [0, 1, 2, 3, 4, 5, 6], [0, 1, 2, 3, 4, 5], [0, 1, 2, 3, 4, 5, 6, 7, 8], [0, 1, 2, 3, 4, 5, 6, 7, 8, 9], [0, 1, 2, 3, 4, 5, 6, 7, 8, 9, 10], [0, 1, 2, 3, 4, 5], [0, 1, 2, 3, 4, 5], [0, 1, 2, 3, 4, 5, 12, 13], [0, 1, 2, 3, 4, 5, 12, 13, 14], [0, 1, 2, 3, 4, 5, 12, 13, 14, 15], [0, 1, 2, 3, 4, 5, 6, 7, 8, 9, 10, 11, 12, 13, 14, 15, 16], [0, 1, 2, 3, 4, 5, 6, 7, 8, 9, 10, 11, 12, 13, 14, 15, 16, 17]]
    [0, 2, 3, 4, 5, 32])
  (.cond (.t 32)
    .skip
    (.exit 2)))
  (.block 3
    (.region [⟨some 33, none, .mov (.t 5)⟩,
      ⟨some 34, none, .bin .add (.t 33) (.c (.int .i64 1))⟩,
      ⟨some 5, none, .mov (.t 34)⟩]
      [0, 2, 3, 4, 5]) [0, 2, 3, 4, 5]))
def RB.ref15_New_2 : RCode :=
  (.seq (.seq (.region [⟨some 8, none, .mov (.t 4)⟩,
    ⟨some 9, none, .mov (.t 0)⟩,
    ⟨some 10, none, .len (.t 9)⟩,
    ⟨some 11, none, .bin .lss (.t 8) (.t 10)⟩]
    [0, 2, 3, 4, 11])
  (.cond (.t 11)
    .skip
    (.exit 0)))
  (.seq (.block 1
    (.seq (.region [⟨some 5, none, .mov (.c (.int .i64 0))⟩]
      [0, 2, 3, 4, 5])
    (.seq (.block 2
      (.loop [0, 2, 3, 4, 5] RB.ref15_New_1) [0, 2, 3, 4, 5])
    (.seq (.region [⟨some 35, none, .bslice [] [] 0 2⟩,
      ⟨some 36, none, .fieldAddr 0 (.t 3)⟩,
      ⟨some 37, none, .load false 1 (.t 36)⟩,
      ⟨some 38, none, .mov (.t 5)⟩,
      ⟨some 39, none, .sub 2 (.t 37) none (some (.t 38)) none⟩,
      ⟨some 40, none, .app 2 16 (.t 35) (.t 39)⟩,
      ⟨some 6, none, .mov (.t 40)⟩]
      [0, 2, 3, 4, 5, 6])
    (.seq (.region [⟨some 41, none, .mov (.t 6)⟩,
      ⟨some 42, none, .mov (.t 0)⟩,
      ⟨some 43, none, .mov (.t 4)⟩,
      ⟨some 44, none, .idxS 2 (.t 42) (.t 43)⟩,
      ⟨some 45, none, .load true 2 (.t 44)⟩,
      ⟨some 46, none, .bslice [(.int .i64 0), (.int .i64 0)] [(0, 2, .t 45)] 1 2⟩,
      ⟨some 47, none, .app 2 16 (.t 41) (.t 46)⟩,
      ⟨some 6, none, .mov (.t 47)⟩]
      [0, 2, 3, 4, 5, 6])
    (.seq (.region [⟨some 48, none, .mov (.t 6)⟩,
      ⟨some 49, none, .fieldAddr 0 (.t 3)⟩,
      ⟨some 50, none, .load false 1 (.t 49)⟩,
      ⟨some 51, none, .mov (.t 5)⟩,
      ⟨some 52, none, .sub 2 (.t 50) (some (.t 51)) none none⟩,
      ⟨some 53, none, .app 2 16 (.t 48) (.t 52)⟩,
      ⟨some 54, none, .fieldAddr 0 (.t 3)⟩,
      ⟨none, none, .store 1 (.t 54) (.t 53)⟩]
      [0, 2, 3, 4])
    (.region [⟨some 55, none, .fieldAddr 1 (.t 3)⟩,
      ⟨some 56, none, .load false 1 (.t 55)⟩,
      ⟨some 57, none, .bslice [(.int .i64 0)] [(0, 1, .c (.int .i64 0))] 1 1⟩,
      ⟨some 58, none, .app 1 8 (.t 56) (.t 57)⟩,
      ⟨some 59, none, .fieldAddr 1 (.t 3)⟩,
      ⟨none, none, .store 1 (.t 59) (.t 58)⟩]
      [0, 2, 3, 4])))))) [0, 2, 3, 4])
  (.region [⟨some 12, none, .mov (.t 4)⟩,
    ⟨some 13, none, .bin .add (.t 12) (.c (.int .i64 1))⟩,
    ⟨some 4, none, .mov (.t 13)⟩]
    [0, 2, 3, 4])))
def RC.ref15_New : RFn := ⟨1, [.cell 2 true 2],
  (.seq (.region [⟨some 2, none, .alloc [(.slice none 0 0), (.slice none 0 0)]⟩]
    [0, 2])
  (.seq (.region [⟨some 7, none, .build [(.slice none 0 0), (.slice none 0 0)] []⟩,
    ⟨some 3, none, .alloc [(.slice none 0 0), (.slice none 0 0)]⟩,
    ⟨none, none, .store 2 (.t 3) (.t 7)⟩]
    [0, 2, 3])
  (.seq (.seq (.region [⟨some 4, none, .mov (.c (.int .i64 0))⟩]
    [0, 2, 3, 4])
  (.block 0
    (.loop [0, 2, 3, 4] RB.ref15_New_2) [2, 3]))
  (.seq (.region [⟨some 60, none, .load true 2 (.t 3)⟩,
    ⟨none, none, .store 2 (.t 2) (.t 60)⟩]
    [2])
  .ret))))⟩

def RC.ref15_Pick : RFn := ⟨2, [.cell 4 true 2, .slot 5],
  (.seq (.region [⟨some 2, none, .box (.t 0)⟩,
    ⟨some 4, none, .alloc [(.slice none 0 0), (.slice none 0 0)]⟩,
    ⟨some 5, none, .mov (.c (.int .i64 0))⟩]
    [1, 2, 4])
  (.seq (.region [⟨some 7, none, .load true 2 (.t 2)⟩,
    ⟨some 8, none, .mov (.t 1)⟩,
    ⟨some 9, none, .call F.ref15_Next [.t 7, .t 8]⟩,
    ⟨some 6, none, .mov (.t 9)⟩]
    [2, 4, 6])
  (.seq (.seq (.region [⟨some 10, none, .mov (.t 6)⟩,
    ⟨some 11, none, .bin .lss (.t 10) (.c (.int .i64 0))⟩]
    [2, 4, 6, 11])
  (.cond (.t 11)
    (.seq (.region [⟨some 12, none, .load true 2 (.t 2)⟩,
      ⟨none, none, .store 2 (.t 4) (.t 12)⟩,
      ⟨some 5, none, .mov (.c (.int .i64 0))⟩]
      [4, 5])
    .ret)
    .skip))
  (.seq (.region [⟨some 13, none, .bslice [] [] 0 1⟩,
    ⟨some 14, none, .fieldAddr 1 (.t 2)⟩,
    ⟨some 15, none, .load false 1 (.t 14)⟩,
    ⟨some 16, none, .app 1 8 (.t 13) (.t 15)⟩,
    ⟨some 17, none, .fieldAddr 1 (.t 2)⟩,
    ⟨none, none, .store 1 (.t 17) (.t 16)⟩]
    [2, 4, 6])
  (.seq (.region [⟨some 18, none, .fieldAddr 1 (.t 2)⟩,
    ⟨some 19, none, .load false 1 (.t 18)⟩,
    ⟨some 20, none, .mov (.t 6)⟩,
    ⟨some 21, none, .idxS 1 (.t 19) (.t 20)⟩,
    ⟨some 22, none, .load false 1 (.t 21)⟩,
    ⟨some 23, none, .bin .add (.t 22) (.c (.int .i64 1))⟩,
    ⟨some 24, none, .idxS 1 (.t 19) (.t 20)⟩,
    ⟨none, none, .store 1 (.t 24) (.t 23)⟩]
    [2, 4, 6])
  (.seq (.drawn [⟨some 25, none, .load true 2 (.t 2)⟩,
    ⟨some 26, none, .fieldAddr 0 (.t 2)⟩,
    ⟨some 27, none, .load false 1 (.t 26)⟩,
    ⟨some 28, none, .mov (.t 6)⟩,
    ⟨some 29, none, .idxS 2 (.t 27) (.t 28)⟩,
    ⟨some 30, none, .fieldAddr 0 (.t 29)⟩,
    ⟨some 31, none, .load false 1 (.t 30)⟩,
    ⟨none, none, .store 2 (.t 4) (.t 25)⟩,
    ⟨some 5, none, .mov (.t 31)⟩]
    [[], [], [1], [], [2, 3], [4], [5], [0, 0], [6, 7, 0, 1, 2, 3, 4, 5, 6, 7]]
    [(1, []), (3, []), (0, []), (2, []), (4, []), (5, []), (6, []), (7, [26, 30]), (8, [])]
    [[], [], [1], [], [1, 2, 3], [1, 2, 3, 4], [1, 2, 3, 4, 5], [0], [0, 1, 2, 3, 4, 5, 6, 7]]
    [4, 5])
  .ret))))))⟩

def RB.local_Local_Begin_1 : RCode :=
  (.seq (.region [⟨some 11, none, .bin .lss (.t 10) (.t 9)⟩]
    [0, 9, 10, 11])
  (.seq (.cond (.t 11)
    .skip
    (.exit 0))
  (.seq (.block 1
    (.seq (.region [⟨some 12, none, .mov (.t 10)⟩,
      ⟨some 2, none, .mov (.t 12)⟩]
      [0, 2, 9, 10])
    (.region [⟨some 13, none, .mov (.t 0)⟩,
      ⟨some 14, none, .nilchk (.t 13)⟩,
      ⟨some 15, none, .fieldAddr 0 (.t 14)⟩,
      ⟨some 16, none, .load false 1 (.t 15)⟩,
      ⟨some 17, none, .mov (.t 2)⟩,
      ⟨some 18, none, .idxS 3 (.t 16) (.t 17)⟩,
      ⟨some 19, none, .fieldAddr 2 (.t 18)⟩,
      ⟨none, none, .store 1 (.t 19) (.c (.int .i64 0))⟩]
      [0, 9, 10])) [0, 9, 10])
  (.region [⟨some 20, none, .bin .add (.t 10) (.c (.int .i64 1))⟩,
    ⟨some 10, none, .mov (.t 20)⟩]
    [0, 9, 10]))))
def RC.local_Local_Begin : RFn := ⟨1, [],
  (.seq (.seq (.region [⟨some 3, none, .mov (.t 0)⟩,
    ⟨some 4, none, .eq false .ptr (.t 3) (.c (.pointer none))⟩]
    [0, 4])
  (.cond (.t 4)
    .ret
    .skip))
  (.seq (.region [⟨some 5, none, .mov (.t 0)⟩,
    ⟨some 6, none, .nilchk (.t 5)⟩,
    ⟨some 7, none, .fieldAddr 0 (.t 6)⟩,
    ⟨some 8, none, .load false 1 (.t 7)⟩,
    ⟨some 9, none, .len (.t 8)⟩,
    ⟨some 10, none, .mov (.c (.int .i64 0))⟩]
    [0, 9, 10])
  (.block 0
    (.loop [0, 9, 10] RB.local_Local_Begin_1) [])))⟩

def RC.ref15_Begin : RFn := ⟨1, [.cell 2 true 2],
  (.seq (.region [⟨some 1, none, .box (.t 0)⟩,
    ⟨some 2, none, .alloc [(.slice none 0 0), (.slice none 0 0)]⟩]
    [1, 2])
  (.seq (.region [⟨some 3, none, .fieldAddr 0 (.t 1)⟩,
    ⟨some 4, none, .load false 1 (.t 3)⟩,
    ⟨some 5, none, .len (.t 4)⟩,
    ⟨some 6, none, .mkslice 1 8 [(.int .i64 0)] (.t 5) (.t 5)⟩,
    ⟨some 7, none, .fieldAddr 1 (.t 1)⟩,
    ⟨none, none, .store 1 (.t 7) (.t 6)⟩]
    [1, 2])
  (.seq (.region [⟨some 8, none, .load true 2 (.t 1)⟩,
    ⟨none, none, .store 2 (.t 2) (.t 8)⟩]
    [2])
  .ret)))⟩

def RB.ref15_Drop_1 : RCode :=
  (.seq (.seq (.region [⟨some 9, none, .mov (.t 7)⟩,
    ⟨some 10, none, .fieldAddr 0 (.t 2)⟩,
    ⟨some 11, none, .load false 1 (.t 10)⟩,
    ⟨some 12, none, .len (.t 11)⟩,
    ⟨some 13, none, .bin .lss (.t 9) (.t 12)⟩]
    [1, 2, 4, 6, 7, 13])
  (.cond (.t 13)
    .skip
    (.exit 0)))
  (.seq (.block 1
    (.seq (.region [⟨some 16, none, .fieldAddr 0 (.t 2)⟩,
      ⟨some 17, none, .load false 1 (.t 16)⟩,
      ⟨some 18, none, .mov (.t 7)⟩,
      ⟨some 19, none, .idxS 2 (.t 17) (.t 18)⟩,
      ⟨some 20, none, .fieldAddr 0 (.t 19)⟩,
      ⟨some 21, none, .load false 1 (.t 20)⟩,
      ⟨some 22, none, .mov (.t 1)⟩,
      ⟨some 23, none, .bin .neq (.t 21) (.t 22)⟩]
      [1, 2, 4, 6, 7, 23])
    (.cond (.t 23)
      (.seq (.drawn [⟨some 24, none, .fieldAddr 0 (.t 6)⟩,
        ⟨some 25, none, .load false 1 (.t 24)⟩,
        ⟨some 26, none, .fieldAddr 0 (.t 2)⟩,
        ⟨some 27, none, .load false 1 (.t 26)⟩,
        ⟨some 28, none, .mov (.t 7)⟩,
        ⟨some 29, none, .idxS 2 (.t 27) (.t 28)⟩,
        ⟨some 30, none, .load true 2 (.t 29)⟩,
        ⟨some 31, none, .bslice [(.int .i64 0), (.int .i64 0)] [(0, 2, .t 30)] 1 2⟩,
        ⟨some 32, none, .app 2 16 (.t 25) (.t 31)⟩,
        ⟨some 33, none, .fieldAddr 0 (.t 6)⟩,
        ⟨none, none, .store 1 (.t 33) (.t 32)⟩]
        [[], [0], [], [2], [], [3, 4], [5], [6], [1, 7], [0, 1, 2, 3, 4, 5, 6, 7, 8], [9, 8, 8, 0, 1, 2, 3, 4, 5, 6, 7, 8]]
        [(0, []), (2, []), (4, []), (1, []), (3, []), (5, []), (6, []), (7, []), (8, []), (9, []), (10, [])]
        [[], [0], [], [2], [], [2, 3, 4], [2, 3, 4, 5], [2, 3, 4, 5, 6], [0, 1, 2, 3, 4, 5, 6, 7], [0, 1, 2, 3, 4, 5, 6, 7, 8], [0, 1, 2, 3, 4, 5, 6, 7, 8, 9]]
        [1, 2, 4, 6, 7])
      (.drawn [⟨some 34, none, .fieldAddr 1 (.t 6)⟩,
        ⟨some 35, none, .load false 1 (.t 34)⟩,
        ⟨some 36, none, .fieldAddr 1 (.t 2)⟩,
        ⟨some 37, none, .load false 1 (.t 36)⟩,
        ⟨some 38, none, .mov (.t 7)⟩,
        ⟨some 39, none, .idxS 1 (.t 37) (.t 38)⟩,
        ⟨some 40, none, .load false 1 (.t 39)⟩,
        ⟨some 41, none, .bslice [(.int .i64 0)] [(0, 1, .t 40)] 1 1⟩,
        ⟨some 42, none, .app 1 8 (.t 35) (.t 41)⟩,
        ⟨some 43, none, .fieldAddr 1 (.t 6)⟩,
        ⟨none, none, .store 1 (.t 43) (.t 42)⟩]
        [[], [0], [], [2], [], [3, 4], [5], [6], [1, 7], [0, 1, 2, 3, 4, 5, 6, 7, 8], [9, 8, 8, 0, 1, 2, 3, 4, 5, 6, 7, 8]]
        [(0, []), (2, []), (4, []), (1, []), (3, []), (5, []), (6, []), (7, []), (8, []), (9, []), (10, [])]
        [[], [0], [], [2], [], [2, 3, 4], [2, 3, 4, 5], [2, 3, 4, 5, 6], [0, 1, 2, 3, 4, 5, 6, 7], [0, 1, 2, 3, 4, 5, 6, 7, 8], [0, 1, 2, 3, 4, 5, 6, 7, 8, 9]]
        [1, 2, 4, 6, 7]))
      .skip)) [1, 2, 4, 6, 7])
  (.region [⟨some 14, none, .mov (.t 7)⟩,
    ⟨some 15, none, .bin .add (.t 14) (.c (.int .i64 1))⟩,
    ⟨some 7, none, .mov (.t 15)⟩]
    [1, 2, 4, 6, 7])))
def RC.ref15_Drop : RFn := ⟨2, [.cell 4 true 2, .slot 5],
  (.seq (.region [⟨some 2, none, .box (.t 0)⟩,
    ⟨some 4, none, .alloc [(.slice none 0 0), (.slice none 0 0)]⟩,
    ⟨some 5, none, .mov (.c (.bool false))⟩]
    [1, 2, 4])
  (.seq (.region [⟨some 8, none, .build [(.slice none 0 0), (.slice none 0 0)] []⟩,
    ⟨some 6, none, .alloc [(.slice none 0 0), (.slice none 0 0)]⟩,
    ⟨none, none, .store 2 (.t 6) (.t 8)⟩]
    [1, 2, 4, 6])
  (.seq (.seq (.region [⟨some 7, none, .mov (.c (.int .i64 0))⟩]
    [1, 2, 4, 6, 7])
  (.block 0
    (.loop [1, 2, 4, 6, 7] RB.ref15_Drop_1) [2, 4, 6]))
  (.seq (.drawn [⟨some 44, none, .load true 2 (.t 6)⟩,
    ⟨some 45, none, .fieldAddr 0 (.t 6)⟩,
    ⟨some 46, none, .load false 1 (.t 45)⟩,
    ⟨some 47, none, .len (.t 46)⟩,
    ⟨some 48, none, .fieldAddr 0 (.t 2)⟩,
    ⟨some 49, none, .load false 1 (.t 48)⟩,
    ⟨some 50, none, .len (.t 49)⟩,
    ⟨some 51, none, .bin .lss (.t 47) (.t 50)⟩,
    ⟨none, none, .store 2 (.t 4) (.t 44)⟩,
    ⟨some 5, none, .mov (.t 51)⟩]
    [[], [], [1], [2], [], [4], [5], [3, 6], [0, 0], [7, 8, 0, 1, 2, 3, 4, 5, 6, 7, 8]]
    [(1, []), (4, []), (0, []), (2, []), (3, []), (5, []), (6, []), (7, []), (8, [45, 48]), (9, [])]
    [[], [], [1], [1, 2], [], [4], [4, 5], [1, 2, 3, 4, 5, 6], [0], [0, 1, 2, 3, 4, 5, 6, 7, 8]]
    [4, 5])
  .ret))))⟩

def RC.local_Local_Drop : RFn := ⟨2, [.slot 4],
  (.seq (.region [⟨some 4, none, .mov (.c (.bool false))⟩]
    [0, 1])
  (.seq (.region [⟨some 6, none, .mov (.t 0)⟩,
    ⟨some 7, none, .mov (.t 1)⟩,
    ⟨some 8, none, .call F.local_Local_find [.t 6, .t 7]⟩,
    ⟨some 5, none, .mov (.t 8)⟩]
    [0, 5])
  (.seq (.seq (.region [⟨some 9, none, .mov (.t 5)⟩,
    ⟨some 10, none, .bin .lss (.t 9) (.c (.int .i64 0))⟩]
    [0, 5, 10])
  (.cond (.t 10)
    (.seq (.region [⟨some 4, none, .mov (.c (.bool false))⟩]
      [4])
    .ret)
    .skip))
  (.seq (.region [⟨some 11, none, .mov (.t 0)⟩,
    ⟨some 12, none, .mov (.t 0)⟩,
    ⟨some 13, none, .nilchk (.t 12)⟩,
    ⟨some 14, none, .fieldAddr 0 (.t 13)⟩,
    ⟨some 15, none, .load false 1 (.t 14)⟩,
    ⟨some 16, none, .mov (.t 5)⟩,
    ⟨some 17, none, .mov (.t 5)⟩,
    ⟨some 18, none, .bin .add (.t 17) (.c (.int .i64 1))⟩,
    ⟨some 19, none, .call F.slices_Delete_local_entry_local_entry [.t 15, .t 16, .t 18]⟩,
    ⟨some 20, none, .nilchk (.t 11)⟩,
    ⟨some 21, none, .fieldAddr 0 (.t 20)⟩,
    ⟨none, none, .store 1 (.t 21) (.t 19)⟩]
    [])
  (.seq (.region [⟨some 4, none, .mov (.c (.bool true))⟩]
    [4])
  .ret)))))⟩

def RB.ref08_Total_1 : RCode :=
  (.seq (.seq (.region [⟨some 8, none, .mov (.t 5)⟩,
    ⟨some 9, none, .mov (.t 0)⟩,
    ⟨some 10, none, .len (.t 9)⟩,
    ⟨some 11, none, .bin .lss (.t 8) (.t 10)⟩]
    [0, 4, 5, 11])
  (.cond (.t 11)
    .skip
    (.exit 0)))
  (.seq (.block 1
    (.seq (.region [⟨some 15, none, .mov (.t 4)⟩,
      ⟨some 16, none, .mov (.t 0)⟩,
      ⟨some 17, none, .mov (.t 5)⟩,
      ⟨some 18, none, .idxS 2 (.t 16) (.t 17)⟩,
      ⟨some 19, none, .fieldAddr 1 (.t 18)⟩,
      ⟨some 20, none, .load false 1 (.t 19)⟩,
      ⟨some 21, none, .call F.ref02_Add [.t 15, .t 20]⟩,
      ⟨some 14, none, .mov (.t 21)⟩,
      ⟨some 22, none, .ext 0 (.t 14)⟩,
      ⟨some 23, none, .ext 1 (.t 14)⟩,
      ⟨some 6, none, .mov (.t 22)⟩,
      ⟨some 7, none, .mov (.t 23)⟩]
      [0, 5, 6, 7])
    (.seq (.seq (.region [⟨some 24, none, .mov (.t 7)⟩,
      ⟨some 25, none, .un .not (.t 24)⟩]
      [0, 5, 6, 25])
    (.cond (.t 25)
      (.seq (.region [⟨some 2, none, .mov (.c (.int .i64 0))⟩,
        ⟨some 3, none, .mov (.c (.bool false))⟩]
        [2, 3])
      .ret)
      .skip))
    (.region [⟨some 26, none, .mov (.t 6)⟩,
      ⟨some 4, none, .mov (.t 26)⟩]
      [0, 4, 5]))) [0, 4, 5])
  (.region [⟨some 12, none, .mov (.t 5)⟩,
    ⟨some 13, none, .bin .add (.t 12) (.c (.int .i64 1))⟩,
    ⟨some 5, none, .mov (.t 13)⟩]
    [0, 4, 5])))
def RC.ref08_Total : RFn := ⟨1, [.slot 2, .slot 3],
  (.seq (.region [⟨some 2, none, .mov (.c (.int .i64 0))⟩,
    ⟨some 3, none, .mov (.c (.bool false))⟩]
    [0])
  (.seq (.region [⟨some 4, none, .mov (.c (.int .i64 0))⟩]
    [0, 4])
  (.seq (.seq (.region [⟨some 5, none, .mov (.c (.int .i64 0))⟩]
    [0, 4, 5])
  (.block 0
    (.loop [0, 4, 5] RB.ref08_Total_1) [4]))
  (.seq (.region [⟨some 27, none, .mov (.t 4)⟩,
    ⟨some 2, none, .mov (.t 27)⟩,
    ⟨some 3, none, .mov (.c (.bool true))⟩]
    [2, 3])
  .ret))))⟩

def RB.ref08_Same_1 : RCode :=
  (.seq (.seq (.region [⟨some 11, none, .mov (.t 5)⟩,
    ⟨some 12, none, .mov (.t 0)⟩,
    ⟨some 13, none, .len (.t 12)⟩,
    ⟨some 14, none, .bin .lss (.t 11) (.t 13)⟩]
    [0, 1, 5, 14])
  (.cond (.t 14)
    .skip
    (.exit 0)))
  (.seq (.block 1
    (.seq (.drawn [⟨some 17, none, .mov (.t 0)⟩,
      ⟨some 18, none, .mov (.t 5)⟩,
      ⟨some 19, none, .idxS 2 (.t 17) (.t 18)⟩,
      ⟨some 20, none, .load true 2 (.t 19)⟩,
      ⟨some 21, none, .mov (.t 1)⟩,
      ⟨some 22, none, .mov (.t 5)⟩,
      ⟨some 23, none, .idxS 2 (.t 21) (.t 22)⟩,
      ⟨some 24, none, .load true 2 (.t 23)⟩,
      ⟨some 25, none, .eq true (.flat [.int, .int]) (.t 20) (.t 24)⟩]
      [[], [], [0, 1], [2], [], [], [4, 5], [6], [3, 7]]
      [(0, []), (1, []), (2, []), (4, []), (5, []), (6, []), (3, []), (7, []), (8, [])]
      [[], [], [0, 1], [0, 1, 2], [], [], [4, 5], [4, 5, 6], [0, 1, 2, 3, 4, 5, 6, 7]]
      [0, 1, 5, 25])
    (.cond (.t 25)
      (.seq (.region [⟨some 4, none, .mov (.c (.bool false))⟩]
        [4])
      .ret)
      .skip)) [0, 1, 5])
  (.region [⟨some 15, none, .mov (.t 5)⟩,
    ⟨some 16, none, .bin .add (.t 15) (.c (.int .i64 1))⟩,
    ⟨some 5, none, .mov (.t 16)⟩]
    [0, 1, 5])))
def RC.ref08_Same : RFn := ⟨2, [.slot 4],
  (.seq (.region [⟨some 4, none, .mov (.c (.bool false))⟩]
    [0, 1])
  (.seq (.seq (.region [⟨some 6, none, .mov (.t 0)⟩,
    ⟨some 7, none, .len (.t 6)⟩,
    ⟨some 8, none, .mov (.t 1)⟩,
    ⟨some 9, none, .len (.t 8)⟩,
    ⟨some 10, none, .bin .neq (.t 7) (.t 9)⟩]
    [0, 1, 10])
  (.cond (.t 10)
    (.seq (.region [⟨some 4, none, .mov (.c (.bool false))⟩]
      [4])
    .ret)
    .skip))
  (.seq (.seq (.region [⟨some 5, none, .mov (.c (.int .i64 0))⟩]
    [0, 1, 5])
  (.block 0
    (.loop [0, 1, 5] RB.ref08_Same_1) []))
  (.seq (.region [⟨some 4, none, .mov (.c (.bool true))⟩]
    [4])
  .ret))))⟩

def RB.local_Local_Wants_1 : RCode :=
  (.seq (.region [⟨some 14, none, .bin .lss (.t 13) (.t 12)⟩]
    [3, 11, 12, 13, 14])
  (.seq (.cond (.t 14)
    .skip
    (.exit 0))
  (.seq (.block 1
    (.seq (.region [⟨some 15, none, .idxS 3 (.t 11) (.t 13)⟩,
      ⟨some 16, none, .load true 3 (.t 15)⟩,
      ⟨some 5, none, .alloc [(.int .i64 0), (.int .i64 0), (.int .i64 0)]⟩,
      ⟨none, none, .store 3 (.t 5) (.t 16)⟩]
      [3, 5, 11, 12, 13])
    (.region [⟨some 17, none, .mov (.t 3)⟩,
      ⟨some 18, none, .fieldAddr 0 (.t 5)⟩,
      ⟨some 19, none, .load true 2 (.t 18)⟩,
      ⟨some 20, none, .bslice [(.int .i64 0), (.int .i64 0)] [(0, 2, .t 19)] 1 2⟩,
      ⟨some 21, none, .app 2 16 (.t 17) (.t 20)⟩,
      ⟨some 3, none, .mov (.t 21)⟩]
      [3, 11, 12, 13])) [3, 11, 12, 13])
  (.region [⟨some 22, none, .bin .add (.t 13) (.c (.int .i64 1))⟩,
    ⟨some 13, none, .mov (.t 22)⟩]
    [3, 11, 12, 13]))))
def RC.local_Local_Wants : RFn := ⟨1, [.slot 2],
  (.seq (.region [⟨some 2, none, .mov (.c (.slice none 0 0))⟩]
    [0])
  (.seq (.seq (.region [⟨some 6, none, .mov (.t 0)⟩,
    ⟨some 7, none, .eq false .ptr (.t 6) (.c (.pointer none))⟩]
    [0, 7])
  (.cond (.t 7)
    (.seq (.region [⟨some 2, none, .mov (.c (.slice none 0 0))⟩]
      [2])
    .ret)
    .skip))
  (.seq (.region [⟨some 3, none, .mov (.c (.slice none 0 0))⟩]
    [0, 3])
  (.seq (.seq (.region [⟨some 8, none, .mov (.t 0)⟩,
    ⟨some 9, none, .nilchk (.t 8)⟩,
    ⟨some 10, none, .fieldAddr 0 (.t 9)⟩,
    ⟨some 11, none, .load false 1 (.t 10)⟩,
    ⟨some 12, none, .len (.t 11)⟩,
    ⟨some 13, none, .mov (.c (.int .i64 0))⟩]
    [3, 11, 12, 13])
  (.block 0
    (.loop [3, 11, 12, 13] RB.local_Local_Wants_1) [3]))
  (.seq (.region [⟨some 23, none, .mov (.t 3)⟩,
    ⟨some 2, none, .mov (.t 23)⟩]
    [2])
  .ret)))))⟩

def RB.ref08_Check_1 : RCode :=
  (.seq (.seq (.region [⟨some 41, none, .mov (.t 6)⟩,
    ⟨some 42, none, .mov (.t 5)⟩,
    ⟨some 43, none, .bin .lss (.t 41) (.t 42)⟩]
    [0, 1, 5, 6, 43])
  (.cond (.t 43)
    .skip
    (.exit 2)))
  (.seq (.block 3
    (.seq (.drawn [⟨some 46, none, .mov (.t 1)⟩,
      ⟨some 47, none, .mov (.t 6)⟩,
      ⟨some 48, none, .idxS 2 (.t 46) (.t 47)⟩,
      ⟨some 49, none, .fieldAddr 0 (.t 48)⟩,
      ⟨some 50, none, .load false 1 (.t 49)⟩,
      ⟨some 51, none, .mov (.t 1)⟩,
      ⟨some 52, none, .mov (.t 5)⟩,
      ⟨some 53, none, .idxS 2 (.t 51) (.t 52)⟩,
      ⟨some 54, none, .fieldAddr 0 (.t 53)⟩,
      ⟨some 55, none, .load false 1 (.t 54)⟩,
      ⟨some 56, none, .bin .eql (.t 50) (.t 55)⟩]
      [[], [], [0, 1], [2], [3], [], [], [5, 6], [7], [8], [4, 9]]
      [(0, []), (1, []), (2, []), (3, []), (5, []), (6, []), (7, []), (8, []), (4, []), (9, []), (10, [])]
      [[], [], [0, 1], [0, 1, 2], [0, 1, 2, 3], [], [], [5, 6], [5, 6, 7], [5, 6, 7, 8], [0, 1, 2, 3, 4, 5, 6, 7, 8, 9]]
      [0, 1, 5, 6, 56])
    (.cond (.t 56)
      (.seq (.region [⟨some 4, none, .mov (.c (.int .i64 11))⟩]
        [4])
      .ret)
      .skip)) [0, 1, 5, 6])
  (.region [⟨some 44, none, .mov (.t 6)⟩,
    ⟨some 45, none, .bin .add (.t 44) (.c (.int .i64 1))⟩,
    ⟨some 6, none, .mov (.t 45)⟩]
    [0, 1, 5, 6])))
def RB.ref08_Check_2 : RCode :=
  (.seq (.seq (.region [⟨some 13, none, .mov (.t 5)⟩,
    ⟨some 14, none, .mov (.t 1)⟩,
    ⟨some 15, none, .len (.t 14)⟩,
    ⟨some 16, none, .bin .lss (.t 13) (.t 15)⟩]
    [0, 1, 5, 16])
  (.cond (.t 16)
    .skip
    (.exit 0)))
  (.seq (.block 1
    (.seq (.seq (.region [⟨some 19, none, .mov (.t 1)⟩,
      ⟨some 20, none, .mov (.t 5)⟩,
      ⟨some 21, none, .idxS 2 (.t 19) (.t 20)⟩,
      ⟨some 22, none, .fieldAddr 0 (.t 21)⟩,
      ⟨some 23, none, .load false 1 (.t 22)⟩,
      ⟨some 24, none, .call F.ref08_Is [.t 23]⟩,
      ⟨some 25, none, .un .not (.t 24)⟩]
      [0, 1, 5, 25])
    (.cond (.t 25)
      (.seq (.region [⟨some 4, none, .mov (.c (.int .i64 20))⟩]
        [4])
      .ret)
      .skip))
    (.seq (.seq (.region [⟨some 26, none, .mov (.t 1)⟩,
      ⟨some 27, none, .mov (.t 5)⟩,
      ⟨some 28, none, .idxS 2 (.t 26) (.t 27)⟩,
      ⟨some 29, none, .fieldAddr 1 (.t 28)⟩,
      ⟨some 30, none, .load false 1 (.t 29)⟩,
      ⟨some 31, none, .bin .lss (.t 30) (.c (.int .i64 1))⟩,
      ⟨some 32, none, .mov (.t 31)⟩,
      ⟨some 33, some (32, false), .mov (.t 1)⟩,
      ⟨some 34, some (32, false), .mov (.t 5)⟩,
      ⟨some 35, some (32, false), .idxS 2 (.t 33) (.t 34)⟩,
      ⟨some 36, some (32, false), .fieldAddr 1 (.t 35)⟩,
      ⟨some 37, some (32, false), .load false 1 (.t 36)⟩,
      ⟨some 38, some (32, false), .mov (.t 0)⟩,
      ⟨some 39, some (32, false), .bin .gtr (.t 37) (.t 38)⟩,
      ⟨some 40, none, .pick (.t 32) (.c (.bool true)) (.t 39)⟩]
      [0, 1, 5, 40])
    (.cond (.t 40)
      (.seq (.region [⟨some 4, none, .mov (.c (.int .i64 21))⟩]
        [4])
      .ret)
      .skip))
    (.seq (.region [⟨some 6, none, .mov (.c (.int .i64 0))⟩]
      [0, 1, 5, 6])
    (.block 2
      (.loop [0, 1, 5, 6] RB.ref08_Check_1) [0, 1, 5])))) [0, 1, 5])
  (.region [⟨some 17, none, .mov (.t 5)⟩,
    ⟨some 18, none, .bin .add (.t 17) (.c (.int .i64 1))⟩,
    ⟨some 5, none, .mov (.t 18)⟩]
    [0, 1, 5])))
def RC.ref08_Check : RFn := ⟨2, [.slot 4],
  (.seq (.region [⟨some 4, none, .mov (.c (.int .i64 0))⟩]
    [0, 1])
  (.seq (.seq (.region [⟨some 7, none, .mov (.t 0)⟩,
    ⟨some 8, none, .bin .lss (.t 7) (.c (.int .i64 2))⟩,
    ⟨some 9, none, .mov (.t 8)⟩,
    ⟨some 10, some (9, false), .mov (.t 0)⟩,
    ⟨some 11, some (9, false), .bin .gtr (.t 10) (.c (.int .i64 64))⟩,
    ⟨some 12, none, .pick (.t 9) (.c (.bool true)) (.t 11)⟩]
    [0, 1, 12])
  (.cond (.t 12)
    (.seq (.region [⟨some 4, none, .mov (.c (.int .i64 1))⟩]
      [4])
    .ret)
    .skip))
  (.seq (.seq (.region [⟨some 5, none, .mov (.c (.int .i64 0))⟩]
    [0, 1, 5])
  (.block 0
    (.loop [0, 1, 5] RB.ref08_Check_2) []))
  (.seq (.region [⟨some 4, none, .mov (.c (.int .i64 0))⟩]
    [4])
  .ret))))⟩

def RB.order_Total_1 : RCode :=
  (.seq (.region [⟨some 12, none, .bin .lss (.t 11) (.t 10)⟩]
    [4, 9, 10, 11, 12])
  (.seq (.cond (.t 12)
    .skip
    (.exit 0))
  (.seq (.block 1
    (.seq (.region [⟨some 13, none, .idxS 2 (.t 9) (.t 11)⟩,
      ⟨some 14, none, .load true 2 (.t 13)⟩,
      ⟨some 6, none, .alloc [(.int .i64 0), (.int .i64 0)]⟩,
      ⟨none, none, .store 2 (.t 6) (.t 14)⟩]
      [4, 6, 9, 10, 11])
    (.seq (.region [⟨some 16, none, .mov (.t 4)⟩,
      ⟨some 17, none, .fieldAddr 1 (.t 6)⟩,
      ⟨some 18, none, .load false 1 (.t 17)⟩,
      ⟨some 19, none, .call F.fixq_Add [.t 16, .t 18]⟩,
      ⟨some 15, none, .mov (.t 19)⟩,
      ⟨some 20, none, .ext 0 (.t 15)⟩,
      ⟨some 21, none, .ext 1 (.t 15)⟩,
      ⟨some 7, none, .mov (.t 20)⟩,
      ⟨some 8, none, .mov (.t 21)⟩]
      [7, 8, 9, 10, 11])
    (.seq (.seq (.region [⟨some 22, none, .mov (.t 8)⟩,
      ⟨some 23, none, .bin .neq (.t 22) (.c (.int .i64 0))⟩]
      [7, 8, 9, 10, 11, 23])
    (.cond (.t 23)
      (.seq (.region [⟨some 24, none, .mov (.t 8)⟩,
        ⟨some 2, none, .mov (.c (.int .i64 0))⟩,
        ⟨some 3, none, .mov (.t 24)⟩]
        [2, 3])
      .ret)
      .skip))
    (.region [⟨some 25, none, .mov (.t 7)⟩,
      ⟨some 4, none, .mov (.t 25)⟩]
      [4, 9, 10, 11])))) [4, 9, 10, 11])
  (.region [⟨some 26, none, .bin .add (.t 11) (.c (.int .i64 1))⟩,
    ⟨some 11, none, .mov (.t 26)⟩]
    [4, 9, 10, 11]))))
def RC.order_Total : RFn := ⟨1, [.slot 2, .slot 3],
  (.seq (.region [⟨some 2, none, .mov (.c (.int .i64 0))⟩,
    ⟨some 3, none, .mov (.c (.int .i64 0))⟩]
    [0])
  (.seq (.region [⟨some 4, none, .mov (.c (.int .i64 0))⟩]
    [0, 4])
  (.seq (.seq (.region [⟨some 9, none, .mov (.t 0)⟩,
    ⟨some 10, none, .len (.t 9)⟩,
    ⟨some 11, none, .mov (.c (.int .i64 0))⟩]
    [4, 9, 10, 11])
  (.block 0
    (.loop [4, 9, 10, 11] RB.order_Total_1) [4]))
  (.seq (.region [⟨some 27, none, .mov (.t 4)⟩,
    ⟨some 2, none, .mov (.t 27)⟩,
    ⟨some 3, none, .mov (.c (.int .i64 0))⟩]
    [2, 3])
  .ret))))⟩

def RC.slices_Contains_int_int : RFn := ⟨2, [.slot 4],
  (.seq (.region [⟨some 4, none, .mov (.c (.bool false))⟩]
    [0, 1])
  (.seq (.region [⟨some 5, none, .mov (.t 0)⟩,
    ⟨some 6, none, .mov (.t 1)⟩,
    ⟨some 7, none, .call F.slices_Index_int_int [.t 5, .t 6]⟩,
    ⟨some 8, none, .bin .geq (.t 7) (.c (.int .i64 0))⟩,
    ⟨some 4, none, .mov (.t 8)⟩]
    [4])
  .ret))⟩

def RC.local_ahead : RFn := ⟨2, [.slot 4],
  (.seq (.region [⟨some 2, none, .box (.t 0)⟩,
    ⟨some 3, none, .box (.t 1)⟩,
    ⟨some 4, none, .mov (.c (.bool false))⟩]
    [2, 3])
  (.seq (.region [⟨some 8, none, .fieldAddr 2 (.t 2)⟩,
    ⟨some 9, none, .load false 1 (.t 8)⟩,
    ⟨some 10, none, .bin .add (.t 9) (.c (.int .i64 1))⟩,
    ⟨some 11, none, .conv .u64 (.t 10)⟩,
    ⟨some 12, none, .fieldAddr 0 (.t 2)⟩,
    ⟨some 13, none, .fieldAddr 1 (.t 12)⟩,
    ⟨some 14, none, .load false 1 (.t 13)⟩,
    ⟨some 15, none, .conv .u64 (.t 14)⟩,
    ⟨some 16, none, .fieldAddr 2 (.t 3)⟩,
    ⟨some 17, none, .load false 1 (.t 16)⟩,
    ⟨some 18, none, .bin .add (.t 17) (.c (.int .i64 1))⟩,
    ⟨some 19, none, .conv .u64 (.t 18)⟩,
    ⟨some 20, none, .fieldAddr 0 (.t 3)⟩,
    ⟨some 21, none, .fieldAddr 1 (.t 20)⟩,
    ⟨some 22, none, .load false 1 (.t 21)⟩,
    ⟨some 23, none, .conv .u64 (.t 22)⟩,
    ⟨some 24, none, .call F.fixq_Compare [.t 11, .t 15, .t 19, .t 23]⟩,
    ⟨some 7, none, .mov (.t 24)⟩,
    ⟨some 25, none, .ext 0 (.t 7)⟩,
    ⟨some 26, none, .ext 1 (.t 7)⟩,
    ⟨some 5, none, .mov (.t 25)⟩,
    ⟨some 6, none, .mov (.t 26)⟩]
    [5])
  (.seq (.region [⟨some 27, none, .mov (.t 5)⟩,
    ⟨some 28, none, .bin .lss (.t 27) (.c (.int .i64 0))⟩,
    ⟨some 4, none, .mov (.t 28)⟩]
    [4])
  .ret)))⟩

def RC.local_Local_find : RFn := ⟨2, [.slot 4],
  (.seq (.region [⟨some 3, none, .box (.t 1)⟩,
    ⟨some 4, none, .mov (.c (.int .i64 0))⟩]
    [0, 3])
  (.seq (.seq (.region [⟨some 5, none, .mov (.t 0)⟩,
    ⟨some 6, none, .eq false .ptr (.t 5) (.c (.pointer none))⟩]
    [0, 3, 6])
  (.cond (.t 6)
    (.seq (.region [⟨some 4, none, .mov (.c (.int .i64 (-1)))⟩]
      [4])
    .ret)
    .skip))
  (.seq (.region [⟨some 7, none, .mov (.t 0)⟩,
    ⟨some 8, none, .nilchk (.t 7)⟩,
    ⟨some 9, none, .fieldAddr 0 (.t 8)⟩,
    ⟨some 10, none, .load false 1 (.t 9)⟩,
    ⟨some 11, none, .mkfn (.func F.local_Local_find_1) [] [.t 3]⟩,
    ⟨some 12, none, .call F.slices_IndexFunc_local_entry_local_entry [.t 10, .t 11]⟩,
    ⟨some 4, none, .mov (.t 12)⟩]
    [4])
  .ret)))⟩

def RB.order_Check_1 : RCode :=
  (.seq (.region [⟨some 23, none, .bin .lss (.t 22) (.t 21)⟩]
    [0, 5, 20, 21, 22, 23])
  (.seq (.cond (.t 23)
    .skip
    (.exit 0))
  (.seq (.block 1
    (.seq (.region [⟨some 24, none, .idxS 2 (.t 20) (.t 22)⟩,
      ⟨some 25, none, .load true 2 (.t 24)⟩,
      ⟨some 7, none, .alloc [(.int .i64 0), (.int .i64 0)]⟩,
      ⟨none, none, .store 2 (.t 7) (.t 25)⟩]
      [0, 5, 7, 20, 21, 22])
    (.seq (.seq (.region [⟨some 27, none, .fieldAddr 0 (.t 7)⟩,
      ⟨some 28, none, .load false 1 (.t 27)⟩,
      ⟨some 29, none, .call F.order_Kind [.t 28]⟩,
      ⟨some 26, none, .mov (.t 29)⟩,
      ⟨some 30, none, .ext 0 (.t 26)⟩,
      ⟨some 31, none, .ext 1 (.t 26)⟩,
      ⟨some 32, none, .ext 2 (.t 26)⟩,
      ⟨some 8, none, .mov (.t 30)⟩,
      ⟨some 9, none, .mov (.t 31)⟩,
      ⟨some 10, none, .mov (.t 32)⟩]
      [0, 5, 7, 10, 20, 21, 22])
    (.seq (.region [⟨some 33, none, .mov (.t 10)⟩,
      ⟨some 34, none, .un .not (.t 33)⟩]
      [0, 5, 7, 20, 21, 22, 34])
    (.cond (.t 34)
      (.seq (.region [⟨some 4, none, .mov (.c (.int .i64 20))⟩]
        [4])
      .ret)
      .skip)))
    (.seq (.seq (.region [⟨some 35, none, .fieldAddr 1 (.t 7)⟩,
      ⟨some 36, none, .load false 1 (.t 35)⟩,
      ⟨some 37, none, .bin .lss (.t 36) (.c (.int .i64 1))⟩,
      ⟨some 38, none, .mov (.t 37)⟩,
      ⟨some 39, some (38, false), .fieldAddr 1 (.t 7)⟩,
      ⟨some 40, some (38, false), .load false 1 (.t 39)⟩,
      ⟨some 41, some (38, false), .mov (.t 0)⟩,
      ⟨some 42, some (38, false), .bin .gtr (.t 40) (.t 41)⟩,
      ⟨some 43, none, .pick (.t 38) (.c (.bool true)) (.t 42)⟩]
      [0, 5, 7, 20, 21, 22, 43])
    (.cond (.t 43)
      (.seq (.region [⟨some 4, none, .mov (.c (.int .i64 21))⟩]
        [4])
      .ret)
      .skip))
    (.seq (.seq (.region [⟨some 45, none, .mov (.t 5)⟩,
      ⟨some 46, none, .fieldAddr 0 (.t 7)⟩,
      ⟨some 47, none, .load false 1 (.t 46)⟩,
      ⟨some 48, none, .look .int (.agg #[]) true (.t 45) (.t 47)⟩,
      ⟨some 44, none, .mov (.t 48)⟩,
      ⟨some 49, none, .ext 0 (.t 44)⟩,
      ⟨some 50, none, .ext 1 (.t 44)⟩,
      ⟨some 11, none, .alloc []⟩,
      ⟨none, none, .store 0 (.t 11) (.t 49)⟩,
      ⟨some 12, none, .mov (.t 50)⟩]
      [0, 5, 7, 12, 20, 21, 22])
    (.seq (.region [⟨some 51, none, .mov (.t 12)⟩]
      [0, 5, 7, 20, 21, 22, 51])
    (.cond (.t 51)
      (.seq (.region [⟨some 4, none, .mov (.c (.int .i64 11))⟩]
        [4])
      .ret)
      .skip)))
    (.region [⟨some 52, none, .mov (.t 5)⟩,
      ⟨some 53, none, .fieldAddr 0 (.t 7)⟩,
      ⟨some 54, none, .load false 1 (.t 53)⟩,
      ⟨some 55, none, .build [] []⟩,
      ⟨none, none, .upd .int (.t 52) (.t 54) (.t 55)⟩]
      [0, 5, 20, 21, 22]))))) [0, 5, 20, 21, 22])
  (.region [⟨some 56, none, .bin .add (.t 22) (.c (.int .i64 1))⟩,
    ⟨some 22, none, .mov (.t 56)⟩]
    [0, 5, 20, 21, 22]))))
def RC.order_Check : RFn := ⟨2, [.slot 4],
  (.seq (.region [⟨some 4, none, .mov (.c (.int .i64 0))⟩]
    [0, 1])
  (.seq (.seq (.region [⟨some 13, none, .mov (.t 0)⟩,
    ⟨some 14, none, .bin .lss (.t 13) (.c (.int .i64 2))⟩,
    ⟨some 15, none, .mov (.t 14)⟩,
    ⟨some 16, some (15, false), .mov (.t 0)⟩,
    ⟨some 17, some (15, false), .bin .gtr (.t 16) (.c (.int .i64 64))⟩,
    ⟨some 18, none, .pick (.t 15) (.c (.bool true)) (.t 17)⟩]
    [0, 1, 18])
  (.cond (.t 18)
    (.seq (.region [⟨some 4, none, .mov (.c (.int .i64 1))⟩]
      [4])
    .ret)
    .skip))
  (.seq (.region [⟨some 19, none, .mkmap⟩,
    ⟨some 5, none, .mov (.t 19)⟩]
    [0, 1, 5])
  (.seq (.seq (.region [⟨some 20, none, .mov (.t 1)⟩,
    ⟨some 21, none, .len (.t 20)⟩,
    ⟨some 22, none, .mov (.c (.int .i64 0))⟩]
    [0, 5, 20, 21, 22])
  (.block 0
    (.loop [0, 5, 20, 21, 22] RB.order_Check_1) []))
  (.seq (.region [⟨some 4, none, .mov (.c (.int .i64 0))⟩]
    [4])
  .ret)))))⟩

def RC.slices_SortFunc_local_entry_local_entry : RFn := ⟨2, [],
  (.seq (.region [⟨some 5, none, .mov (.t 0)⟩,
    ⟨some 6, none, .len (.t 5)⟩,
    ⟨some 4, none, .mov (.t 6)⟩]
    [0, 1, 4])
  (.region [⟨some 7, none, .mov (.t 0)⟩,
    ⟨some 8, none, .mov (.t 4)⟩,
    ⟨some 9, none, .mov (.t 4)⟩,
    ⟨some 10, none, .conv .u64 (.t 9)⟩,
    ⟨some 11, none, .call F.math_bits_Len [.t 10]⟩,
    ⟨some 12, none, .mov (.t 1)⟩,
    ⟨some 13, none, .call F.slices_pdqsortCmpFunc_local_entry [.t 7, .c (.int .i64 0), .t 8, .t 11, .t 12]⟩]
    []))⟩

def RC.local_New_1 : RFn := ⟨2, [.slot 4],
  (.seq (.region [⟨some 2, none, .box (.t 0)⟩,
    ⟨some 3, none, .box (.t 1)⟩,
    ⟨some 4, none, .mov (.c (.int .i64 0))⟩]
    [2, 3])
  (.seq (.region [⟨some 5, none, .fieldAddr 0 (.t 2)⟩,
    ⟨some 6, none, .fieldAddr 0 (.t 5)⟩,
    ⟨some 7, none, .load false 1 (.t 6)⟩,
    ⟨some 8, none, .fieldAddr 0 (.t 3)⟩,
    ⟨some 9, none, .fieldAddr 0 (.t 8)⟩,
    ⟨some 10, none, .load false 1 (.t 9)⟩,
    ⟨some 11, none, .call F.cmp_Compare_int [.t 7, .t 10]⟩,
    ⟨some 4, none, .mov (.t 11)⟩]
    [4])
  .ret))⟩

def RC.cmp_Compare_int : RFn := ⟨2, [.slot 4],
  (.seq (.region [⟨some 4, none, .mov (.c (.int .i64 0))⟩]
    [0, 1])
  (.seq (.region [⟨some 7, none, .mov (.t 0)⟩,
    ⟨some 8, none, .call F.cmp_isNaN_int [.t 7]⟩,
    ⟨some 5, none, .mov (.t 8)⟩]
    [0, 1, 5])
  (.seq (.region [⟨some 9, none, .mov (.t 1)⟩,
    ⟨some 10, none, .call F.cmp_isNaN_int [.t 9]⟩,
    ⟨some 6, none, .mov (.t 10)⟩]
    [0, 1, 5, 6])
  (.seq (.seq (.region [⟨some 11, none, .mov (.t 5)⟩]
    [0, 1, 6, 11])
  (.cond (.t 11)
    (.seq (.seq (.region [⟨some 12, none, .mov (.t 6)⟩]
      [12])
    (.cond (.t 12)
      (.seq (.region [⟨some 4, none, .mov (.c (.int .i64 0))⟩]
        [4])
      .ret)
      .skip))
    (.seq (.region [⟨some 4, none, .mov (.c (.int .i64 (-1)))⟩]
      [4])
    .ret))
    .skip))
  (.seq (.seq (.region [⟨some 13, none, .mov (.t 6)⟩]
    [0, 1, 13])
  (.cond (.t 13)
    (.seq (.region [⟨some 4, none, .mov (.c (.int .i64 1))⟩]
      [4])
    .ret)
    .skip))
  (.seq (.seq (.region [⟨some 14, none, .mov (.t 0)⟩,
    ⟨some 15, none, .mov (.t 1)⟩,
    ⟨some 16, none, .bin .lss (.t 14) (.t 15)⟩]
    [0, 1, 16])
  (.cond (.t 16)
    (.seq (.region [⟨some 4, none, .mov (.c (.int .i64 (-1)))⟩]
      [4])
    .ret)
    .skip))
  (.seq (.seq (.region [⟨some 17, none, .mov (.t 0)⟩,
    ⟨some 18, none, .mov (.t 1)⟩,
    ⟨some 19, none, .bin .gtr (.t 17) (.t 18)⟩]
    [19])
  (.cond (.t 19)
    (.seq (.region [⟨some 4, none, .mov (.c (.int .i64 1))⟩]
      [4])
    .ret)
    .skip))
  (.seq (.region [⟨some 4, none, .mov (.c (.int .i64 0))⟩]
    [4])
  .ret))))))))⟩

def RB.ref15_Next_1 : RCode :=
  (.seq (.seq (.region [⟨some 7, none, .mov (.t 6)⟩,
    ⟨some 8, none, .fieldAddr 0 (.t 2)⟩,
    ⟨some 9, none, .load false 1 (.t 8)⟩,
    ⟨some 10, none, .len (.t 9)⟩,
    ⟨some 11, none, .bin .lss (.t 7) (.t 10)⟩]
    [1, 2, 5, 6, 11])
  (.cond (.t 11)
    .skip
    (.exit 0)))
  (.seq (.block 1
    (.seq (.seq (.region [⟨some 14, none, .mov (.t 1)⟩,
      ⟨some 15, none, .fieldAddr 0 (.t 2)⟩,
      ⟨some 16, none, .load false 1 (.t 15)⟩,
      ⟨some 17, none, .mov (.t 6)⟩,
      ⟨some 18, none, .idxS 2 (.t 16) (.t 17)⟩,
      ⟨some 19, none, .fieldAddr 0 (.t 18)⟩,
      ⟨some 20, none, .load false 1 (.t 19)⟩,
      ⟨some 21, none, .call F.ref15_Has [.t 14, .t 20]⟩]
      [1, 2, 5, 6, 21])
    (.cond (.t 21)
      (.exit 1)
      .skip))
    (.seq (.drawn [⟨some 22, none, .mov (.t 5)⟩,
      ⟨some 23, none, .bin .lss (.t 22) (.c (.int .i64 0))⟩,
      ⟨some 24, none, .mov (.t 23)⟩,
      ⟨some 25, some (24, false), .fieldAddr 1 (.t 2)⟩,
      ⟨some 26, some (24, false), .load false 1 (.t 25)⟩,
      ⟨some 27, some (24, false), .mov (.t 6)⟩,
      ⟨some 28, some (24, false), .idxS 1 (.t 26) (.t 27)⟩,
      ⟨some 29, some (24, false), .load false 1 (.t 28)⟩,
      ⟨some 30, some (24, false), .bin .add (.t 29) (.c (.int .i64 1))⟩,
      ⟨some 31, some (24, false), .fieldAddr 0 (.t 2)⟩,
      ⟨some 32, some (24, false), .load false 1 (.t 31)⟩,
      ⟨some 33, some (24, false), .mov (.t 5)⟩,
      ⟨some 34, some (24, false), .idxS 2 (.t 32) (.t 33)⟩,
      ⟨some 35, some (24, false), .fieldAddr 1 (.t 34)⟩,
      ⟨some 36, some (24, false), .load false 1 (.t 35)⟩,
      ⟨some 37, some (24, false), .bin .mul (.t 30) (.t 36)⟩,
      ⟨some 38, some (24, false), .fieldAddr 1 (.t 2)⟩,
      ⟨some 39, some (24, false), .load false 1 (.t 38)⟩,
      ⟨some 40, some (24, false), .mov (.t 5)⟩,
      ⟨some 41, some (24, false), .idxS 1 (.t 39) (.t 40)⟩,
      ⟨some 42, some (24, false), .load false 1 (.t 41)⟩,
      ⟨some 43, some (24, false), .bin .add (.t 42) (.c (.int .i64 1))⟩,
      ⟨some 44, some (24, false), .fieldAddr 0 (.t 2)⟩,
      ⟨some 45, some (24, false), .load false 1 (.t 44)⟩,
      ⟨some 46, some (24, false), .mov (.t 6)⟩,
      ⟨some 47, some (24, false), .idxS 2 (.t 45) (.t 46)⟩,
      ⟨some 48, some (24, false), .fieldAddr 1 (.t 47)⟩,
      ⟨some 49, some (24, false), .load false 1 (.t 48)⟩,
      ⟨some 50, some (24, false), .bin .mul (.t 43) (.t 49)⟩,
      ⟨some 51, some (24, false), .bin .lss (.t 37) (.t 50)⟩,
      ⟨some 52, none, .pick (.t 24) (.c (.bool true)) (.t 51)⟩]
      [[], [0], [1], [2], [3, 2], [2], [4, 5, 2], [6, 2], [7, 2], [2], [9, 2], [2], [10, 11, 2], [12, 2], [13, 2], [8, 14, 2], [2], [16, 2], [2], [17, 18, 2], [19, 2], [20, 2], [2], [22, 2], [2], [23, 24, 2], [25, 2], [26, 2], [21, 27, 2], [15, 28, 2], [2, 29]]
      [(0, []), (1, []), (2, []), (3, []), (5, []), (9, []), (11, []), (16, []), (18, []), (22, []), (24, []), (4, []), (6, []), (7, []), (8, []), (10, []), (12, []), (13, []), (14, []), (15, []), (17, []), (19, []), (20, []), (21, []), (23, []), (25, []), (26, []), (27, []), (28, []), (29, []), (30, [])]
      [[], [0], [0, 1], [0, 1, 2], [0, 1, 2, 3], [0, 1, 2], [0, 1, 2, 3, 4, 5], [0, 1, 2, 3, 4, 5, 6], [0, 1, 2, 3, 4, 5, 6, 7], [0, 1, 2], [0, 1, 2, 9], [0, 1, 2], [0, 1, 2, 9, 10, 11], [0, 1, 2, 9, 10, 11, 12], [0, 1, 2, 9, 10, 11, 12, 13], [0, 1, 2, 3, 4, 5, 6, 7, 8, 9, 10, 11, 12, 13, 14], [0, 1, 2], [0, 1, 2, 16], [0, 1, 2], [0, 1, 2, 16, 17, 18], [0, 1, 2, 16, 17, 18, 19], [0, 1, 2, 16, 17, 18, 19, 20], [0, 1, 2], [0, 1, 2, 22], [0, 1, 2], [0, 1, 2, 22, 23, 24], [0, 1, 2, 22, 23, 24, 25], [0, 1, 2, 22, 23, 24, 25, 26], [0, 1, 2, 16, 17, 18, 19, 20, 21, 22, 23, 24, 25, 26, 27], [0, 1, 2, 3, 4, 5, 6, 7, 8, 9, 10, 11, 12, 13, 14, 15, 16, 17, 18, 19, 20, 21, 22, 23, 24, 25, 26, 27, 28], [0, 1, 2, 3, 4, 5, 6, 7, 8, 9, 10, 11, 12, 13, 14, 15, 16, 17, 18, 19, 20, 21, 22, 23, 24, 25, 26, 27, 28, 29]]
      [1, 2, 5, 6, 52])
    (.cond (.t 52)
      (.region [⟨some 53, none, .mov (.t 6)⟩,
        ⟨some 5, none, .mov (.t 53)⟩]
        [1, 2, 5, 6])
      .skip))) [1, 2, 5, 6])
  (.region [⟨some 12, none, .mov (.t 6)⟩,
    ⟨some 13, none, .bin .add (.t 12) (.c (.int .i64 1))⟩,
    ⟨some 6, none, .mov (.t 13)⟩]
    [1, 2, 5, 6])))
def RC.ref15_Next : RFn := ⟨2, [.slot 4],
  (.seq (.region [⟨some 2, none, .box (.t 0)⟩,
    ⟨some 4, none, .mov (.c (.int .i64 0))⟩]
    [1, 2])
  (.seq (.region [⟨some 5, none, .mov (.c (.int .i64 (-1)))⟩]
    [1, 2, 5])
  (.seq (.seq (.region [⟨some 6, none, .mov (.c (.int .i64 0))⟩]
    [1, 2, 5, 6])
  (.block 0
    (.loop [1, 2, 5, 6] RB.ref15_Next_1) [5]))
  (.seq (.region [⟨some 54, none, .mov (.t 5)⟩,
    ⟨some 4, none, .mov (.t 54)⟩]
    [4])
  .ret))))⟩

def RC.slices_Delete_local_entry_local_entry : RFn := ⟨3, [.slot 6],
  (.seq (.region [⟨some 6, none, .mov (.c (.slice none 0 0))⟩]
    [0, 1, 2])
  (.seq (.region [⟨some 8, none, .mov (.t 0)⟩,
    ⟨some 9, none, .mov (.t 1)⟩,
    ⟨some 10, none, .mov (.t 2)⟩,
    ⟨some 11, none, .mov (.t 0)⟩,
    ⟨some 12, none, .len (.t 11)⟩,
    ⟨some 13, none, .sub 3 (.t 8) (some (.t 9)) (some (.t 10)) (some (.t 12))⟩]
    [0, 1, 2])
  (.seq (.seq (.region [⟨some 14, none, .mov (.t 1)⟩,
    ⟨some 15, none, .mov (.t 2)⟩,
    ⟨some 16, none, .bin .eql (.t 14) (.t 15)⟩]
    [0, 1, 2, 16])
  (.cond (.t 16)
    (.seq (.region [⟨some 17, none, .mov (.t 0)⟩,
      ⟨some 6, none, .mov (.t 17)⟩]
      [6])
    .ret)
    .skip))
  (.seq (.region [⟨some 18, none, .mov (.t 0)⟩,
    ⟨some 19, none, .len (.t 18)⟩,
    ⟨some 7, none, .mov (.t 19)⟩]
    [0, 1, 2, 7])
  (.seq (.drawn [⟨some 20, none, .mov (.t 0)⟩,
    ⟨some 21, none, .mov (.t 1)⟩,
    ⟨some 22, none, .sub 3 (.t 20) none (some (.t 21)) none⟩,
    ⟨some 23, none, .mov (.t 0)⟩,
    ⟨some 24, none, .mov (.t 2)⟩,
    ⟨some 25, none, .sub 3 (.t 23) (some (.t 24)) none none⟩,
    ⟨some 26, none, .app 3 24 (.t 22) (.t 25)⟩,
    ⟨some 0, none, .mov (.t 26)⟩]
    [[], [], [0, 1], [], [], [3, 4], [2, 5], [6, 6, 0, 1, 2, 3, 4, 5, 6]]
    [(0, []), (1, []), (3, []), (4, []), (2, []), (5, []), (6, []), (7, [])]
    [[], [], [0, 1], [], [], [3, 4], [0, 1, 2, 3, 4, 5], [0, 1, 2, 3, 4, 5, 6]]
    [0, 7])
  (.seq (.region [⟨some 27, none, .mov (.t 0)⟩,
    ⟨some 28, none, .mov (.t 0)⟩,
    ⟨some 29, none, .len (.t 28)⟩,
    ⟨some 30, none, .mov (.t 7)⟩,
    ⟨some 31, none, .sub 3 (.t 27) (some (.t 29)) (some (.t 30)) none⟩,
    ⟨none, none, .clr 3 [(.int .i64 0), (.int .i64 0), (.int .i64 0)] (.t 31)⟩]
    [0])
  (.seq (.region [⟨some 32, none, .mov (.t 0)⟩,
    ⟨some 6, none, .mov (.t 32)⟩]
    [6])
  .ret)))))))⟩

def RC.ref02_Add : RFn := ⟨2, [.slot 4, .slot 5],
  (.seq (.region [⟨some 4, none, .mov (.c (.int .i64 0))⟩,
    ⟨some 5, none, .mov (.c (.bool false))⟩]
    [0, 1])
  (.seq (.seq (.region [⟨some 6, none, .mov (.t 1)⟩,
    ⟨some 7, none, .bin .gtr (.t 6) (.c (.int .i64 0))⟩,
    ⟨some 8, none, .mov (.t 7)⟩,
    ⟨some 9, some (8, true), .mov (.t 0)⟩,
    ⟨some 10, some (8, true), .mov (.t 1)⟩,
    ⟨some 11, some (8, true), .bin .sub (.c (.int .i64 9223372036854775807)) (.t 10)⟩,
    ⟨some 12, some (8, true), .bin .gtr (.t 9) (.t 11)⟩,
    ⟨some 13, none, .pick (.t 8) (.t 12) (.c (.bool false))⟩,
    ⟨some 14, none, .mov (.t 13)⟩,
    ⟨some 15, some (14, false), .mov (.t 1)⟩,
    ⟨some 16, some (14, false), .bin .lss (.t 15) (.c (.int .i64 0))⟩,
    ⟨some 17, some (14, false), .mov (.t 16)⟩,
    ⟨some 18, some (17, true), .mov (.t 0)⟩,
    ⟨some 19, some (17, true), .mov (.t 1)⟩,
    ⟨some 20, some (17, true), .bin .sub (.c (.int .i64 (-9223372036854775808))) (.t 19)⟩,
    ⟨some 21, some (17, true), .bin .lss (.t 18) (.t 20)⟩,
    ⟨some 22, some (14, false), .pick (.t 17) (.t 21) (.c (.bool false))⟩,
    ⟨some 23, none, .pick (.t 14) (.c (.bool true)) (.t 22)⟩]
    [0, 1, 23])
  (.cond (.t 23)
    (.seq (.region [⟨some 4, none, .mov (.c (.int .i64 0))⟩,
      ⟨some 5, none, .mov (.c (.bool false))⟩]
      [4, 5])
    .ret)
    .skip))
  (.seq (.region [⟨some 24, none, .mov (.t 0)⟩,
    ⟨some 25, none, .mov (.t 1)⟩,
    ⟨some 26, none, .bin .add (.t 24) (.t 25)⟩,
    ⟨some 4, none, .mov (.t 26)⟩,
    ⟨some 5, none, .mov (.c (.bool true))⟩]
    [4, 5])
  .ret)))⟩

def RC.ref08_Is : RFn := ⟨1, [.slot 2],
  (.seq (.region [⟨some 2, none, .mov (.c (.bool false))⟩]
    [0])
  (.seq (.region [⟨some 3, none, .mov (.t 0)⟩,
    ⟨some 4, none, .bin .geq (.t 3) (.c (.int .i64 1))⟩,
    ⟨some 5, none, .mov (.t 4)⟩,
    ⟨some 6, some (5, true), .mov (.t 0)⟩,
    ⟨some 7, some (5, true), .bin .leq (.t 6) (.c (.int .i64 200))⟩,
    ⟨some 8, none, .pick (.t 5) (.t 7) (.c (.bool false))⟩,
    ⟨some 9, none, .mov (.t 8)⟩,
    ⟨some 10, some (9, false), .mov (.t 0)⟩,
    ⟨some 11, some (9, false), .bin .geq (.t 10) (.c (.int .i64 1001))⟩,
    ⟨some 12, some (9, false), .mov (.t 11)⟩,
    ⟨some 13, some (12, true), .mov (.t 0)⟩,
    ⟨some 14, some (12, true), .bin .leq (.t 13) (.c (.int .i64 1040))⟩,
    ⟨some 15, some (9, false), .pick (.t 12) (.t 14) (.c (.bool false))⟩,
    ⟨some 16, none, .pick (.t 9) (.c (.bool true)) (.t 15)⟩,
    ⟨some 2, none, .mov (.t 16)⟩]
    [2])
  .ret))⟩

def RC.fixq_Add : RFn := ⟨2, [.slot 4, .slot 5],
  (.seq (.region [⟨some 4, none, .mov (.c (.int .i64 0))⟩,
    ⟨some 5, none, .mov (.c (.int .i64 0))⟩]
    [0, 1])
  (.seq (.region [⟨some 7, none, .mov (.t 0)⟩,
    ⟨some 8, none, .mov (.t 1)⟩,
    ⟨some 9, none, .bin .add (.t 7) (.t 8)⟩,
    ⟨some 6, none, .mov (.t 9)⟩]
    [0, 1, 6])
  (.seq (.seq (.region [⟨some 10, none, .mov (.t 0)⟩,
    ⟨some 11, none, .bin .geq (.t 10) (.c (.int .i64 0))⟩,
    ⟨some 12, none, .mov (.t 1)⟩,
    ⟨some 13, none, .bin .geq (.t 12) (.c (.int .i64 0))⟩,
    ⟨some 14, none, .eq false .bool (.t 11) (.t 13)⟩,
    ⟨some 15, none, .mov (.t 14)⟩,
    ⟨some 16, some (15, true), .mov (.t 6)⟩,
    ⟨some 17, some (15, true), .bin .geq (.t 16) (.c (.int .i64 0))⟩,
    ⟨some 18, some (15, true), .mov (.t 0)⟩,
    ⟨some 19, some (15, true), .bin .geq (.t 18) (.c (.int .i64 0))⟩,
    ⟨some 20, some (15, true), .eq true .bool (.t 17) (.t 19)⟩,
    ⟨some 21, none, .pick (.t 15) (.t 20) (.c (.bool false))⟩]
    [6, 21])
  (.cond (.t 21)
    (.seq (.region [⟨some 4, none, .mov (.c (.int .i64 0))⟩,
      ⟨some 5, none, .mov (.c (.int .i64 5))⟩]
      [4, 5])
    .ret)
    .skip))
  (.seq (.region [⟨some 22, none, .mov (.t 6)⟩,
    ⟨some 4, none, .mov (.t 22)⟩,
    ⟨some 5, none, .mov (.c (.int .i64 0))⟩]
    [4, 5])
  .ret))))⟩

def RB.slices_Index_int_int_1 : RCode :=
  (.seq (.region [⟨some 9, none, .bin .lss (.t 8) (.t 7)⟩]
    [0, 1, 7, 8, 9])
  (.seq (.cond (.t 9)
    .skip
    (.exit 0))
  (.seq (.block 1
    (.seq (.region [⟨some 10, none, .mov (.t 8)⟩,
      ⟨some 5, none, .mov (.t 10)⟩]
      [0, 1, 5, 7, 8])
    (.seq (.region [⟨some 11, none, .mov (.t 1)⟩,
      ⟨some 12, none, .mov (.t 0)⟩,
      ⟨some 13, none, .mov (.t 5)⟩,
      ⟨some 14, none, .idxS 1 (.t 12) (.t 13)⟩,
      ⟨some 15, none, .load false 1 (.t 14)⟩,
      ⟨some 16, none, .bin .eql (.t 11) (.t 15)⟩]
      [0, 1, 5, 7, 8, 16])
    (.cond (.t 16)
      (.seq (.region [⟨some 17, none, .mov (.t 5)⟩,
        ⟨some 4, none, .mov (.t 17)⟩]
        [4])
      .ret)
      .skip))) [0, 1, 7, 8])
  (.region [⟨some 18, none, .bin .add (.t 8) (.c (.int .i64 1))⟩,
    ⟨some 8, none, .mov (.t 18)⟩]
    [0, 1, 7, 8]))))
def RC.slices_Index_int_int : RFn := ⟨2, [.slot 4],
  (.seq (.region [⟨some 4, none, .mov (.c (.int .i64 0))⟩]
    [0, 1])
  (.seq (.seq (.region [⟨some 6, none, .mov (.t 0)⟩,
    ⟨some 7, none, .len (.t 6)⟩,
    ⟨some 8, none, .mov (.c (.int .i64 0))⟩]
    [0, 1, 7, 8])
  (.block 0
    (.loop [0, 1, 7, 8] RB.slices_Index_int_int_1) []))
  (.seq (.region [⟨some 4, none, .mov (.c (.int .i64 (-1)))⟩]
    [4])
  .ret)))⟩

def RC.fixq_Compare : RFn := ⟨4, [.slot 8, .slot 9],
  (.seq (.region [⟨some 8, none, .mov (.c (.int .i64 0))⟩,
    ⟨some 9, none, .mov (.c (.int .i64 0))⟩]
    [0, 1, 2, 3])
  (.seq (.seq (.region [⟨some 14, none, .mov (.t 1)⟩,
    ⟨some 15, none, .bin .eql (.t 14) (.c (u64 0#64))⟩,
    ⟨some 16, none, .mov (.t 15)⟩,
    ⟨some 17, some (16, false), .mov (.t 3)⟩,
    ⟨some 18, some (16, false), .bin .eql (.t 17) (.c (u64 0#64))⟩,
    ⟨some 19, none, .pick (.t 16) (.c (.bool true)) (.t 18)⟩]
    [0, 1, 2, 3, 19])
  (.cond (.t 19)
    (.seq (.region [⟨some 8, none, .mov (.c (.int .i64 0))⟩,
      ⟨some 9, none, .mov (.c (.int .i64 1))⟩]
      [8, 9])
    .ret)
    .skip))
  (.seq (.region [⟨some 21, none, .mov (.t 0)⟩,
    ⟨some 22, none, .mov (.t 3)⟩,
    ⟨some 23, none, .call F.math_bits_Mul64 [.t 21, .t 22]⟩,
    ⟨some 20, none, .mov (.t 23)⟩,
    ⟨some 24, none, .ext 0 (.t 20)⟩,
    ⟨some 25, none, .ext 1 (.t 20)⟩,
    ⟨some 10, none, .mov (.t 24)⟩,
    ⟨some 11, none, .mov (.t 25)⟩]
    [1, 2, 10, 11])
  (.seq (.region [⟨some 27, none, .mov (.t 2)⟩,
    ⟨some 28, none, .mov (.t 1)⟩,
    ⟨some 29, none, .call F.math_bits_Mul64 [.t 27, .t 28]⟩,
    ⟨some 26, none, .mov (.t 29)⟩,
    ⟨some 30, none, .ext 0 (.t 26)⟩,
    ⟨some 31, none, .ext 1 (.t 26)⟩,
    ⟨some 12, none, .mov (.t 30)⟩,
    ⟨some 13, none, .mov (.t 31)⟩]
    [10, 11, 12, 13])
  (.seq (.block 0
    (.seq (.region [⟨some 33, none, .mov (.t 10)⟩,
      ⟨some 34, none, .mov (.t 12)⟩,
      ⟨some 35, none, .bin .lss (.t 33) (.t 34)⟩,
      ⟨some 36, none, .mov (.t 35)⟩,
      ⟨some 37, some (36, false), .mov (.t 10)⟩,
      ⟨some 38, some (36, false), .mov (.t 12)⟩,
      ⟨some 39, some (36, false), .bin .eql (.t 37) (.t 38)⟩,
      ⟨some 40, some (36, false), .mov (.t 39)⟩,
      ⟨some 41, some (40, true), .mov (.t 11)⟩,
      ⟨some 42, some (40, true), .mov (.t 13)⟩,
      ⟨some 43, some (40, true), .bin .lss (.t 41) (.t 42)⟩,
      ⟨some 44, some (36, false), .pick (.t 40) (.t 43) (.c (.bool false))⟩,
      ⟨some 45, none, .pick (.t 36) (.c (.bool true)) (.t 44)⟩,
      ⟨some 32, none, .mov (.t 45)⟩]
      [10, 11, 12, 13, 32])
    (.cond (.t 32)
      (.seq (.region [⟨some 8, none, .mov (.c (.int .i64 (-1)))⟩,
        ⟨some 9, none, .mov (.c (.int .i64 0))⟩]
        [8, 9])
      .ret)
      (.seq (.region [⟨some 47, none, .mov (.t 10)⟩,
        ⟨some 48, none, .mov (.t 12)⟩,
        ⟨some 49, none, .bin .eql (.t 47) (.t 48)⟩,
        ⟨some 50, none, .mov (.t 49)⟩,
        ⟨some 51, some (50, true), .mov (.t 11)⟩,
        ⟨some 52, some (50, true), .mov (.t 13)⟩,
        ⟨some 53, some (50, true), .bin .eql (.t 51) (.t 52)⟩,
        ⟨some 54, none, .pick (.t 50) (.t 53) (.c (.bool false))⟩,
        ⟨some 46, none, .mov (.t 54)⟩]
        [46])
      (.cond (.t 46)
        (.seq (.region [⟨some 8, none, .mov (.c (.int .i64 0))⟩,
          ⟨some 9, none, .mov (.c (.int .i64 0))⟩]
          [8, 9])
        .ret)
        .skip)))) [])
  (.seq (.region [⟨some 8, none, .mov (.c (.int .i64 1))⟩,
    ⟨some 9, none, .mov (.c (.int .i64 0))⟩]
    [8, 9])
  .ret))))))⟩

def RB.slices_IndexFunc_local_entry_local_entry_1 : RCode :=
  (.seq (.region [⟨some 9, none, .bin .lss (.t 8) (.t 7)⟩]
    [0, 1, 7, 8, 9])
  (.seq (.cond (.t 9)
    .skip
    (.exit 0))
  (.seq (.block 1
    (.seq (.region [⟨some 10, none, .mov (.t 8)⟩,
      ⟨some 5, none, .mov (.t 10)⟩]
      [0, 1, 5, 7, 8])
    (.seq (.region [⟨some 11, none, .mov (.t 1)⟩,
      ⟨some 12, none, .mov (.t 0)⟩,
      ⟨some 13, none, .mov (.t 5)⟩,
      ⟨some 14, none, .idxS 3 (.t 12) (.t 13)⟩,
      ⟨some 15, none, .load true 3 (.t 14)⟩,
      ⟨some 16, none, .callv (.t 11) [.t 15]⟩]
      [0, 1, 5, 7, 8, 16])
    (.cond (.t 16)
      (.seq (.region [⟨some 17, none, .mov (.t 5)⟩,
        ⟨some 4, none, .mov (.t 17)⟩]
        [4])
      .ret)
      .skip))) [0, 1, 7, 8])
  (.region [⟨some 18, none, .bin .add (.t 8) (.c (.int .i64 1))⟩,
    ⟨some 8, none, .mov (.t 18)⟩]
    [0, 1, 7, 8]))))
def RC.slices_IndexFunc_local_entry_local_entry : RFn := ⟨2, [.slot 4],
  (.seq (.region [⟨some 4, none, .mov (.c (.int .i64 0))⟩]
    [0, 1])
  (.seq (.seq (.region [⟨some 6, none, .mov (.t 0)⟩,
    ⟨some 7, none, .len (.t 6)⟩,
    ⟨some 8, none, .mov (.c (.int .i64 0))⟩]
    [0, 1, 7, 8])
  (.block 0
    (.loop [0, 1, 7, 8] RB.slices_IndexFunc_local_entry_local_entry_1) []))
  (.seq (.region [⟨some 4, none, .mov (.c (.int .i64 (-1)))⟩]
    [4])
  .ret)))⟩

def RC.local_Local_find_1 : RFn := ⟨2, [.slot 3],
  (.seq (.region [⟨some 2, none, .box (.t 0)⟩,
    ⟨some 3, none, .mov (.c (.bool false))⟩]
    [1, 2])
  (.seq (.region [⟨some 4, none, .fieldAddr 0 (.t 2)⟩,
    ⟨some 5, none, .fieldAddr 0 (.t 4)⟩,
    ⟨some 6, none, .load false 1 (.t 5)⟩,
    ⟨some 7, none, .load false 1 (.t 1)⟩,
    ⟨some 8, none, .bin .eql (.t 6) (.t 7)⟩,
    ⟨some 3, none, .mov (.t 8)⟩]
    [3])
  .ret))⟩

def RC.order_Kind : RFn := ⟨1, [.slot 2, .slot 3, .slot 4],
  (.seq (.region [⟨some 2, none, .mov (.c (.int .i64 0))⟩,
    ⟨some 3, none, .mov (.c (.bool false))⟩,
    ⟨some 4, none, .mov (.c (.bool false))⟩]
    [0])
  (.seq (.block 0
    (.seq (.region [⟨some 6, none, .mov (.t 0)⟩,
      ⟨some 7, none, .bin .geq (.t 6) (.c (.int .i64 1))⟩,
      ⟨some 8, none, .mov (.t 7)⟩,
      ⟨some 9, some (8, true), .mov (.t 0)⟩,
      ⟨some 10, some (8, true), .bin .leq (.t 9) (.c (.int .i64 200))⟩,
      ⟨some 11, none, .pick (.t 8) (.t 10) (.c (.bool false))⟩,
      ⟨some 5, none, .mov (.t 11)⟩]
      [0, 5])
    (.cond (.t 5)
      (.seq (.region [⟨some 12, none, .mov (.t 0)⟩,
        ⟨some 2, none, .mov (.t 12)⟩,
        ⟨some 3, none, .mov (.c (.bool false))⟩,
        ⟨some 4, none, .mov (.c (.bool true))⟩]
        [2, 3, 4])
      .ret)
      (.seq (.region [⟨some 14, none, .mov (.t 0)⟩,
        ⟨some 15, none, .bin .gtr (.t 14) (.c (.int .i64 1000))⟩,
        ⟨some 16, none, .mov (.t 15)⟩,
        ⟨some 17, some (16, true), .mov (.t 0)⟩,
        ⟨some 18, some (16, true), .bin .leq (.t 17) (.c (.int .i64 1040))⟩,
        ⟨some 19, none, .pick (.t 16) (.t 18) (.c (.bool false))⟩,
        ⟨some 13, none, .mov (.t 19)⟩]
        [0, 13])
      (.cond (.t 13)
        (.seq (.region [⟨some 20, none, .mov (.t 0)⟩,
          ⟨some 21, none, .bin .sub (.t 20) (.c (.int .i64 1000))⟩,
          ⟨some 2, none, .mov (.t 21)⟩,
          ⟨some 3, none, .mov (.c (.bool true))⟩,
          ⟨some 4, none, .mov (.c (.bool true))⟩]
          [2, 3, 4])
        .ret)
        .skip)))) [])
  (.seq (.region [⟨some 2, none, .mov (.c (.int .i64 0))⟩,
    ⟨some 3, none, .mov (.c (.bool false))⟩,
    ⟨some 4, none, .mov (.c (.bool false))⟩]
    [2, 3, 4])
  .ret)))⟩

def RB.slices_pdqsortCmpFunc_local_entry_1 : RCode :=
  (.block 1
    (.seq (.region [⟨some 21, none, .mov (.t 2)⟩,
      ⟨some 22, none, .mov (.t 1)⟩,
      ⟨some 23, none, .bin .sub (.t 21) (.t 22)⟩,
      ⟨some 12, none, .mov (.t 23)⟩]
      [0, 1, 2, 3, 4, 10, 11, 12])
    (.seq (.seq (.region [⟨some 24, none, .mov (.t 12)⟩,
      ⟨some 25, none, .bin .leq (.t 24) (.c (.int .i64 12))⟩]
      [0, 1, 2, 3, 4, 10, 11, 12, 25])
    (.cond (.t 25)
      (.seq (.region [⟨some 26, none, .mov (.t 0)⟩,
        ⟨some 27, none, .mov (.t 1)⟩,
        ⟨some 28, none, .mov (.t 2)⟩,
        ⟨some 29, none, .mov (.t 4)⟩,
        ⟨some 30, none, .call F.slices_insertionSortCmpFunc_local_entry [.t 26, .t 27, .t 28, .t 29]⟩]
        [])
      .ret)
      .skip))
    (.seq (.seq (.region [⟨some 31, none, .mov (.t 3)⟩,
      ⟨some 32, none, .bin .eql (.t 31) (.c (.int .i64 0))⟩]
      [0, 1, 2, 3, 4, 10, 11, 12, 32])
    (.cond (.t 32)
      (.seq (.region [⟨some 33, none, .mov (.t 0)⟩,
        ⟨some 34, none, .mov (.t 1)⟩,
        ⟨some 35, none, .mov (.t 2)⟩,
        ⟨some 36, none, .mov (.t 4)⟩,
        ⟨some 37, none, .call F.slices_heapSortCmpFunc_local_entry [.t 33, .t 34, .t 35, .t 36]⟩]
        [])
      .ret)
      .skip))
    (.seq (.seq (.region [⟨some 38, none, .mov (.t 10)⟩,
      ⟨some 39, none, .un .not (.t 38)⟩]
      [0, 1, 2, 3, 4, 10, 11, 12, 39])
    (.cond (.t 39)
      (.seq (.region [⟨some 40, none, .mov (.t 0)⟩,
        ⟨some 41, none, .mov (.t 1)⟩,
        ⟨some 42, none, .mov (.t 2)⟩,
        ⟨some 43, none, .mov (.t 4)⟩,
        ⟨some 44, none, .call F.slices_breakPatternsCmpFunc_local_entry [.t 40, .t 41, .t 42, .t 43]⟩]
        [0, 1, 2, 3, 4, 10, 11, 12])
      (.region [⟨some 45, none, .mov (.t 3)⟩,
        ⟨some 46, none, .bin .sub (.t 45) (.c (.int .i64 1))⟩,
        ⟨some 3, none, .mov (.t 46)⟩]
        [0, 1, 2, 3, 4, 10, 11, 12]))
      .skip))
    (.seq (.region [⟨some 48, none, .mov (.t 0)⟩,
      ⟨some 49, none, .mov (.t 1)⟩,
      ⟨some 50, none, .mov (.t 2)⟩,
      ⟨some 51, none, .mov (.t 4)⟩,
      ⟨some 52, none, .call F.slices_choosePivotCmpFunc_local_entry [.t 48, .t 49, .t 50, .t 51]⟩,
      ⟨some 47, none, .mov (.t 52)⟩,
      ⟨some 53, none, .ext 0 (.t 47)⟩,
      ⟨some 54, none, .ext 1 (.t 47)⟩,
      ⟨some 13, none, .mov (.t 53)⟩,
      ⟨some 14, none, .mov (.t 54)⟩]
      [0, 1, 2, 3, 4, 10, 11, 12, 13, 14])
    (.seq (.seq (.region [⟨some 55, none, .mov (.t 14)⟩,
      ⟨some 56, none, .bin .eql (.t 55) (.c (.int .i64 2))⟩]
      [0, 1, 2, 3, 4, 10, 11, 12, 13, 14, 56])
    (.cond (.t 56)
      (.seq (.region [⟨some 57, none, .mov (.t 0)⟩,
        ⟨some 58, none, .mov (.t 1)⟩,
        ⟨some 59, none, .mov (.t 2)⟩,
        ⟨some 60, none, .mov (.t 4)⟩,
        ⟨some 61, none, .call F.slices_reverseRangeCmpFunc_local_entry [.t 57, .t 58, .t 59, .t 60]⟩]
        [0, 1, 2, 3, 4, 10, 11, 12, 13])
      (.seq (.region [⟨some 62, none, .mov (.t 2)⟩,
        ⟨some 63, none, .bin .sub (.t 62) (.c (.int .i64 1))⟩,
        ⟨some 64, none, .mov (.t 13)⟩,
        ⟨some 65, none, .mov (.t 1)⟩,
        ⟨some 66, none, .bin .sub (.t 64) (.t 65)⟩,
        ⟨some 67, none, .bin .sub (.t 63) (.t 66)⟩,
        ⟨some 13, none, .mov (.t 67)⟩]
        [0, 1, 2, 3, 4, 10, 11, 12, 13])
      (.region [⟨some 14, none, .mov (.c (.int .i64 1))⟩]
        [0, 1, 2, 3, 4, 10, 11, 12, 13, 14])))
      .skip))
    (.seq (.seq (.region [⟨some 68, none, .mov (.t 10)⟩,
      ⟨some 69, none, .mov (.t 68)⟩,
      ⟨some 70, some (69, true), .mov (.t 11)⟩,
      ⟨some 71, none, .pick (.t 69) (.t 70) (.c (.bool false))⟩,
      ⟨some 72, none, .mov (.t 71)⟩,
      ⟨some 73, some (72, true), .mov (.t 14)⟩,
      ⟨some 74, some (72, true), .bin .eql (.t 73) (.c (.int .i64 1))⟩,
      ⟨some 75, none, .pick (.t 72) (.t 74) (.c (.bool false))⟩]
      [0, 1, 2, 3, 4, 10, 11, 12, 13, 75])
    (.cond (.t 75)
      (.seq (.region [⟨some 76, none, .mov (.t 0)⟩,
        ⟨some 77, none, .mov (.t 1)⟩,
        ⟨some 78, none, .mov (.t 2)⟩,
        ⟨some 79, none, .mov (.t 4)⟩,
        ⟨some 80, none, .call F.slices_partialInsertionSortCmpFunc_local_entry [.t 76, .t 77, .t 78, .t 79]⟩]
        [0, 1, 2, 3, 4, 10, 11, 12, 13, 80])
      (.cond (.t 80)
        .ret
        .skip))
      .skip))
    (.seq (.seq (.drawn [⟨some 81, none, .mov (.t 1)⟩,
      ⟨some 82, none, .bin .gtr (.t 81) (.c (.int .i64 0))⟩,
      ⟨some 83, none, .mov (.t 82)⟩,
      ⟨some 84, some (83, true), .mov (.t 4)⟩,
      ⟨some 85, some (83, true), .mov (.t 0)⟩,
      ⟨some 86, some (83, true), .mov (.t 1)⟩,
      ⟨some 87, some (83, true), .bin .sub (.t 86) (.c (.int .i64 1))⟩,
      ⟨some 88, some (83, true), .idxS 3 (.t 85) (.t 87)⟩,
      ⟨some 89, some (83, true), .load true 3 (.t 88)⟩,
      ⟨some 90, some (83, true), .mov (.t 0)⟩,
      ⟨some 91, some (83, true), .mov (.t 13)⟩,
      ⟨some 92, some (83, true), .idxS 3 (.t 90) (.t 91)⟩,
      ⟨some 93, some (83, true), .load true 3 (.t 92)⟩,
      ⟨some 94, some (83, true), .callv (.t 84) [.t 89, .t 93]⟩,
      ⟨some 95, some (83, true), .bin .lss (.t 94) (.c (.int .i64 0))⟩,
      ⟨some 96, some (83, true), .un .not (.t 95)⟩,
      ⟨some 97, none, .pick (.t 83) (.t 96) (.c (.bool false))⟩]
      [[], [0], [1], [2], [2], [2], [5, 2], [4, 6, 2], [7, 2], [2], [2], [9, 10, 2], [11, 2], [3, 8, 12, 2, 2], [13, 2], [14, 2], [2, 15]]
      [(0, []), (1, []), (2, []), (3, []), (4, []), (5, []), (6, []), (7, []), (9, []), (10, []), (11, []), (8, []), (12, []), (13, []), (14, []), (15, []), (16, [])]
      [[], [0], [0, 1], [0, 1, 2], [0, 1, 2], [0, 1, 2], [0, 1, 2, 5], [0, 1, 2, 4, 5, 6], [0, 1, 2, 4, 5, 6, 7], [0, 1, 2], [0, 1, 2], [0, 1, 2, 9, 10], [0, 1, 2, 9, 10, 11], [0, 1, 2, 3, 4, 5, 6, 7, 8, 9, 10, 11, 12], [0, 1, 2, 3, 4, 5, 6, 7, 8, 9, 10, 11, 12, 13], [0, 1, 2, 3, 4, 5, 6, 7, 8, 9, 10, 11, 12, 13, 14], [0, 1, 2, 3, 4, 5, 6, 7, 8, 9, 10, 11, 12, 13, 14, 15]]
      [0, 1, 2, 3, 4, 10, 11, 12, 13, 97])
    (.cond (.t 97)
      (.seq (.region [⟨some 98, none, .mov (.t 0)⟩,
        ⟨some 99, none, .mov (.t 1)⟩,
        ⟨some 100, none, .mov (.t 2)⟩,
        ⟨some 101, none, .mov (.t 13)⟩,
        ⟨some 102, none, .mov (.t 4)⟩,
        ⟨some 103, none, .call F.slices_partitionEqualCmpFunc_local_entry [.t 98, .t 99, .t 100, .t 101, .t 102]⟩,
        ⟨some 15, none, .mov (.t 103)⟩]
        [0, 2, 3, 4, 10, 11, 15])
      (.seq (.region [⟨some 104, none, .mov (.t 15)⟩,
        ⟨some 1, none, .mov (.t 104)⟩]
        [0, 1, 2, 3, 4, 10, 11])
      (.exit 1)))
      .skip))
    (.seq (.region [⟨some 106, none, .mov (.t 0)⟩,
      ⟨some 107, none, .mov (.t 1)⟩,
      ⟨some 108, none, .mov (.t 2)⟩,
      ⟨some 109, none, .mov (.t 13)⟩,
      ⟨some 110, none, .mov (.t 4)⟩,
      ⟨some 111, none, .call F.slices_partitionCmpFunc_local_entry [.t 106, .t 107, .t 108, .t 109, .t 110]⟩,
      ⟨some 105, none, .mov (.t 111)⟩,
      ⟨some 112, none, .ext 0 (.t 105)⟩,
      ⟨some 113, none, .ext 1 (.t 105)⟩,
      ⟨some 16, none, .mov (.t 112)⟩,
      ⟨some 17, none, .mov (.t 113)⟩]
      [0, 1, 2, 3, 4, 12, 16, 17])
    (.seq (.region [⟨some 114, none, .mov (.t 17)⟩,
      ⟨some 11, none, .mov (.t 114)⟩]
      [0, 1, 2, 3, 4, 11, 12, 16])
    (.seq (.region [⟨some 115, none, .mov (.t 16)⟩,
      ⟨some 116, none, .mov (.t 1)⟩,
      ⟨some 117, none, .bin .sub (.t 115) (.t 116)⟩,
      ⟨some 118, none, .mov (.t 2)⟩,
      ⟨some 119, none, .mov (.t 16)⟩,
      ⟨some 120, none, .bin .sub (.t 118) (.t 119)⟩,
      ⟨some 18, none, .mov (.t 117)⟩,
      ⟨some 19, none, .mov (.t 120)⟩]
      [0, 1, 2, 3, 4, 11, 12, 16, 18, 19])
    (.seq (.region [⟨some 121, none, .mov (.t 12)⟩,
      ⟨some 122, none, .bin .quo (.t 121) (.c (.int .i64 8))⟩,
      ⟨some 20, none, .mov (.t 122)⟩]
      [0, 1, 2, 3, 4, 11, 16, 18, 19, 20])
    (.seq (.region [⟨some 123, none, .mov (.t 18)⟩,
      ⟨some 124, none, .mov (.t 19)⟩,
      ⟨some 125, none, .bin .lss (.t 123) (.t 124)⟩]
      [0, 1, 2, 3, 4, 11, 16, 18, 19, 20, 125])
    (.cond (.t 125)
      (.seq (.region [⟨some 126, none, .mov (.t 18)⟩,
        ⟨some 127, none, .mov (.t 20)⟩,
        ⟨some 128, none, .bin .geq (.t 126) (.t 127)⟩,
        ⟨some 10, none, .mov (.t 128)⟩]
        [0, 1, 2, 3, 4, 10, 11, 16])
      (.seq (.region [⟨some 129, none, .mov (.t 0)⟩,
        ⟨some 130, none, .mov (.t 1)⟩,
        ⟨some 131, none, .mov (.t 16)⟩,
        ⟨some 132, none, .mov (.t 3)⟩,
        ⟨some 133, none, .mov (.t 4)⟩,
        ⟨some 134, none, .call F.slices_pdqsortCmpFunc_local_entry [.t 129, .t 130, .t 131, .t 132, .t 133]⟩]
        [0, 2, 3, 4, 10, 11, 16])
      (.region [⟨some 135, none, .mov (.t 16)⟩,
        ⟨some 136, none, .bin .add (.t 135) (.c (.int .i64 1))⟩,
        ⟨some 1, none, .mov (.t 136)⟩]
        [0, 1, 2, 3, 4, 10, 11])))
      (.seq (.region [⟨some 137, none, .mov (.t 19)⟩,
        ⟨some 138, none, .mov (.t 20)⟩,
        ⟨some 139, none, .bin .geq (.t 137) (.t 138)⟩,
        ⟨some 10, none, .mov (.t 139)⟩]
        [0, 1, 2, 3, 4, 10, 11, 16])
      (.seq (.region [⟨some 140, none, .mov (.t 0)⟩,
        ⟨some 141, none, .mov (.t 16)⟩,
        ⟨some 142, none, .bin .add (.t 141) (.c (.int .i64 1))⟩,
        ⟨some 143, none, .mov (.t 2)⟩,
        ⟨some 144, none, .mov (.t 3)⟩,
        ⟨some 145, none, .mov (.t 4)⟩,
        ⟨some 146, none, .call F.slices_pdqsortCmpFunc_local_entry [.t 140, .t 142, .t 143, .t 144, .t 145]⟩]
        [0, 1, 3, 4, 10, 11, 16])
      (.region [⟨some 147, none, .mov (.t 16)⟩,
        ⟨some 2, none, .mov (.t 147)⟩]
        [0, 1, 2, 3, 4, 10, 11]))))))))))))))))) [0, 1, 2, 3, 4, 10, 11])
def RC.slices_pdqsortCmpFunc_local_entry : RFn := ⟨5, [],
  (.seq (.region [⟨some 10, none, .mov (.c (.bool true))⟩]
    [0, 1, 2, 3, 4, 10])
  (.seq (.region [⟨some 11, none, .mov (.c (.bool true))⟩]
    [0, 1, 2, 3, 4, 10, 11])
  (.block 0
    (.loop [0, 1, 2, 3, 4, 10, 11] RB.slices_pdqsortCmpFunc_local_entry_1) [])))⟩

def RC.math_bits_Len : RFn := ⟨1, [.slot 2],
  (.seq (.region [⟨some 2, none, .mov (.c (.int .i64 0))⟩]
    [0])
  (.seq (.cond (.c (.bool false))
    (.seq (.region [⟨some 3, none, .mov (.t 0)⟩,
      ⟨some 4, none, .conv .u32 (.t 3)⟩,
      ⟨some 5, none, .call F.math_bits_Len32 [.t 4]⟩,
      ⟨some 2, none, .mov (.t 5)⟩]
      [2])
    .ret)
    .skip)
  (.seq (.region [⟨some 6, none, .mov (.t 0)⟩,
    ⟨some 7, none, .call F.math_bits_Len64 [.t 6]⟩,
    ⟨some 2, none, .mov (.t 7)⟩]
    [2])
  .ret)))⟩

def RC.cmp_isNaN_int : RFn := ⟨1, [.slot 2],
  (.seq (.region [⟨some 2, none, .mov (.c (.bool false))⟩]
    [0])
  (.seq (.region [⟨some 3, none, .mov (.t 0)⟩,
    ⟨some 4, none, .mov (.t 0)⟩,
    ⟨some 5, none, .bin .neq (.t 3) (.t 4)⟩,
    ⟨some 2, none, .mov (.t 5)⟩]
    [2])
  .ret))⟩

def RB.ref15_Has_1 : RCode :=
  (.seq (.seq (.region [⟨some 6, none, .mov (.t 5)⟩,
    ⟨some 7, none, .mov (.t 0)⟩,
    ⟨some 8, none, .len (.t 7)⟩,
    ⟨some 9, none, .bin .lss (.t 6) (.t 8)⟩]
    [0, 1, 5, 9])
  (.cond (.t 9)
    .skip
    (.exit 0)))
  (.seq (.block 1
    (.seq (.region [⟨some 12, none, .mov (.t 0)⟩,
      ⟨some 13, none, .mov (.t 5)⟩,
      ⟨some 14, none, .idxS 1 (.t 12) (.t 13)⟩,
      ⟨some 15, none, .load false 1 (.t 14)⟩,
      ⟨some 16, none, .mov (.t 1)⟩,
      ⟨some 17, none, .bin .eql (.t 15) (.t 16)⟩]
      [0, 1, 5, 17])
    (.cond (.t 17)
      (.seq (.region [⟨some 4, none, .mov (.c (.bool true))⟩]
        [4])
      .ret)
      .skip)) [0, 1, 5])
  (.region [⟨some 10, none, .mov (.t 5)⟩,
    ⟨some 11, none, .bin .add (.t 10) (.c (.int .i64 1))⟩,
    ⟨some 5, none, .mov (.t 11)⟩]
    [0, 1, 5])))
def RC.ref15_Has : RFn := ⟨2, [.slot 4],
  (.seq (.region [⟨some 4, none, .mov (.c (.bool false))⟩]
    [0, 1])
  (.seq (.seq (.region [⟨some 5, none, .mov (.c (.int .i64 0))⟩]
    [0, 1, 5])
  (.block 0
    (.loop [0, 1, 5] RB.ref15_Has_1) []))
  (.seq (.region [⟨some 4, none, .mov (.c (.bool false))⟩]
    [4])
  .ret)))⟩

def RC.math_bits_Mul64 : RFn := ⟨2, [.slot 4, .slot 5],
  (.seq (.region [⟨some 4, none, .mov (.c (u64 0#64))⟩,
    ⟨some 5, none, .mov (.c (u64 0#64))⟩]
    [0, 1])
  (.seq (.region [⟨some 14, none, .mov (.t 0)⟩,
    ⟨some 15, none, .bin .and (.t 14) (.c (u64 4294967295#64))⟩,
    ⟨some 6, none, .mov (.t 15)⟩]
    [0, 1, 6])
  (.seq (.region [⟨some 16, none, .mov (.t 0)⟩,
    ⟨some 17, none, .bin .shr (.t 16) (.c (u64 32#64))⟩,
    ⟨some 7, none, .mov (.t 17)⟩]
    [0, 1, 6, 7])
  (.seq (.region [⟨some 18, none, .mov (.t 1)⟩,
    ⟨some 19, none, .bin .and (.t 18) (.c (u64 4294967295#64))⟩,
    ⟨some 8, none, .mov (.t 19)⟩]
    [0, 1, 6, 7, 8])
  (.seq (.region [⟨some 20, none, .mov (.t 1)⟩,
    ⟨some 21, none, .bin .shr (.t 20) (.c (u64 32#64))⟩,
    ⟨some 9, none, .mov (.t 21)⟩]
    [0, 1, 6, 7, 8, 9])
  (.seq (.region [⟨some 22, none, .mov (.t 6)⟩,
    ⟨some 23, none, .mov (.t 8)⟩,
    ⟨some 24, none, .bin .mul (.t 22) (.t 23)⟩,
    ⟨some 10, none, .mov (.t 24)⟩]
    [0, 1, 6, 7, 8, 9, 10])
  (.seq (.region [⟨some 25, none, .mov (.t 7)⟩,
    ⟨some 26, none, .mov (.t 8)⟩,
    ⟨some 27, none, .bin .mul (.t 25) (.t 26)⟩,
    ⟨some 28, none, .mov (.t 10)⟩,
    ⟨some 29, none, .bin .shr (.t 28) (.c (u64 32#64))⟩,
    ⟨some 30, none, .bin .add (.t 27) (.t 29)⟩,
    ⟨some 11, none, .mov (.t 30)⟩]
    [0, 1, 6, 7, 9, 11])
  (.seq (.region [⟨some 31, none, .mov (.t 11)⟩,
    ⟨some 32, none, .bin .and (.t 31) (.c (u64 4294967295#64))⟩,
    ⟨some 12, none, .mov (.t 32)⟩]
    [0, 1, 6, 7, 9, 11, 12])
  (.seq (.region [⟨some 33, none, .mov (.t 11)⟩,
    ⟨some 34, none, .bin .shr (.t 33) (.c (u64 32#64))⟩,
    ⟨some 13, none, .mov (.t 34)⟩]
    [0, 1, 6, 7, 9, 12, 13])
  (.seq (.region [⟨some 35, none, .mov (.t 12)⟩,
    ⟨some 36, none, .mov (.t 6)⟩,
    ⟨some 37, none, .mov (.t 9)⟩,
    ⟨some 38, none, .bin .mul (.t 36) (.t 37)⟩,
    ⟨some 39, none, .bin .add (.t 35) (.t 38)⟩,
    ⟨some 12, none, .mov (.t 39)⟩]
    [0, 1, 7, 9, 12, 13])
  (.seq (.region [⟨some 40, none, .mov (.t 7)⟩,
    ⟨some 41, none, .mov (.t 9)⟩,
    ⟨some 42, none, .bin .mul (.t 40) (.t 41)⟩,
    ⟨some 43, none, .mov (.t 13)⟩,
    ⟨some 44, none, .bin .add (.t 42) (.t 43)⟩,
    ⟨some 45, none, .mov (.t 12)⟩,
    ⟨some 46, none, .bin .shr (.t 45) (.c (u64 32#64))⟩,
    ⟨some 47, none, .bin .add (.t 44) (.t 46)⟩,
    ⟨some 4, none, .mov (.t 47)⟩]
    [0, 1, 4])
  (.seq (.region [⟨some 48, none, .mov (.t 0)⟩,
    ⟨some 49, none, .mov (.t 1)⟩,
    ⟨some 50, none, .bin .mul (.t 48) (.t 49)⟩,
    ⟨some 5, none, .mov (.t 50)⟩]
    [4, 5])
  .ret))))))))))))⟩

def RB.slices_insertionSortCmpFunc_local_entry_1 : RCode :=
  (.seq (.seq (.drawn [⟨some 18, none, .mov (.t 9)⟩,
    ⟨some 19, none, .mov (.t 1)⟩,
    ⟨some 20, none, .bin .gtr (.t 18) (.t 19)⟩,
    ⟨some 21, none, .mov (.t 20)⟩,
    ⟨some 22, some (21, true), .mov (.t 3)⟩,
    ⟨some 23, some (21, true), .mov (.t 0)⟩,
    ⟨some 24, some (21, true), .mov (.t 9)⟩,
    ⟨some 25, some (21, true), .idxS 3 (.t 23) (.t 24)⟩,
    ⟨some 26, some (21, true), .load true 3 (.t 25)⟩,
    ⟨some 27, some (21, true), .mov (.t 0)⟩,
    ⟨some 28, some (21, true), .mov (.t 9)⟩,
    ⟨some 29, some (21, true), .bin .sub (.t 28) (.c (.int .i64 1))⟩,
    ⟨some 30, some (21, true), .idxS 3 (.t 27) (.t 29)⟩,
    ⟨some 31, some (21, true), .load true 3 (.t 30)⟩,
    ⟨some 32, some (21, true), .callv (.t 22) [.t 26, .t 31]⟩,
    ⟨some 33, some (21, true), .bin .lss (.t 32) (.c (.int .i64 0))⟩,
    ⟨some 34, none, .pick (.t 21) (.t 33) (.c (.bool false))⟩]
    [[], [], [0, 1], [2], [3], [3], [3], [5, 6, 3], [7, 3], [3], [3], [10, 3], [9, 11, 3], [12, 3], [4, 8, 13, 3, 3], [14, 3], [3, 15]]
    [(0, []), (1, []), (2, []), (3, []), (4, []), (5, []), (6, []), (7, []), (9, []), (10, []), (11, []), (12, []), (8, []), (13, []), (14, []), (15, []), (16, [])]
    [[], [], [0, 1], [0, 1, 2], [0, 1, 2, 3], [0, 1, 2, 3], [0, 1, 2, 3], [0, 1, 2, 3, 5, 6], [0, 1, 2, 3, 5, 6, 7], [0, 1, 2, 3], [0, 1, 2, 3], [0, 1, 2, 3, 10], [0, 1, 2, 3, 9, 10, 11], [0, 1, 2, 3, 9, 10, 11, 12], [0, 1, 2, 3, 4, 5, 6, 7, 8, 9, 10, 11, 12, 13], [0, 1, 2, 3, 4, 5, 6, 7, 8, 9, 10, 11, 12, 13, 14], [0, 1, 2, 3, 4, 5, 6, 7, 8, 9, 10, 11, 12, 13, 14, 15]]
    [0, 1, 2, 3, 8, 9, 34])
  (.cond (.t 34)
    .skip
    (.exit 2)))
  (.seq (.block 3
    (.drawn [⟨some 37, none, .mov (.t 0)⟩,
      ⟨some 38, none, .mov (.t 9)⟩,
      ⟨some 39, none, .mov (.t 0)⟩,
      ⟨some 40, none, .mov (.t 9)⟩,
      ⟨some 41, none, .bin .sub (.t 40) (.c (.int .i64 1))⟩,
      ⟨some 42, none, .mov (.t 0)⟩,
      ⟨some 43, none, .mov (.t 9)⟩,
      ⟨some 44, none, .bin .sub (.t 43) (.c (.int .i64 1))⟩,
      ⟨some 45, none, .idxS 3 (.t 42) (.t 44)⟩,
      ⟨some 46, none, .load true 3 (.t 45)⟩,
      ⟨some 47, none, .mov (.t 0)⟩,
      ⟨some 48, none, .mov (.t 9)⟩,
      ⟨some 49, none, .idxS 3 (.t 47) (.t 48)⟩,
      ⟨some 50, none, .load true 3 (.t 49)⟩,
      ⟨some 51, none, .idxS 3 (.t 37) (.t 38)⟩,
      ⟨none, none, .store 3 (.t 51) (.t 46)⟩,
      ⟨some 52, none, .idxS 3 (.t 39) (.t 41)⟩,
      ⟨none, none, .store 3 (.t 52) (.t 50)⟩]
      [[], [], [], [], [3], [], [], [6], [5, 7], [8], [], [], [10, 11], [12], [0, 1, 0, 1, 5, 6, 7, 8, 9, 13], [14, 9, 0, 1, 5, 6, 7, 8, 9, 13], [2, 4, 0, 1, 2, 3, 4, 5, 6, 7, 8, 9, 10, 11, 12, 13, 14, 15], [16, 13, 15, 0, 1, 2, 3, 4, 5, 6, 7, 8, 9, 10, 11, 12, 13, 14, 15]]
      [(0, []), (1, []), (2, []), (3, []), (4, []), (5, []), (6, []), (7, []), (8, []), (10, []), (11, []), (12, []), (9, []), (13, []), (14, []), (15, []), (16, []), (17, [])]
      [[], [], [], [], [3], [], [], [6], [5, 6, 7], [5, 6, 7, 8], [], [], [10, 11], [10, 11, 12], [0, 1, 5, 6, 7, 8, 9, 10, 11, 12, 13], [0, 1, 5, 6, 7, 8, 9, 10, 11, 12, 13, 14], [0, 1, 2, 3, 4, 5, 6, 7, 8, 9, 10, 11, 12, 13, 14, 15], [0, 1, 2, 3, 4, 5, 6, 7, 8, 9, 10, 11, 12, 13, 14, 15, 16]]
      [0, 1, 2, 3, 8, 9]) [0, 1, 2, 3, 8, 9])
  (.region [⟨some 35, none, .mov (.t 9)⟩,
    ⟨some 36, none, .bin .sub (.t 35) (.c (.int .i64 1))⟩,
    ⟨some 9, none, .mov (.t 36)⟩]
    [0, 1, 2, 3, 8, 9])))
def RB.slices_insertionSortCmpFunc_local_entry_2 : RCode :=
  (.seq (.seq (.region [⟨some 12, none, .mov (.t 8)⟩,
    ⟨some 13, none, .mov (.t 2)⟩,
    ⟨some 14, none, .bin .lss (.t 12) (.t 13)⟩]
    [0, 1, 2, 3, 8, 14])
  (.cond (.t 14)
    .skip
    (.exit 0)))
  (.seq (.block 1
    (.seq (.region [⟨some 17, none, .mov (.t 8)⟩,
      ⟨some 9, none, .mov (.t 17)⟩]
      [0, 1, 2, 3, 8, 9])
    (.block 2
      (.loop [0, 1, 2, 3, 8, 9] RB.slices_insertionSortCmpFunc_local_entry_1) [0, 1, 2, 3, 8])) [0, 1, 2, 3, 8])
  (.region [⟨some 15, none, .mov (.t 8)⟩,
    ⟨some 16, none, .bin .add (.t 15) (.c (.int .i64 1))⟩,
    ⟨some 8, none, .mov (.t 16)⟩]
    [0, 1, 2, 3, 8])))
def RC.slices_insertionSortCmpFunc_local_entry : RFn := ⟨4, [],
  (.seq (.region [⟨some 10, none, .mov (.t 1)⟩,
    ⟨some 11, none, .bin .add (.t 10) (.c (.int .i64 1))⟩,
    ⟨some 8, none, .mov (.t 11)⟩]
    [0, 1, 2, 3, 8])
  (.block 0
    (.loop [0, 1, 2, 3, 8] RB.slices_insertionSortCmpFunc_local_entry_2) []))⟩

def RB.slices_heapSortCmpFunc_local_entry_1 : RCode :=
  (.seq (.seq (.region [⟨some 32, none, .mov (.t 12)⟩,
    ⟨some 33, none, .bin .geq (.t 32) (.c (.int .i64 0))⟩]
    [0, 3, 8, 9, 12, 33])
  (.cond (.t 33)
    .skip
    (.exit 2)))
  (.seq (.block 3
    (.seq (.drawn [⟨some 36, none, .mov (.t 0)⟩,
      ⟨some 37, none, .mov (.t 8)⟩,
      ⟨some 38, none, .mov (.t 0)⟩,
      ⟨some 39, none, .mov (.t 8)⟩,
      ⟨some 40, none, .mov (.t 12)⟩,
      ⟨some 41, none, .bin .add (.t 39) (.t 40)⟩,
      ⟨some 42, none, .mov (.t 0)⟩,
      ⟨some 43, none, .mov (.t 8)⟩,
      ⟨some 44, none, .mov (.t 12)⟩,
      ⟨some 45, none, .bin .add (.t 43) (.t 44)⟩,
      ⟨some 46, none, .idxS 3 (.t 42) (.t 45)⟩,
      ⟨some 47, none, .load true 3 (.t 46)⟩,
      ⟨some 48, none, .mov (.t 0)⟩,
      ⟨some 49, none, .mov (.t 8)⟩,
      ⟨some 50, none, .idxS 3 (.t 48) (.t 49)⟩,
      ⟨some 51, none, .load true 3 (.t 50)⟩,
      ⟨some 52, none, .idxS 3 (.t 36) (.t 37)⟩,
      ⟨none, none, .store 3 (.t 52) (.t 47)⟩,
      ⟨some 53, none, .idxS 3 (.t 38) (.t 41)⟩,
      ⟨none, none, .store 3 (.t 53) (.t 51)⟩]
      [[], [], [], [], [], [3, 4], [], [], [], [7, 8], [6, 9], [10], [], [], [12, 13], [14], [0, 1, 0, 1, 6, 7, 8, 9, 10, 11, 15], [16, 11, 0, 1, 6, 7, 8, 9, 10, 11, 15], [2, 5, 0, 1, 2, 3, 4, 5, 6, 7, 8, 9, 10, 11, 12, 13, 14, 15, 16, 17], [18, 15, 17, 0, 1, 2, 3, 4, 5, 6, 7, 8, 9, 10, 11, 12, 13, 14, 15, 16, 17]]
      [(0, []), (1, []), (2, []), (3, []), (4, []), (5, []), (6, []), (7, []), (8, []), (9, []), (10, []), (12, []), (13, []), (14, []), (11, []), (15, []), (16, []), (17, []), (18, []), (19, [])]
      [[], [], [], [], [], [3, 4], [], [], [], [7, 8], [6, 7, 8, 9], [6, 7, 8, 9, 10], [], [], [12, 13], [12, 13, 14], [0, 1, 6, 7, 8, 9, 10, 11, 12, 13, 14, 15], [0, 1, 6, 7, 8, 9, 10, 11, 12, 13, 14, 15, 16], [0, 1, 2, 3, 4, 5, 6, 7, 8, 9, 10, 11, 12, 13, 14, 15, 16, 17], [0, 1, 2, 3, 4, 5, 6, 7, 8, 9, 10, 11, 12, 13, 14, 15, 16, 17, 18]]
      [0, 3, 8, 9, 12])
    (.region [⟨some 54, none, .mov (.t 0)⟩,
      ⟨some 55, none, .mov (.t 9)⟩,
      ⟨some 56, none, .mov (.t 12)⟩,
      ⟨some 57, none, .mov (.t 8)⟩,
      ⟨some 58, none, .mov (.t 3)⟩,
      ⟨some 59, none, .call F.slices_siftDownCmpFunc_local_entry [.t 54, .t 55, .t 56, .t 57, .t 58]⟩]
      [0, 3, 8, 9, 12])) [0, 3, 8, 9, 12])
  (.region [⟨some 34, none, .mov (.t 12)⟩,
    ⟨some 35, none, .bin .sub (.t 34) (.c (.int .i64 1))⟩,
    ⟨some 12, none, .mov (.t 35)⟩]
    [0, 3, 8, 9, 12])))
def RB.slices_heapSortCmpFunc_local_entry_2 : RCode :=
  (.seq (.seq (.region [⟨some 20, none, .mov (.t 11)⟩,
    ⟨some 21, none, .bin .geq (.t 20) (.c (.int .i64 0))⟩]
    [0, 3, 8, 9, 10, 11, 21])
  (.cond (.t 21)
    .skip
    (.exit 0)))
  (.seq (.block 1
    (.region [⟨some 24, none, .mov (.t 0)⟩,
      ⟨some 25, none, .mov (.t 11)⟩,
      ⟨some 26, none, .mov (.t 10)⟩,
      ⟨some 27, none, .mov (.t 8)⟩,
      ⟨some 28, none, .mov (.t 3)⟩,
      ⟨some 29, none, .call F.slices_siftDownCmpFunc_local_entry [.t 24, .t 25, .t 26, .t 27, .t 28]⟩]
      [0, 3, 8, 9, 10, 11]) [0, 3, 8, 9, 10, 11])
  (.region [⟨some 22, none, .mov (.t 11)⟩,
    ⟨some 23, none, .bin .sub (.t 22) (.c (.int .i64 1))⟩,
    ⟨some 11, none, .mov (.t 23)⟩]
    [0, 3, 8, 9, 10, 11])))
def RC.slices_heapSortCmpFunc_local_entry : RFn := ⟨4, [],
  (.seq (.region [⟨some 13, none, .mov (.t 1)⟩,
    ⟨some 8, none, .mov (.t 13)⟩]
    [0, 1, 2, 3, 8])
  (.seq (.region [⟨some 9, none, .mov (.c (.int .i64 0))⟩]
    [0, 1, 2, 3, 8, 9])
  (.seq (.region [⟨some 14, none, .mov (.t 2)⟩,
    ⟨some 15, none, .mov (.t 1)⟩,
    ⟨some 16, none, .bin .sub (.t 14) (.t 15)⟩,
    ⟨some 10, none, .mov (.t 16)⟩]
    [0, 3, 8, 9, 10])
  (.seq (.seq (.region [⟨some 17, none, .mov (.t 10)⟩,
    ⟨some 18, none, .bin .sub (.t 17) (.c (.int .i64 1))⟩,
    ⟨some 19, none, .bin .quo (.t 18) (.c (.int .i64 2))⟩,
    ⟨some 11, none, .mov (.t 19)⟩]
    [0, 3, 8, 9, 10, 11])
  (.block 0
    (.loop [0, 3, 8, 9, 10, 11] RB.slices_heapSortCmpFunc_local_entry_2) [0, 3, 8, 9, 10]))
  (.seq (.region [⟨some 30, none, .mov (.t 10)⟩,
    ⟨some 31, none, .bin .sub (.t 30) (.c (.int .i64 1))⟩,
    ⟨some 12, none, .mov (.t 31)⟩]
    [0, 3, 8, 9, 12])
  (.block 2
    (.loop [0, 3, 8, 9, 12] RB.slices_heapSortCmpFunc_local_entry_1) []))))))⟩

def RB.slices_breakPatternsCmpFunc_local_entry_1 : RCode :=
  (.seq (.seq (.region [⟨some 28, none, .mov (.t 11)⟩,
    ⟨some 29, none, .mov (.t 1)⟩,
    ⟨some 30, none, .mov (.t 8)⟩,
    ⟨some 31, none, .bin .quo (.t 30) (.c (.int .i64 4))⟩,
    ⟨some 32, none, .bin .mul (.t 31) (.c (.int .i64 2))⟩,
    ⟨some 33, none, .bin .add (.t 29) (.t 32)⟩,
    ⟨some 34, none, .bin .add (.t 33) (.c (.int .i64 1))⟩,
    ⟨some 35, none, .bin .leq (.t 28) (.t 34)⟩]
    [0, 1, 8, 9, 10, 11, 35])
  (.cond (.t 35)
    .skip
    (.exit 0)))
  (.seq (.block 1
    (.seq (.region [⟨some 38, none, .call F.slices_xorshift_Next [.t 9]⟩,
      ⟨some 39, none, .mov (.t 10)⟩,
      ⟨some 40, none, .bin .sub (.t 39) (.c (u64 1#64))⟩,
      ⟨some 41, none, .bin .and (.t 38) (.t 40)⟩,
      ⟨some 42, none, .conv .i64 (.t 41)⟩,
      ⟨some 12, none, .mov (.t 42)⟩]
      [0, 1, 8, 9, 10, 11, 12])
    (.seq (.seq (.region [⟨some 43, none, .mov (.t 12)⟩,
      ⟨some 44, none, .mov (.t 8)⟩,
      ⟨some 45, none, .bin .geq (.t 43) (.t 44)⟩]
      [0, 1, 8, 9, 10, 11, 12, 45])
    (.cond (.t 45)
      (.region [⟨some 46, none, .mov (.t 12)⟩,
        ⟨some 47, none, .mov (.t 8)⟩,
        ⟨some 48, none, .bin .sub (.t 46) (.t 47)⟩,
        ⟨some 12, none, .mov (.t 48)⟩]
        [0, 1, 8, 9, 10, 11, 12])
      .skip))
    (.drawn [⟨some 49, none, .mov (.t 0)⟩,
      ⟨some 50, none, .mov (.t 11)⟩,
      ⟨some 51, none, .mov (.t 0)⟩,
      ⟨some 52, none, .mov (.t 1)⟩,
      ⟨some 53, none, .mov (.t 12)⟩,
      ⟨some 54, none, .bin .add (.t 52) (.t 53)⟩,
      ⟨some 55, none, .mov (.t 0)⟩,
      ⟨some 56, none, .mov (.t 1)⟩,
      ⟨some 57, none, .mov (.t 12)⟩,
      ⟨some 58, none, .bin .add (.t 56) (.t 57)⟩,
      ⟨some 59, none, .idxS 3 (.t 55) (.t 58)⟩,
      ⟨some 60, none, .load true 3 (.t 59)⟩,
      ⟨some 61, none, .mov (.t 0)⟩,
      ⟨some 62, none, .mov (.t 11)⟩,
      ⟨some 63, none, .idxS 3 (.t 61) (.t 62)⟩,
      ⟨some 64, none, .load true 3 (.t 63)⟩,
      ⟨some 65, none, .idxS 3 (.t 49) (.t 50)⟩,
      ⟨none, none, .store 3 (.t 65) (.t 60)⟩,
      ⟨some 66, none, .idxS 3 (.t 51) (.t 54)⟩,
      ⟨none, none, .store 3 (.t 66) (.t 64)⟩]
      [[], [], [], [], [], [3, 4], [], [], [], [7, 8], [6, 9], [10], [], [], [12, 13], [14], [0, 1, 0, 1, 6, 7, 8, 9, 10, 11, 15], [16, 11, 0, 1, 6, 7, 8, 9, 10, 11, 15], [2, 5, 0, 1, 2, 3, 4, 5, 6, 7, 8, 9, 10, 11, 12, 13, 14, 15, 16, 17], [18, 15, 17, 0, 1, 2, 3, 4, 5, 6, 7, 8, 9, 10, 11, 12, 13, 14, 15, 16, 17]]
      [(0, []), (1, []), (2, []), (3, []), (4, []), (5, []), (6, []), (7, []), (8, []), (9, []), (10, []), (12, []), (13, []), (14, []), (11, []), (15, []), (16, []), (17, []), (18, []), (19, [])]
      [[], [], [], [], [], [3, 4], [], [], [], [7, 8], [6, 7, 8, 9], [6, 7, 8, 9, 10], [], [], [12, 13], [12, 13, 14], [0, 1, 6, 7, 8, 9, 10, 11, 12, 13, 14, 15], [0, 1, 6, 7, 8, 9, 10, 11, 12, 13, 14, 15, 16], [0, 1, 2, 3, 4, 5, 6, 7, 8, 9, 10, 11, 12, 13, 14, 15, 16, 17], [0, 1, 2, 3, 4, 5, 6, 7, 8, 9, 10, 11, 12, 13, 14, 15, 16, 17, 18]]
      [0, 1, 8, 9, 10, 11]))) [0, 1, 8, 9, 10, 11])
  (.region [⟨some 36, none, .mov (.t 11)⟩,
    ⟨some 37, none, .bin .add (.t 36) (.c (.int .i64 1))⟩,
    ⟨some 11, none, .mov (.t 37)⟩]
    [0, 1, 8, 9, 10, 11])))
def RC.slices_breakPatternsCmpFunc_local_entry : RFn := ⟨4, [],
  (.seq (.region [⟨some 13, none, .mov (.t 2)⟩,
    ⟨some 14, none, .mov (.t 1)⟩,
    ⟨some 15, none, .bin .sub (.t 13) (.t 14)⟩,
    ⟨some 8, none, .mov (.t 15)⟩]
    [0, 1, 8])
  (.seq (.region [⟨some 16, none, .mov (.t 8)⟩,
    ⟨some 17, none, .bin .geq (.t 16) (.c (.int .i64 8))⟩]
    [0, 1, 8, 17])
  (.cond (.t 17)
    (.seq (.region [⟨some 18, none, .mov (.t 8)⟩,
      ⟨some 19, none, .conv .u64 (.t 18)⟩,
      ⟨some 9, none, .alloc [(u64 0#64)]⟩,
      ⟨none, none, .store 1 (.t 9) (.t 19)⟩]
      [0, 1, 8, 9])
    (.seq (.region [⟨some 20, none, .mov (.t 8)⟩,
      ⟨some 21, none, .call F.slices_nextPowerOfTwo [.t 20]⟩,
      ⟨some 10, none, .mov (.t 21)⟩]
      [0, 1, 8, 9, 10])
    (.seq (.region [⟨some 22, none, .mov (.t 1)⟩,
      ⟨some 23, none, .mov (.t 8)⟩,
      ⟨some 24, none, .bin .quo (.t 23) (.c (.int .i64 4))⟩,
      ⟨some 25, none, .bin .mul (.t 24) (.c (.int .i64 2))⟩,
      ⟨some 26, none, .bin .add (.t 22) (.t 25)⟩,
      ⟨some 27, none, .bin .sub (.t 26) (.c (.int .i64 1))⟩,
      ⟨some 11, none, .mov (.t 27)⟩]
      [0, 1, 8, 9, 10, 11])
    (.block 0
      (.loop [0, 1, 8, 9, 10, 11] RB.slices_breakPatternsCmpFunc_local_entry_1) []))))
    .skip)))⟩

def RC.slices_choosePivotCmpFunc_local_entry : RFn := ⟨4, [.slot 8, .slot 9],
  (.seq (.region [⟨some 8, none, .mov (.c (.int .i64 0))⟩,
    ⟨some 9, none, .mov (.c (.int .i64 0))⟩]
    [0, 1, 2, 3])
  (.seq (.region [⟨some 15, none, .mov (.t 2)⟩,
    ⟨some 16, none, .mov (.t 1)⟩,
    ⟨some 17, none, .bin .sub (.t 15) (.t 16)⟩,
    ⟨some 10, none, .mov (.t 17)⟩]
    [0, 1, 3, 10])
  (.seq (.region [⟨some 11, none, .alloc [(.int .i64 0)]⟩]
    [0, 1, 3, 10, 11])
  (.seq (.region [⟨some 18, none, .mov (.t 1)⟩,
    ⟨some 19, none, .mov (.t 10)⟩,
    ⟨some 20, none, .bin .quo (.t 19) (.c (.int .i64 4))⟩,
    ⟨some 21, none, .bin .mul (.t 20) (.c (.int .i64 1))⟩,
    ⟨some 22, none, .bin .add (.t 18) (.t 21)⟩,
    ⟨some 12, none, .mov (.t 22)⟩]
    [0, 1, 3, 10, 11, 12])
  (.seq (.region [⟨some 23, none, .mov (.t 1)⟩,
    ⟨some 24, none, .mov (.t 10)⟩,
    ⟨some 25, none, .bin .quo (.t 24) (.c (.int .i64 4))⟩,
    ⟨some 26, none, .bin .mul (.t 25) (.c (.int .i64 2))⟩,
    ⟨some 27, none, .bin .add (.t 23) (.t 26)⟩,
    ⟨some 13, none, .mov (.t 27)⟩]
    [0, 1, 3, 10, 11, 12, 13])
  (.seq (.region [⟨some 28, none, .mov (.t 1)⟩,
    ⟨some 29, none, .mov (.t 10)⟩,
    ⟨some 30, none, .bin .quo (.t 29) (.c (.int .i64 4))⟩,
    ⟨some 31, none, .bin .mul (.t 30) (.c (.int .i64 3))⟩,
    ⟨some 32, none, .bin .add (.t 28) (.t 31)⟩,
    ⟨some 14, none, .mov (.t 32)⟩]
    [0, 3, 10, 11, 12, 13, 14])
  (.seq (.seq (.region [⟨some 33, none, .mov (.t 10)⟩,
    ⟨some 34, none, .bin .geq (.t 33) (.c (.int .i64 8))⟩]
    [0, 3, 10, 11, 12, 13, 14, 34])
  (.cond (.t 34)
    (.seq (.seq (.region [⟨some 35, none, .mov (.t 10)⟩,
      ⟨some 36, none, .bin .geq (.t 35) (.c (.int .i64 50))⟩]
      [0, 3, 11, 12, 13, 14, 36])
    (.cond (.t 36)
      (.seq (.region [⟨some 37, none, .mov (.t 0)⟩,
        ⟨some 38, none, .mov (.t 12)⟩,
        ⟨some 39, none, .mov (.t 3)⟩,
        ⟨some 40, none, .call F.slices_medianAdjacentCmpFunc_local_entry [.t 37, .t 38, .t 11, .t 39]⟩,
        ⟨some 12, none, .mov (.t 40)⟩]
        [0, 3, 11, 12, 13, 14])
      (.seq (.region [⟨some 41, none, .mov (.t 0)⟩,
        ⟨some 42, none, .mov (.t 13)⟩,
        ⟨some 43, none, .mov (.t 3)⟩,
        ⟨some 44, none, .call F.slices_medianAdjacentCmpFunc_local_entry [.t 41, .t 42, .t 11, .t 43]⟩,
        ⟨some 13, none, .mov (.t 44)⟩]
        [0, 3, 11, 12, 13, 14])
      (.region [⟨some 45, none, .mov (.t 0)⟩,
        ⟨some 46, none, .mov (.t 14)⟩,
        ⟨some 47, none, .mov (.t 3)⟩,
        ⟨some 48, none, .call F.slices_medianAdjacentCmpFunc_local_entry [.t 45, .t 46, .t 11, .t 47]⟩,
        ⟨some 14, none, .mov (.t 48)⟩]
        [0, 3, 11, 12, 13, 14])))
      .skip))
    (.region [⟨some 49, none, .mov (.t 0)⟩,
      ⟨some 50, none, .mov (.t 12)⟩,
      ⟨some 51, none, .mov (.t 13)⟩,
      ⟨some 52, none, .mov (.t 14)⟩,
      ⟨some 53, none, .mov (.t 3)⟩,
      ⟨some 54, none, .call F.slices_medianCmpFunc_local_entry [.t 49, .t 50, .t 51, .t 52, .t 11, .t 53]⟩,
      ⟨some 13, none, .mov (.t 54)⟩]
      [11, 13]))
    .skip))
  (.seq (.region [⟨some 55, none, .load false 1 (.t 11)⟩]
    [13, 55])
  (.block 0
    (.seq (.region [⟨some 58, none, .bin .eql (.t 55) (.c (.int .i64 0))⟩,
      ⟨some 57, none, .mov (.t 58)⟩]
      [13, 55, 57])
    (.cond (.t 57)
      (.seq (.region [⟨some 59, none, .mov (.t 13)⟩,
        ⟨some 8, none, .mov (.t 59)⟩,
        ⟨some 9, none, .mov (.c (.int .i64 1))⟩]
        [8, 9])
      .ret)
      (.seq (.region [⟨some 61, none, .bin .eql (.t 55) (.c (.int .i64 12))⟩,
        ⟨some 60, none, .mov (.t 61)⟩]
        [13, 60])
      (.cond (.t 60)
        (.seq (.region [⟨some 62, none, .mov (.t 13)⟩,
          ⟨some 8, none, .mov (.t 62)⟩,
          ⟨some 9, none, .mov (.c (.int .i64 2))⟩]
          [8, 9])
        .ret)
        (.seq (.region [⟨some 56, none, .mov (.t 13)⟩,
          ⟨some 8, none, .mov (.t 56)⟩,
          ⟨some 9, none, .mov (.c (.int .i64 0))⟩]
          [8, 9])
        .ret))))) [8, 9])))))))))⟩

def RB.slices_reverseRangeCmpFunc_local_entry_1 : RCode :=
  (.seq (.seq (.region [⟨some 13, none, .mov (.t 8)⟩,
    ⟨some 14, none, .mov (.t 9)⟩,
    ⟨some 15, none, .bin .lss (.t 13) (.t 14)⟩]
    [0, 8, 9, 15])
  (.cond (.t 15)
    .skip
    (.exit 0)))
  (.block 1
    (.seq (.drawn [⟨some 16, none, .mov (.t 0)⟩,
      ⟨some 17, none, .mov (.t 8)⟩,
      ⟨some 18, none, .mov (.t 0)⟩,
      ⟨some 19, none, .mov (.t 9)⟩,
      ⟨some 20, none, .mov (.t 0)⟩,
      ⟨some 21, none, .mov (.t 9)⟩,
      ⟨some 22, none, .idxS 3 (.t 20) (.t 21)⟩,
      ⟨some 23, none, .load true 3 (.t 22)⟩,
      ⟨some 24, none, .mov (.t 0)⟩,
      ⟨some 25, none, .mov (.t 8)⟩,
      ⟨some 26, none, .idxS 3 (.t 24) (.t 25)⟩,
      ⟨some 27, none, .load true 3 (.t 26)⟩,
      ⟨some 28, none, .idxS 3 (.t 16) (.t 17)⟩,
      ⟨none, none, .store 3 (.t 28) (.t 23)⟩,
      ⟨some 29, none, .idxS 3 (.t 18) (.t 19)⟩,
      ⟨none, none, .store 3 (.t 29) (.t 27)⟩]
      [[], [], [], [], [], [], [4, 5], [6], [], [], [8, 9], [10], [0, 1, 0, 1, 4, 5, 6, 7, 11], [12, 7, 0, 1, 4, 5, 6, 7, 11], [2, 3, 0, 1, 2, 3, 4, 5, 6, 7, 8, 9, 10, 11, 12, 13], [14, 11, 13, 0, 1, 2, 3, 4, 5, 6, 7, 8, 9, 10, 11, 12, 13]]
      [(0, []), (1, []), (2, []), (3, []), (4, []), (5, []), (6, []), (8, []), (9, []), (10, []), (7, []), (11, []), (12, []), (13, []), (14, []), (15, [])]
      [[], [], [], [], [], [], [4, 5], [4, 5, 6], [], [], [8, 9], [8, 9, 10], [0, 1, 4, 5, 6, 7, 8, 9, 10, 11], [0, 1, 4, 5, 6, 7, 8, 9, 10, 11, 12], [0, 1, 2, 3, 4, 5, 6, 7, 8, 9, 10, 11, 12, 13], [0, 1, 2, 3, 4, 5, 6, 7, 8, 9, 10, 11, 12, 13, 14]]
      [0, 8, 9])
    (.seq (.region [⟨some 30, none, .mov (.t 8)⟩,
      ⟨some 31, none, .bin .add (.t 30) (.c (.int .i64 1))⟩,
      ⟨some 8, none, .mov (.t 31)⟩]
      [0, 8, 9])
    (.region [⟨some 32, none, .mov (.t 9)⟩,
      ⟨some 33, none, .bin .sub (.t 32) (.c (.int .i64 1))⟩,
      ⟨some 9, none, .mov (.t 33)⟩]
      [0, 8, 9]))) [0, 8, 9]))
def RC.slices_reverseRangeCmpFunc_local_entry : RFn := ⟨4, [],
  (.seq (.region [⟨some 10, none, .mov (.t 1)⟩,
    ⟨some 8, none, .mov (.t 10)⟩]
    [0, 2, 8])
  (.seq (.region [⟨some 11, none, .mov (.t 2)⟩,
    ⟨some 12, none, .bin .sub (.t 11) (.c (.int .i64 1))⟩,
    ⟨some 9, none, .mov (.t 12)⟩]
    [0, 8, 9])
  (.block 0
    (.loop [0, 8, 9] RB.slices_reverseRangeCmpFunc_local_entry_1) [])))⟩

def RB.slices_partialInsertionSortCmpFunc_local_entry_1 : RCode :=
  (.seq (.seq (.region [⟨some 107, none, .mov (.t 12)⟩,
    ⟨some 108, none, .mov (.t 2)⟩,
    ⟨some 109, none, .bin .lss (.t 107) (.t 108)⟩]
    [0, 1, 2, 3, 9, 10, 12, 109])
  (.cond (.t 109)
    .skip
    (.exit 6)))
  (.seq (.block 7
    (.seq (.seq (.drawn [⟨some 112, none, .mov (.t 3)⟩,
      ⟨some 113, none, .mov (.t 0)⟩,
      ⟨some 114, none, .mov (.t 12)⟩,
      ⟨some 115, none, .idxS 3 (.t 113) (.t 114)⟩,
      ⟨some 116, none, .load true 3 (.t 115)⟩,
      ⟨some 117, none, .mov (.t 0)⟩,
      ⟨some 118, none, .mov (.t 12)⟩,
      ⟨some 119, none, .bin .sub (.t 118) (.c (.int .i64 1))⟩,
      ⟨some 120, none, .idxS 3 (.t 117) (.t 119)⟩,
      ⟨some 121, none, .load true 3 (.t 120)⟩,
      ⟨some 122, none, .callv (.t 112) [.t 116, .t 121]⟩,
      ⟨some 123, none, .bin .lss (.t 122) (.c (.int .i64 0))⟩,
      ⟨some 124, none, .un .not (.t 123)⟩]
      [[], [], [], [1, 2], [3], [], [], [6], [5, 7], [8], [0, 4, 9], [10], [11]]
      [(0, []), (1, []), (2, []), (3, []), (5, []), (6, []), (7, []), (8, []), (4, []), (9, []), (10, []), (11, []), (12, [])]
      [[], [], [], [1, 2], [1, 2, 3], [], [], [6], [5, 6, 7], [5, 6, 7, 8], [0, 1, 2, 3, 4, 5, 6, 7, 8, 9], [0, 1, 2, 3, 4, 5, 6, 7, 8, 9, 10], [0, 1, 2, 3, 4, 5, 6, 7, 8, 9, 10, 11]]
      [0, 1, 2, 3, 9, 10, 12, 124])
    (.cond (.t 124)
      (.exit 6)
      .skip))
    (.drawn [⟨some 125, none, .mov (.t 0)⟩,
      ⟨some 126, none, .mov (.t 12)⟩,
      ⟨some 127, none, .mov (.t 0)⟩,
      ⟨some 128, none, .mov (.t 12)⟩,
      ⟨some 129, none, .bin .sub (.t 128) (.c (.int .i64 1))⟩,
      ⟨some 130, none, .mov (.t 0)⟩,
      ⟨some 131, none, .mov (.t 12)⟩,
      ⟨some 132, none, .bin .sub (.t 131) (.c (.int .i64 1))⟩,
      ⟨some 133, none, .idxS 3 (.t 130) (.t 132)⟩,
      ⟨some 134, none, .load true 3 (.t 133)⟩,
      ⟨some 135, none, .mov (.t 0)⟩,
      ⟨some 136, none, .mov (.t 12)⟩,
      ⟨some 137, none, .idxS 3 (.t 135) (.t 136)⟩,
      ⟨some 138, none, .load true 3 (.t 137)⟩,
      ⟨some 139, none, .idxS 3 (.t 125) (.t 126)⟩,
      ⟨none, none, .store 3 (.t 139) (.t 134)⟩,
      ⟨some 140, none, .idxS 3 (.t 127) (.t 129)⟩,
      ⟨none, none, .store 3 (.t 140) (.t 138)⟩]
      [[], [], [], [], [3], [], [], [6], [5, 7], [8], [], [], [10, 11], [12], [0, 1, 0, 1, 5, 6, 7, 8, 9, 13], [14, 9, 0, 1, 5, 6, 7, 8, 9, 13], [2, 4, 0, 1, 2, 3, 4, 5, 6, 7, 8, 9, 10, 11, 12, 13, 14, 15], [16, 13, 15, 0, 1, 2, 3, 4, 5, 6, 7, 8, 9, 10, 11, 12, 13, 14, 15]]
      [(0, []), (1, []), (2, []), (3, []), (4, []), (5, []), (6, []), (7, []), (8, []), (10, []), (11, []), (12, []), (9, []), (13, []), (14, []), (15, []), (16, []), (17, [])]
      [[], [], [], [], [3], [], [], [6], [5, 6, 7], [5, 6, 7, 8], [], [], [10, 11], [10, 11, 12], [0, 1, 5, 6, 7, 8, 9, 10, 11, 12, 13], [0, 1, 5, 6, 7, 8, 9, 10, 11, 12, 13, 14], [0, 1, 2, 3, 4, 5, 6, 7, 8, 9, 10, 11, 12, 13, 14, 15], [0, 1, 2, 3, 4, 5, 6, 7, 8, 9, 10, 11, 12, 13, 14, 15, 16]]
      [0, 1, 2, 3, 9, 10, 12])) [0, 1, 2, 3, 9, 10, 12])
  (.region [⟨some 110, none, .mov (.t 12)⟩,
    ⟨some 111, none, .bin .add (.t 110) (.c (.int .i64 1))⟩,
    ⟨some 12, none, .mov (.t 111)⟩]
    [0, 1, 2, 3, 9, 10, 12])))
def RB.slices_partialInsertionSortCmpFunc_local_entry_2 : RCode :=
  (.seq (.seq (.region [⟨some 68, none, .mov (.t 11)⟩,
    ⟨some 69, none, .bin .geq (.t 68) (.c (.int .i64 1))⟩]
    [0, 1, 2, 3, 9, 10, 11, 69])
  (.cond (.t 69)
    .skip
    (.exit 4)))
  (.seq (.block 5
    (.seq (.seq (.drawn [⟨some 72, none, .mov (.t 3)⟩,
      ⟨some 73, none, .mov (.t 0)⟩,
      ⟨some 74, none, .mov (.t 11)⟩,
      ⟨some 75, none, .idxS 3 (.t 73) (.t 74)⟩,
      ⟨some 76, none, .load true 3 (.t 75)⟩,
      ⟨some 77, none, .mov (.t 0)⟩,
      ⟨some 78, none, .mov (.t 11)⟩,
      ⟨some 79, none, .bin .sub (.t 78) (.c (.int .i64 1))⟩,
      ⟨some 80, none, .idxS 3 (.t 77) (.t 79)⟩,
      ⟨some 81, none, .load true 3 (.t 80)⟩,
      ⟨some 82, none, .callv (.t 72) [.t 76, .t 81]⟩,
      ⟨some 83, none, .bin .lss (.t 82) (.c (.int .i64 0))⟩,
      ⟨some 84, none, .un .not (.t 83)⟩]
      [[], [], [], [1, 2], [3], [], [], [6], [5, 7], [8], [0, 4, 9], [10], [11]]
      [(0, []), (1, []), (2, []), (3, []), (5, []), (6, []), (7, []), (8, []), (4, []), (9, []), (10, []), (11, []), (12, [])]
      [[], [], [], [1, 2], [1, 2, 3], [], [], [6], [5, 6, 7], [5, 6, 7, 8], [0, 1, 2, 3, 4, 5, 6, 7, 8, 9], [0, 1, 2, 3, 4, 5, 6, 7, 8, 9, 10], [0, 1, 2, 3, 4, 5, 6, 7, 8, 9, 10, 11]]
      [0, 1, 2, 3, 9, 10, 11, 84])
    (.cond (.t 84)
      (.exit 4)
      .skip))
    (.drawn [⟨some 85, none, .mov (.t 0)⟩,
      ⟨some 86, none, .mov (.t 11)⟩,
      ⟨some 87, none, .mov (.t 0)⟩,
      ⟨some 88, none, .mov (.t 11)⟩,
      ⟨some 89, none, .bin .sub (.t 88) (.c (.int .i64 1))⟩,
      ⟨some 90, none, .mov (.t 0)⟩,
      ⟨some 91, none, .mov (.t 11)⟩,
      ⟨some 92, none, .bin .sub (.t 91) (.c (.int .i64 1))⟩,
      ⟨some 93, none, .idxS 3 (.t 90) (.t 92)⟩,
      ⟨some 94, none, .load true 3 (.t 93)⟩,
      ⟨some 95, none, .mov (.t 0)⟩,
      ⟨some 96, none, .mov (.t 11)⟩,
      ⟨some 97, none, .idxS 3 (.t 95) (.t 96)⟩,
      ⟨some 98, none, .load true 3 (.t 97)⟩,
      ⟨some 99, none, .idxS 3 (.t 85) (.t 86)⟩,
      ⟨none, none, .store 3 (.t 99) (.t 94)⟩,
      ⟨some 100, none, .idxS 3 (.t 87) (.t 89)⟩,
      ⟨none, none, .store 3 (.t 100) (.t 98)⟩]
      [[], [], [], [], [3], [], [], [6], [5, 7], [8], [], [], [10, 11], [12], [0, 1, 0, 1, 5, 6, 7, 8, 9, 13], [14, 9, 0, 1, 5, 6, 7, 8, 9, 13], [2, 4, 0, 1, 2, 3, 4, 5, 6, 7, 8, 9, 10, 11, 12, 13, 14, 15], [16, 13, 15, 0, 1, 2, 3, 4, 5, 6, 7, 8, 9, 10, 11, 12, 13, 14, 15]]
      [(0, []), (1, []), (2, []), (3, []), (4, []), (5, []), (6, []), (7, []), (8, []), (10, []), (11, []), (12, []), (9, []), (13, []), (14, []), (15, []), (16, []), (17, [])]
      [[], [], [], [], [3], [], [], [6], [5, 6, 7], [5, 6, 7, 8], [], [], [10, 11], [10, 11, 12], [0, 1, 5, 6, 7, 8, 9, 10, 11, 12, 13], [0, 1, 5, 6, 7, 8, 9, 10, 11, 12, 13, 14], [0, 1, 2, 3, 4, 5, 6, 7, 8, 9, 10, 11, 12, 13, 14, 15], [0, 1, 2, 3, 4, 5, 6, 7, 8, 9, 10, 11, 12, 13, 14, 15, 16]]
      [0, 1, 2, 3, 9, 10, 11])) [0, 1, 2, 3, 9, 10, 11])
  (.region [⟨some 70, none, .mov (.t 11)⟩,
    ⟨some 71, none, .bin .sub (.t 70) (.c (.int .i64 1))⟩,
    ⟨some 11, none, .mov (.t 71)⟩]
    [0, 1, 2, 3, 9, 10, 11])))
def RB.slices_partialInsertionSortCmpFunc_local_entry_3 : RCode :=
  (.seq (.seq (.drawn [⟨some 19, none, .mov (.t 9)⟩,
    ⟨some 20, none, .mov (.t 2)⟩,
    ⟨some 21, none, .bin .lss (.t 19) (.t 20)⟩,
    ⟨some 22, none, .mov (.t 21)⟩,
    ⟨some 23, some (22, true), .mov (.t 3)⟩,
    ⟨some 24, some (22, true), .mov (.t 0)⟩,
    ⟨some 25, some (22, true), .mov (.t 9)⟩,
    ⟨some 26, some (22, true), .idxS 3 (.t 24) (.t 25)⟩,
    ⟨some 27, some (22, true), .load true 3 (.t 26)⟩,
    ⟨some 28, some (22, true), .mov (.t 0)⟩,
    ⟨some 29, some (22, true), .mov (.t 9)⟩,
    ⟨some 30, some (22, true), .bin .sub (.t 29) (.c (.int .i64 1))⟩,
    ⟨some 31, some (22, true), .idxS 3 (.t 28) (.t 30)⟩,
    ⟨some 32, some (22, true), .load true 3 (.t 31)⟩,
    ⟨some 33, some (22, true), .callv (.t 23) [.t 27, .t 32]⟩,
    ⟨some 34, some (22, true), .bin .lss (.t 33) (.c (.int .i64 0))⟩,
    ⟨some 35, some (22, true), .un .not (.t 34)⟩,
    ⟨some 36, none, .pick (.t 22) (.t 35) (.c (.bool false))⟩]
    [[], [], [0, 1], [2], [3], [3], [3], [5, 6, 3], [7, 3], [3], [3], [10, 3], [9, 11, 3], [12, 3], [4, 8, 13, 3, 3], [14, 3], [15, 3], [3, 16]]
    [(0, []), (1, []), (2, []), (3, []), (4, []), (5, []), (6, []), (7, []), (9, []), (10, []), (11, []), (12, []), (8, []), (13, []), (14, []), (15, []), (16, []), (17, [])]
    [[], [], [0, 1], [0, 1, 2], [0, 1, 2, 3], [0, 1, 2, 3], [0, 1, 2, 3], [0, 1, 2, 3, 5, 6], [0, 1, 2, 3, 5, 6, 7], [0, 1, 2, 3], [0, 1, 2, 3], [0, 1, 2, 3, 10], [0, 1, 2, 3, 9, 10, 11], [0, 1, 2, 3, 9, 10, 11, 12], [0, 1, 2, 3, 4, 5, 6, 7, 8, 9, 10, 11, 12, 13], [0, 1, 2, 3, 4, 5, 6, 7, 8, 9, 10, 11, 12, 13, 14], [0, 1, 2, 3, 4, 5, 6, 7, 8, 9, 10, 11, 12, 13, 14, 15], [0, 1, 2, 3, 4, 5, 6, 7, 8, 9, 10, 11, 12, 13, 14, 15, 16]]
    [0, 1, 2, 3, 9, 10, 36])
  (.cond (.t 36)
    .skip
    (.exit 2)))
  (.block 3
    (.region [⟨some 37, none, .mov (.t 9)⟩,
      ⟨some 38, none, .bin .add (.t 37) (.c (.int .i64 1))⟩,
      ⟨some 9, none, .mov (.t 38)⟩]
      [0, 1, 2, 3, 9, 10]) [0, 1, 2, 3, 9, 10]))
def RB.slices_partialInsertionSortCmpFunc_local_entry_4 : RCode :=
  (.seq (.seq (.region [⟨some 15, none, .mov (.t 10)⟩,
    ⟨some 16, none, .bin .lss (.t 15) (.c (.int .i64 5))⟩]
    [0, 1, 2, 3, 9, 10, 16])
  (.cond (.t 16)
    .skip
    (.exit 0)))
  (.seq (.block 1
    (.seq (.block 2
      (.loop [0, 1, 2, 3, 9, 10] RB.slices_partialInsertionSortCmpFunc_local_entry_3) [0, 1, 2, 3, 9, 10])
    (.seq (.seq (.region [⟨some 39, none, .mov (.t 9)⟩,
      ⟨some 40, none, .mov (.t 2)⟩,
      ⟨some 41, none, .bin .eql (.t 39) (.t 40)⟩]
      [0, 1, 2, 3, 9, 10, 41])
    (.cond (.t 41)
      (.seq (.region [⟨some 8, none, .mov (.c (.bool true))⟩]
        [8])
      .ret)
      .skip))
    (.seq (.seq (.region [⟨some 42, none, .mov (.t 2)⟩,
      ⟨some 43, none, .mov (.t 1)⟩,
      ⟨some 44, none, .bin .sub (.t 42) (.t 43)⟩,
      ⟨some 45, none, .bin .lss (.t 44) (.c (.int .i64 50))⟩]
      [0, 1, 2, 3, 9, 10, 45])
    (.cond (.t 45)
      (.seq (.region [⟨some 8, none, .mov (.c (.bool false))⟩]
        [8])
      .ret)
      .skip))
    (.seq (.drawn [⟨some 46, none, .mov (.t 0)⟩,
      ⟨some 47, none, .mov (.t 9)⟩,
      ⟨some 48, none, .mov (.t 0)⟩,
      ⟨some 49, none, .mov (.t 9)⟩,
      ⟨some 50, none, .bin .sub (.t 49) (.c (.int .i64 1))⟩,
      ⟨some 51, none, .mov (.t 0)⟩,
      ⟨some 52, none, .mov (.t 9)⟩,
      ⟨some 53, none, .bin .sub (.t 52) (.c (.int .i64 1))⟩,
      ⟨some 54, none, .idxS 3 (.t 51) (.t 53)⟩,
      ⟨some 55, none, .load true 3 (.t 54)⟩,
      ⟨some 56, none, .mov (.t 0)⟩,
      ⟨some 57, none, .mov (.t 9)⟩,
      ⟨some 58, none, .idxS 3 (.t 56) (.t 57)⟩,
      ⟨some 59, none, .load true 3 (.t 58)⟩,
      ⟨some 60, none, .idxS 3 (.t 46) (.t 47)⟩,
      ⟨none, none, .store 3 (.t 60) (.t 55)⟩,
      ⟨some 61, none, .idxS 3 (.t 48) (.t 50)⟩,
      ⟨none, none, .store 3 (.t 61) (.t 59)⟩]
      [[], [], [], [], [3], [], [], [6], [5, 7], [8], [], [], [10, 11], [12], [0, 1, 0, 1, 5, 6, 7, 8, 9, 13], [14, 9, 0, 1, 5, 6, 7, 8, 9, 13], [2, 4, 0, 1, 2, 3, 4, 5, 6, 7, 8, 9, 10, 11, 12, 13, 14, 15], [16, 13, 15, 0, 1, 2, 3, 4, 5, 6, 7, 8, 9, 10, 11, 12, 13, 14, 15]]
      [(0, []), (1, []), (2, []), (3, []), (4, []), (5, []), (6, []), (7, []), (8, []), (10, []), (11, []), (12, []), (9, []), (13, []), (14, []), (15, []), (16, []), (17, [])]
      [[], [], [], [], [3], [], [], [6], [5, 6, 7], [5, 6, 7, 8], [], [], [10, 11], [10, 11, 12], [0, 1, 5, 6, 7, 8, 9, 10, 11, 12, 13], [0, 1, 5, 6, 7, 8, 9, 10, 11, 12, 13, 14], [0, 1, 2, 3, 4, 5, 6, 7, 8, 9, 10, 11, 12, 13, 14, 15], [0, 1, 2, 3, 4, 5, 6, 7, 8, 9, 10, 11, 12, 13, 14, 15, 16]]
      [0, 1, 2, 3, 9, 10])
    (.seq (.seq (.region [⟨some 62, none, .mov (.t 9)⟩,
      ⟨some 63, none, .mov (.t 1)⟩,
      ⟨some 64, none, .bin .sub (.t 62) (.t 63)⟩,
      ⟨some 65, none, .bin .geq (.t 64) (.c (.int .i64 2))⟩]
      [0, 1, 2, 3, 9, 10, 65])
    (.cond (.t 65)
      (.seq (.region [⟨some 66, none, .mov (.t 9)⟩,
        ⟨some 67, none, .bin .sub (.t 66) (.c (.int .i64 1))⟩,
        ⟨some 11, none, .mov (.t 67)⟩]
        [0, 1, 2, 3, 9, 10, 11])
      (.block 4
        (.loop [0, 1, 2, 3, 9, 10, 11] RB.slices_partialInsertionSortCmpFunc_local_entry_2) [0, 1, 2, 3, 9, 10]))
      .skip))
    (.seq (.region [⟨some 101, none, .mov (.t 2)⟩,
      ⟨some 102, none, .mov (.t 9)⟩,
      ⟨some 103, none, .bin .sub (.t 101) (.t 102)⟩,
      ⟨some 104, none, .bin .geq (.t 103) (.c (.int .i64 2))⟩]
      [0, 1, 2, 3, 9, 10, 104])
    (.cond (.t 104)
      (.seq (.region [⟨some 105, none, .mov (.t 9)⟩,
        ⟨some 106, none, .bin .add (.t 105) (.c (.int .i64 1))⟩,
        ⟨some 12, none, .mov (.t 106)⟩]
        [0, 1, 2, 3, 9, 10, 12])
      (.block 6
        (.loop [0, 1, 2, 3, 9, 10, 12] RB.slices_partialInsertionSortCmpFunc_local_entry_1) [0, 1, 2, 3, 9, 10]))
      .skip))))))) [0, 1, 2, 3, 9, 10])
  (.region [⟨some 17, none, .mov (.t 10)⟩,
    ⟨some 18, none, .bin .add (.t 17) (.c (.int .i64 1))⟩,
    ⟨some 10, none, .mov (.t 18)⟩]
    [0, 1, 2, 3, 9, 10])))
def RC.slices_partialInsertionSortCmpFunc_local_entry : RFn := ⟨4, [.slot 8],
  (.seq (.region [⟨some 8, none, .mov (.c (.bool false))⟩]
    [0, 1, 2, 3])
  (.seq (.region [⟨some 13, none, .mov (.t 1)⟩,
    ⟨some 14, none, .bin .add (.t 13) (.c (.int .i64 1))⟩,
    ⟨some 9, none, .mov (.t 14)⟩]
    [0, 1, 2, 3, 9])
  (.seq (.seq (.region [⟨some 10, none, .mov (.c (.int .i64 0))⟩]
    [0, 1, 2, 3, 9, 10])
  (.block 0
    (.loop [0, 1, 2, 3, 9, 10] RB.slices_partialInsertionSortCmpFunc_local_entry_4) []))
  (.seq (.region [⟨some 8, none, .mov (.c (.bool false))⟩]
    [8])
  .ret))))⟩

def RB.slices_partitionEqualCmpFunc_local_entry_1 : RCode :=
  (.seq (.seq (.drawn [⟨some 50, none, .mov (.t 11)⟩,
    ⟨some 51, none, .mov (.t 12)⟩,
    ⟨some 52, none, .bin .leq (.t 50) (.t 51)⟩,
    ⟨some 53, none, .mov (.t 52)⟩,
    ⟨some 54, some (53, true), .mov (.t 4)⟩,
    ⟨some 55, some (53, true), .mov (.t 0)⟩,
    ⟨some 56, some (53, true), .mov (.t 1)⟩,
    ⟨some 57, some (53, true), .idxS 3 (.t 55) (.t 56)⟩,
    ⟨some 58, some (53, true), .load true 3 (.t 57)⟩,
    ⟨some 59, some (53, true), .mov (.t 0)⟩,
    ⟨some 60, some (53, true), .mov (.t 12)⟩,
    ⟨some 61, some (53, true), .idxS 3 (.t 59) (.t 60)⟩,
    ⟨some 62, some (53, true), .load true 3 (.t 61)⟩,
    ⟨some 63, some (53, true), .callv (.t 54) [.t 58, .t 62]⟩,
    ⟨some 64, some (53, true), .bin .lss (.t 63) (.c (.int .i64 0))⟩,
    ⟨some 65, none, .pick (.t 53) (.t 64) (.c (.bool false))⟩]
    [[], [], [0, 1], [2], [3], [3], [3], [5, 6, 3], [7, 3], [3], [3], [9, 10, 3], [11, 3], [4, 8, 12, 3, 3], [13, 3], [3, 14]]
    [(0, []), (1, []), (2, []), (3, []), (4, []), (5, []), (6, []), (7, []), (9, []), (10, []), (11, []), (8, []), (12, []), (13, []), (14, []), (15, [])]
    [[], [], [0, 1], [0, 1, 2], [0, 1, 2, 3], [0, 1, 2, 3], [0, 1, 2, 3], [0, 1, 2, 3, 5, 6], [0, 1, 2, 3, 5, 6, 7], [0, 1, 2, 3], [0, 1, 2, 3], [0, 1, 2, 3, 9, 10], [0, 1, 2, 3, 9, 10, 11], [0, 1, 2, 3, 4, 5, 6, 7, 8, 9, 10, 11, 12], [0, 1, 2, 3, 4, 5, 6, 7, 8, 9, 10, 11, 12, 13], [0, 1, 2, 3, 4, 5, 6, 7, 8, 9, 10, 11, 12, 13, 14]]
    [0, 1, 4, 11, 12, 65])
  (.cond (.t 65)
    .skip
    (.exit 4)))
  (.block 5
    (.region [⟨some 66, none, .mov (.t 12)⟩,
      ⟨some 67, none, .bin .sub (.t 66) (.c (.int .i64 1))⟩,
      ⟨some 12, none, .mov (.t 67)⟩]
      [0, 1, 4, 11, 12]) [0, 1, 4, 11, 12]))
def RB.slices_partitionEqualCmpFunc_local_entry_2 : RCode :=
  (.seq (.seq (.drawn [⟨some 31, none, .mov (.t 11)⟩,
    ⟨some 32, none, .mov (.t 12)⟩,
    ⟨some 33, none, .bin .leq (.t 31) (.t 32)⟩,
    ⟨some 34, none, .mov (.t 33)⟩,
    ⟨some 35, some (34, true), .mov (.t 4)⟩,
    ⟨some 36, some (34, true), .mov (.t 0)⟩,
    ⟨some 37, some (34, true), .mov (.t 1)⟩,
    ⟨some 38, some (34, true), .idxS 3 (.t 36) (.t 37)⟩,
    ⟨some 39, some (34, true), .load true 3 (.t 38)⟩,
    ⟨some 40, some (34, true), .mov (.t 0)⟩,
    ⟨some 41, some (34, true), .mov (.t 11)⟩,
    ⟨some 42, some (34, true), .idxS 3 (.t 40) (.t 41)⟩,
    ⟨some 43, some (34, true), .load true 3 (.t 42)⟩,
    ⟨some 44, some (34, true), .callv (.t 35) [.t 39, .t 43]⟩,
    ⟨some 45, some (34, true), .bin .lss (.t 44) (.c (.int .i64 0))⟩,
    ⟨some 46, some (34, true), .un .not (.t 45)⟩,
    ⟨some 47, none, .pick (.t 34) (.t 46) (.c (.bool false))⟩]
    [[], [], [0, 1], [2], [3], [3], [3], [5, 6, 3], [7, 3], [3], [3], [9, 10, 3], [11, 3], [4, 8, 12, 3, 3], [13, 3], [14, 3], [3, 15]]
    [(0, []), (1, []), (2, []), (3, []), (4, []), (5, []), (6, []), (7, []), (9, []), (10, []), (11, []), (8, []), (12, []), (13, []), (14, []), (15, []), (16, [])]
    [[], [], [0, 1], [0, 1, 2], [0, 1, 2, 3], [0, 1, 2, 3], [0, 1, 2, 3], [0, 1, 2, 3, 5, 6], [0, 1, 2, 3, 5, 6, 7], [0, 1, 2, 3], [0, 1, 2, 3], [0, 1, 2, 3, 9, 10], [0, 1, 2, 3, 9, 10, 11], [0, 1, 2, 3, 4, 5, 6, 7, 8, 9, 10, 11, 12], [0, 1, 2, 3, 4, 5, 6, 7, 8, 9, 10, 11, 12, 13], [0, 1, 2, 3, 4, 5, 6, 7, 8, 9, 10, 11, 12, 13, 14], [0, 1, 2, 3, 4, 5, 6, 7, 8, 9, 10, 11, 12, 13, 14, 15]]
    [0, 1, 4, 11, 12, 47])
  (.cond (.t 47)
    .skip
    (.exit 2)))
  (.block 3
    (.region [⟨some 48, none, .mov (.t 11)⟩,
      ⟨some 49, none, .bin .add (.t 48) (.c (.int .i64 1))⟩,
      ⟨some 11, none, .mov (.t 49)⟩]
      [0, 1, 4, 11, 12]) [0, 1, 4, 11, 12]))
def RB.slices_partitionEqualCmpFunc_local_entry_3 : RCode :=
  (.block 1
    (.seq (.block 2
      (.loop [0, 1, 4, 11, 12] RB.slices_partitionEqualCmpFunc_local_entry_2) [0, 1, 4, 11, 12])
    (.seq (.block 4
      (.loop [0, 1, 4, 11, 12] RB.slices_partitionEqualCmpFunc_local_entry_1) [0, 1, 4, 11, 12])
    (.seq (.seq (.region [⟨some 68, none, .mov (.t 11)⟩,
      ⟨some 69, none, .mov (.t 12)⟩,
      ⟨some 70, none, .bin .gtr (.t 68) (.t 69)⟩]
      [0, 1, 4, 11, 12, 70])
    (.cond (.t 70)
      (.exit 0)
      .skip))
    (.seq (.drawn [⟨some 71, none, .mov (.t 0)⟩,
      ⟨some 72, none, .mov (.t 11)⟩,
      ⟨some 73, none, .mov (.t 0)⟩,
      ⟨some 74, none, .mov (.t 12)⟩,
      ⟨some 75, none, .mov (.t 0)⟩,
      ⟨some 76, none, .mov (.t 12)⟩,
      ⟨some 77, none, .idxS 3 (.t 75) (.t 76)⟩,
      ⟨some 78, none, .load true 3 (.t 77)⟩,
      ⟨some 79, none, .mov (.t 0)⟩,
      ⟨some 80, none, .mov (.t 11)⟩,
      ⟨some 81, none, .idxS 3 (.t 79) (.t 80)⟩,
      ⟨some 82, none, .load true 3 (.t 81)⟩,
      ⟨some 83, none, .idxS 3 (.t 71) (.t 72)⟩,
      ⟨none, none, .store 3 (.t 83) (.t 78)⟩,
      ⟨some 84, none, .idxS 3 (.t 73) (.t 74)⟩,
      ⟨none, none, .store 3 (.t 84) (.t 82)⟩]
      [[], [], [], [], [], [], [4, 5], [6], [], [], [8, 9], [10], [0, 1, 0, 1, 4, 5, 6, 7, 11], [12, 7, 0, 1, 4, 5, 6, 7, 11], [2, 3, 0, 1, 2, 3, 4, 5, 6, 7, 8, 9, 10, 11, 12, 13], [14, 11, 13, 0, 1, 2, 3, 4, 5, 6, 7, 8, 9, 10, 11, 12, 13]]
      [(0, []), (1, []), (2, []), (3, []), (4, []), (5, []), (6, []), (8, []), (9, []), (10, []), (7, []), (11, []), (12, []), (13, []), (14, []), (15, [])]
      [[], [], [], [], [], [], [4, 5], [4, 5, 6], [], [], [8, 9], [8, 9, 10], [0, 1, 4, 5, 6, 7, 8, 9, 10, 11], [0, 1, 4, 5, 6, 7, 8, 9, 10, 11, 12], [0, 1, 2, 3, 4, 5, 6, 7, 8, 9, 10, 11, 12, 13], [0, 1, 2, 3, 4, 5, 6, 7, 8, 9, 10, 11, 12, 13, 14]]
      [0, 1, 4, 11, 12])
    (.seq (.region [⟨some 85, none, .mov (.t 11)⟩,
      ⟨some 86, none, .bin .add (.t 85) (.c (.int .i64 1))⟩,
      ⟨some 11, none, .mov (.t 86)⟩]
      [0, 1, 4, 11, 12])
    (.region [⟨some 87, none, .mov (.t 12)⟩,
      ⟨some 88, none, .bin .sub (.t 87) (.c (.int .i64 1))⟩,
      ⟨some 12, none, .mov (.t 88)⟩]
      [0, 1, 4, 11, 12])))))) [0, 1, 4, 11, 12])
def RC.slices_partitionEqualCmpFunc_local_entry : RFn := ⟨5, [.slot 10],
  (.seq (.region [⟨some 10, none, .mov (.c (.int .i64 0))⟩]
    [0, 1, 2, 3, 4])
  (.seq (.drawn [⟨some 13, none, .mov (.t 0)⟩,
    ⟨some 14, none, .mov (.t 1)⟩,
    ⟨some 15, none, .mov (.t 0)⟩,
    ⟨some 16, none, .mov (.t 3)⟩,
    ⟨some 17, none, .mov (.t 0)⟩,
    ⟨some 18, none, .mov (.t 3)⟩,
    ⟨some 19, none, .idxS 3 (.t 17) (.t 18)⟩,
    ⟨some 20, none, .load true 3 (.t 19)⟩,
    ⟨some 21, none, .mov (.t 0)⟩,
    ⟨some 22, none, .mov (.t 1)⟩,
    ⟨some 23, none, .idxS 3 (.t 21) (.t 22)⟩,
    ⟨some 24, none, .load true 3 (.t 23)⟩,
    ⟨some 25, none, .idxS 3 (.t 13) (.t 14)⟩,
    ⟨none, none, .store 3 (.t 25) (.t 20)⟩,
    ⟨some 26, none, .idxS 3 (.t 15) (.t 16)⟩,
    ⟨none, none, .store 3 (.t 26) (.t 24)⟩]
    [[], [], [], [], [], [], [4, 5], [6], [], [], [8, 9], [10], [0, 1, 0, 1, 4, 5, 6, 7, 11], [12, 7, 0, 1, 4, 5, 6, 7, 11], [2, 3, 0, 1, 2, 3, 4, 5, 6, 7, 8, 9, 10, 11, 12, 13], [14, 11, 13, 0, 1, 2, 3, 4, 5, 6, 7, 8, 9, 10, 11, 12, 13]]
    [(0, []), (1, []), (2, []), (3, []), (4, []), (5, []), (6, []), (8, []), (9, []), (10, []), (7, []), (11, []), (12, []), (13, []), (14, []), (15, [])]
    [[], [], [], [], [], [], [4, 5], [4, 5, 6], [], [], [8, 9], [8, 9, 10], [0, 1, 4, 5, 6, 7, 8, 9, 10, 11], [0, 1, 4, 5, 6, 7, 8, 9, 10, 11, 12], [0, 1, 2, 3, 4, 5, 6, 7, 8, 9, 10, 11, 12, 13], [0, 1, 2, 3, 4, 5, 6, 7, 8, 9, 10, 11, 12, 13, 14]]
    [0, 1, 2, 4])
  (.seq (.region [⟨some 27, none, .mov (.t 1)⟩,
    ⟨some 28, none, .bin .add (.t 27) (.c (.int .i64 1))⟩,
    ⟨some 29, none, .mov (.t 2)⟩,
    ⟨some 30, none, .bin .sub (.t 29) (.c (.int .i64 1))⟩,
    ⟨some 11, none, .mov (.t 28)⟩,
    ⟨some 12, none, .mov (.t 30)⟩]
    [0, 1, 4, 11, 12])
  (.seq (.block 0
    (.loop [0, 1, 4, 11, 12] RB.slices_partitionEqualCmpFunc_local_entry_3) [11])
  (.seq (.region [⟨some 89, none, .mov (.t 11)⟩,
    ⟨some 10, none, .mov (.t 89)⟩]
    [10])
  .ret)))))⟩

def RB.slices_partitionCmpFunc_local_entry_1 : RCode :=
  (.seq (.seq (.drawn [⟨some 123, none, .mov (.t 12)⟩,
    ⟨some 124, none, .mov (.t 13)⟩,
    ⟨some 125, none, .bin .leq (.t 123) (.t 124)⟩,
    ⟨some 126, none, .mov (.t 125)⟩,
    ⟨some 127, some (126, true), .mov (.t 4)⟩,
    ⟨some 128, some (126, true), .mov (.t 0)⟩,
    ⟨some 129, some (126, true), .mov (.t 13)⟩,
    ⟨some 130, some (126, true), .idxS 3 (.t 128) (.t 129)⟩,
    ⟨some 131, some (126, true), .load true 3 (.t 130)⟩,
    ⟨some 132, some (126, true), .mov (.t 0)⟩,
    ⟨some 133, some (126, true), .mov (.t 1)⟩,
    ⟨some 134, some (126, true), .idxS 3 (.t 132) (.t 133)⟩,
    ⟨some 135, some (126, true), .load true 3 (.t 134)⟩,
    ⟨some 136, some (126, true), .callv (.t 127) [.t 131, .t 135]⟩,
    ⟨some 137, some (126, true), .bin .lss (.t 136) (.c (.int .i64 0))⟩,
    ⟨some 138, some (126, true), .un .not (.t 137)⟩,
    ⟨some 139, none, .pick (.t 126) (.t 138) (.c (.bool false))⟩]
    [[], [], [0, 1], [2], [3], [3], [3], [5, 6, 3], [7, 3], [3], [3], [9, 10, 3], [11, 3], [4, 8, 12, 3, 3], [13, 3], [14, 3], [3, 15]]
    [(0, []), (1, []), (2, []), (3, []), (4, []), (5, []), (6, []), (7, []), (9, []), (10, []), (11, []), (8, []), (12, []), (13, []), (14, []), (15, []), (16, [])]
    [[], [], [0, 1], [0, 1, 2], [0, 1, 2, 3], [0, 1, 2, 3], [0, 1, 2, 3], [0, 1, 2, 3, 5, 6], [0, 1, 2, 3, 5, 6, 7], [0, 1, 2, 3], [0, 1, 2, 3], [0, 1, 2, 3, 9, 10], [0, 1, 2, 3, 9, 10, 11], [0, 1, 2, 3, 4, 5, 6, 7, 8, 9, 10, 11, 12], [0, 1, 2, 3, 4, 5, 6, 7, 8, 9, 10, 11, 12, 13], [0, 1, 2, 3, 4, 5, 6, 7, 8, 9, 10, 11, 12, 13, 14], [0, 1, 2, 3, 4, 5, 6, 7, 8, 9, 10, 11, 12, 13, 14, 15]]
    [0, 1, 4, 12, 13, 139])
  (.cond (.t 139)
    .skip
    (.exit 8)))
  (.block 9
    (.region [⟨some 140, none, .mov (.t 13)⟩,
      ⟨some 141, none, .bin .sub (.t 140) (.c (.int .i64 1))⟩,
      ⟨some 13, none, .mov (.t 141)⟩]
      [0, 1, 4, 12, 13]) [0, 1, 4, 12, 13]))
def RB.slices_partitionCmpFunc_local_entry_2 : RCode :=
  (.seq (.seq (.drawn [⟨some 105, none, .mov (.t 12)⟩,
    ⟨some 106, none, .mov (.t 13)⟩,
    ⟨some 107, none, .bin .leq (.t 105) (.t 106)⟩,
    ⟨some 108, none, .mov (.t 107)⟩,
    ⟨some 109, some (108, true), .mov (.t 4)⟩,
    ⟨some 110, some (108, true), .mov (.t 0)⟩,
    ⟨some 111, some (108, true), .mov (.t 12)⟩,
    ⟨some 112, some (108, true), .idxS 3 (.t 110) (.t 111)⟩,
    ⟨some 113, some (108, true), .load true 3 (.t 112)⟩,
    ⟨some 114, some (108, true), .mov (.t 0)⟩,
    ⟨some 115, some (108, true), .mov (.t 1)⟩,
    ⟨some 116, some (108, true), .idxS 3 (.t 114) (.t 115)⟩,
    ⟨some 117, some (108, true), .load true 3 (.t 116)⟩,
    ⟨some 118, some (108, true), .callv (.t 109) [.t 113, .t 117]⟩,
    ⟨some 119, some (108, true), .bin .lss (.t 118) (.c (.int .i64 0))⟩,
    ⟨some 120, none, .pick (.t 108) (.t 119) (.c (.bool false))⟩]
    [[], [], [0, 1], [2], [3], [3], [3], [5, 6, 3], [7, 3], [3], [3], [9, 10, 3], [11, 3], [4, 8, 12, 3, 3], [13, 3], [3, 14]]
    [(0, []), (1, []), (2, []), (3, []), (4, []), (5, []), (6, []), (7, []), (9, []), (10, []), (11, []), (8, []), (12, []), (13, []), (14, []), (15, [])]
    [[], [], [0, 1], [0, 1, 2], [0, 1, 2, 3], [0, 1, 2, 3], [0, 1, 2, 3], [0, 1, 2, 3, 5, 6], [0, 1, 2, 3, 5, 6, 7], [0, 1, 2, 3], [0, 1, 2, 3], [0, 1, 2, 3, 9, 10], [0, 1, 2, 3, 9, 10, 11], [0, 1, 2, 3, 4, 5, 6, 7, 8, 9, 10, 11, 12], [0, 1, 2, 3, 4, 5, 6, 7, 8, 9, 10, 11, 12, 13], [0, 1, 2, 3, 4, 5, 6, 7, 8, 9, 10, 11, 12, 13, 14]]
    [0, 1, 4, 12, 13, 120])
  (.cond (.t 120)
    .skip
    (.exit 6)))
  (.block 7
    (.region [⟨some 121, none, .mov (.t 12)⟩,
      ⟨some 122, none, .bin .add (.t 121) (.c (.int .i64 1))⟩,
      ⟨some 12, none, .mov (.t 122)⟩]
      [0, 1, 4, 12, 13]) [0, 1, 4, 12, 13]))
def RB.slices_partitionCmpFunc_local_entry_3 : RCode :=
  (.block 5
    (.seq (.block 6
      (.loop [0, 1, 4, 12, 13] RB.slices_partitionCmpFunc_local_entry_2) [0, 1, 4, 12, 13])
    (.seq (.block 8
      (.loop [0, 1, 4, 12, 13] RB.slices_partitionCmpFunc_local_entry_1) [0, 1, 4, 12, 13])
    (.seq (.seq (.region [⟨some 142, none, .mov (.t 12)⟩,
      ⟨some 143, none, .mov (.t 13)⟩,
      ⟨some 144, none, .bin .gtr (.t 142) (.t 143)⟩]
      [0, 1, 4, 12, 13, 144])
    (.cond (.t 144)
      (.exit 4)
      .skip))
    (.seq (.drawn [⟨some 145, none, .mov (.t 0)⟩,
      ⟨some 146, none, .mov (.t 12)⟩,
      ⟨some 147, none, .mov (.t 0)⟩,
      ⟨some 148, none, .mov (.t 13)⟩,
      ⟨some 149, none, .mov (.t 0)⟩,
      ⟨some 150, none, .mov (.t 13)⟩,
      ⟨some 151, none, .idxS 3 (.t 149) (.t 150)⟩,
      ⟨some 152, none, .load true 3 (.t 151)⟩,
      ⟨some 153, none, .mov (.t 0)⟩,
      ⟨some 154, none, .mov (.t 12)⟩,
      ⟨some 155, none, .idxS 3 (.t 153) (.t 154)⟩,
      ⟨some 156, none, .load true 3 (.t 155)⟩,
      ⟨some 157, none, .idxS 3 (.t 145) (.t 146)⟩,
      ⟨none, none, .store 3 (.t 157) (.t 152)⟩,
      ⟨some 158, none, .idxS 3 (.t 147) (.t 148)⟩,
      ⟨none, none, .store 3 (.t 158) (.t 156)⟩]
      [[], [], [], [], [], [], [4, 5], [6], [], [], [8, 9], [10], [0, 1, 0, 1, 4, 5, 6, 7, 11], [12, 7, 0, 1, 4, 5, 6, 7, 11], [2, 3, 0, 1, 2, 3, 4, 5, 6, 7, 8, 9, 10, 11, 12, 13], [14, 11, 13, 0, 1, 2, 3, 4, 5, 6, 7, 8, 9, 10, 11, 12, 13]]
      [(0, []), (1, []), (2, []), (3, []), (4, []), (5, []), (6, []), (8, []), (9, []), (10, []), (7, []), (11, []), (12, []), (13, []), (14, []), (15, [])]
      [[], [], [], [], [], [], [4, 5], [4, 5, 6], [], [], [8, 9], [8, 9, 10], [0, 1, 4, 5, 6, 7, 8, 9, 10, 11], [0, 1, 4, 5, 6, 7, 8, 9, 10, 11, 12], [0, 1, 2, 3, 4, 5, 6, 7, 8, 9, 10, 11, 12, 13], [0, 1, 2, 3, 4, 5, 6, 7, 8, 9, 10, 11, 12, 13, 14]]
      [0, 1, 4, 12, 13])
    (.seq (.region [⟨some 159, none, .mov (.t 12)⟩,
      ⟨some 160, none, .bin .add (.t 159) (.c (.int .i64 1))⟩,
      ⟨some 12, none, .mov (.t 160)⟩]
      [0, 1, 4, 12, 13])
    (.region [⟨some 161, none, .mov (.t 13)⟩,
      ⟨some 162, none, .bin .sub (.t 161) (.c (.int .i64 1))⟩,
      ⟨some 13, none, .mov (.t 162)⟩]
      [0, 1, 4, 12, 13])))))) [0, 1, 4, 12, 13])
def RB.slices_partitionCmpFunc_local_entry_4 : RCode :=
  (.seq (.seq (.drawn [⟨some 50, none, .mov (.t 12)⟩,
    ⟨some 51, none, .mov (.t 13)⟩,
    ⟨some 52, none, .bin .leq (.t 50) (.t 51)⟩,
    ⟨some 53, none, .mov (.t 52)⟩,
    ⟨some 54, some (53, true), .mov (.t 4)⟩,
    ⟨some 55, some (53, true), .mov (.t 0)⟩,
    ⟨some 56, some (53, true), .mov (.t 13)⟩,
    ⟨some 57, some (53, true), .idxS 3 (.t 55) (.t 56)⟩,
    ⟨some 58, some (53, true), .load true 3 (.t 57)⟩,
    ⟨some 59, some (53, true), .mov (.t 0)⟩,
    ⟨some 60, some (53, true), .mov (.t 1)⟩,
    ⟨some 61, some (53, true), .idxS 3 (.t 59) (.t 60)⟩,
    ⟨some 62, some (53, true), .load true 3 (.t 61)⟩,
    ⟨some 63, some (53, true), .callv (.t 54) [.t 58, .t 62]⟩,
    ⟨some 64, some (53, true), .bin .lss (.t 63) (.c (.int .i64 0))⟩,
    ⟨some 65, some (53, true), .un .not (.t 64)⟩,
    ⟨some 66, none, .pick (.t 53) (.t 65) (.c (.bool false))⟩]
    [[], [], [0, 1], [2], [3], [3], [3], [5, 6, 3], [7, 3], [3], [3], [9, 10, 3], [11, 3], [4, 8, 12, 3, 3], [13, 3], [14, 3], [3, 15]]
    [(0, []), (1, []), (2, []), (3, []), (4, []), (5, []), (6, []), (7, []), (9, []), (10, []), (11, []), (8, []), (12, []), (13, []), (14, []), (15, []), (16, [])]
    [[], [], [0, 1], [0, 1, 2], [0, 1, 2, 3], [0, 1, 2, 3], [0, 1, 2, 3], [0, 1, 2, 3, 5, 6], [0, 1, 2, 3, 5, 6, 7], [0, 1, 2, 3], [0, 1, 2, 3], [0, 1, 2, 3, 9, 10], [0, 1, 2, 3, 9, 10, 11], [0, 1, 2, 3, 4, 5, 6, 7, 8, 9, 10, 11, 12], [0, 1, 2, 3, 4, 5, 6, 7, 8, 9, 10, 11, 12, 13], [0, 1, 2, 3, 4, 5, 6, 7, 8, 9, 10, 11, 12, 13, 14], [0, 1, 2, 3, 4, 5, 6, 7, 8, 9, 10, 11, 12, 13, 14, 15]]
    [0, 1, 4, 12, 13, 66])
  (.cond (.t 66)
    .skip
    (.exit 2)))
  (.block 3
    (.region [⟨some 67, none, .mov (.t 13)⟩,
      ⟨some 68, none, .bin .sub (.t 67) (.c (.int .i64 1))⟩,
      ⟨some 13, none, .mov (.t 68)⟩]
      [0, 1, 4, 12, 13]) [0, 1, 4, 12, 13]))
def RB.slices_partitionCmpFunc_local_entry_5 : RCode :=
  (.seq (.seq (.drawn [⟨some 32, none, .mov (.t 12)⟩,
    ⟨some 33, none, .mov (.t 13)⟩,
    ⟨some 34, none, .bin .leq (.t 32) (.t 33)⟩,
    ⟨some 35, none, .mov (.t 34)⟩,
    ⟨some 36, some (35, true), .mov (.t 4)⟩,
    ⟨some 37, some (35, true), .mov (.t 0)⟩,
    ⟨some 38, some (35, true), .mov (.t 12)⟩,
    ⟨some 39, some (35, true), .idxS 3 (.t 37) (.t 38)⟩,
    ⟨some 40, some (35, true), .load true 3 (.t 39)⟩,
    ⟨some 41, some (35, true), .mov (.t 0)⟩,
    ⟨some 42, some (35, true), .mov (.t 1)⟩,
    ⟨some 43, some (35, true), .idxS 3 (.t 41) (.t 42)⟩,
    ⟨some 44, some (35, true), .load true 3 (.t 43)⟩,
    ⟨some 45, some (35, true), .callv (.t 36) [.t 40, .t 44]⟩,
    ⟨some 46, some (35, true), .bin .lss (.t 45) (.c (.int .i64 0))⟩,
    ⟨some 47, none, .pick (.t 35) (.t 46) (.c (.bool false))⟩]
    [[], [], [0, 1], [2], [3], [3], [3], [5, 6, 3], [7, 3], [3], [3], [9, 10, 3], [11, 3], [4, 8, 12, 3, 3], [13, 3], [3, 14]]
    [(0, []), (1, []), (2, []), (3, []), (4, []), (5, []), (6, []), (7, []), (9, []), (10, []), (11, []), (8, []), (12, []), (13, []), (14, []), (15, [])]
    [[], [], [0, 1], [0, 1, 2], [0, 1, 2, 3], [0, 1, 2, 3], [0, 1, 2, 3], [0, 1, 2, 3, 5, 6], [0, 1, 2, 3, 5, 6, 7], [0, 1, 2, 3], [0, 1, 2, 3], [0, 1, 2, 3, 9, 10], [0, 1, 2, 3, 9, 10, 11], [0, 1, 2, 3, 4, 5, 6, 7, 8, 9, 10, 11, 12], [0, 1, 2, 3, 4, 5, 6, 7, 8, 9, 10, 11, 12, 13], [0, 1, 2, 3, 4, 5, 6, 7, 8, 9, 10, 11, 12, 13, 14]]
    [0, 1, 4, 12, 13, 47])
  (.cond (.t 47)
    .skip
    (.exit 0)))
  (.block 1
    (.region [⟨some 48, none, .mov (.t 12)⟩,
      ⟨some 49, none, .bin .add (.t 48) (.c (.int .i64 1))⟩,
      ⟨some 12, none, .mov (.t 49)⟩]
      [0, 1, 4, 12, 13]) [0, 1, 4, 12, 13]))
def RC.slices_partitionCmpFunc_local_entry : RFn := ⟨5, [.slot 10, .slot 11],
  (.seq (.region [⟨some 10, none, .mov (.c (.int .i64 0))⟩,
    ⟨some 11, none, .mov (.c (.bool false))⟩]
    [0, 1, 2, 3, 4])
  (.seq (.drawn [⟨some 14, none, .mov (.t 0)⟩,
    ⟨some 15, none, .mov (.t 1)⟩,
    ⟨some 16, none, .mov (.t 0)⟩,
    ⟨some 17, none, .mov (.t 3)⟩,
    ⟨some 18, none, .mov (.t 0)⟩,
    ⟨some 19, none, .mov (.t 3)⟩,
    ⟨some 20, none, .idxS 3 (.t 18) (.t 19)⟩,
    ⟨some 21, none, .load true 3 (.t 20)⟩,
    ⟨some 22, none, .mov (.t 0)⟩,
    ⟨some 23, none, .mov (.t 1)⟩,
    ⟨some 24, none, .idxS 3 (.t 22) (.t 23)⟩,
    ⟨some 25, none, .load true 3 (.t 24)⟩,
    ⟨some 26, none, .idxS 3 (.t 14) (.t 15)⟩,
    ⟨none, none, .store 3 (.t 26) (.t 21)⟩,
    ⟨some 27, none, .idxS 3 (.t 16) (.t 17)⟩,
    ⟨none, none, .store 3 (.t 27) (.t 25)⟩]
    [[], [], [], [], [], [], [4, 5], [6], [], [], [8, 9], [10], [0, 1, 0, 1, 4, 5, 6, 7, 11], [12, 7, 0, 1, 4, 5, 6, 7, 11], [2, 3, 0, 1, 2, 3, 4, 5, 6, 7, 8, 9, 10, 11, 12, 13], [14, 11, 13, 0, 1, 2, 3, 4, 5, 6, 7, 8, 9, 10, 11, 12, 13]]
    [(0, []), (1, []), (2, []), (3, []), (4, []), (5, []), (6, []), (8, []), (9, []), (10, []), (7, []), (11, []), (12, []), (13, []), (14, []), (15, [])]
    [[], [], [], [], [], [], [4, 5], [4, 5, 6], [], [], [8, 9], [8, 9, 10], [0, 1, 4, 5, 6, 7, 8, 9, 10, 11], [0, 1, 4, 5, 6, 7, 8, 9, 10, 11, 12], [0, 1, 2, 3, 4, 5, 6, 7, 8, 9, 10, 11, 12, 13], [0, 1, 2, 3, 4, 5, 6, 7, 8, 9, 10, 11, 12, 13, 14]]
    [0, 1, 2, 4])
  (.seq (.region [⟨some 28, none, .mov (.t 1)⟩,
    ⟨some 29, none, .bin .add (.t 28) (.c (.int .i64 1))⟩,
    ⟨some 30, none, .mov (.t 2)⟩,
    ⟨some 31, none, .bin .sub (.t 30) (.c (.int .i64 1))⟩,
    ⟨some 12, none, .mov (.t 29)⟩,
    ⟨some 13, none, .mov (.t 31)⟩]
    [0, 1, 4, 12, 13])
  (.seq (.block 0
    (.loop [0, 1, 4, 12, 13] RB.slices_partitionCmpFunc_local_entry_5) [0, 1, 4, 12, 13])
  (.seq (.block 2
    (.loop [0, 1, 4, 12, 13] RB.slices_partitionCmpFunc_local_entry_4) [0, 1, 4, 12, 13])
  (.seq (.seq (.region [⟨some 69, none, .mov (.t 12)⟩,
    ⟨some 70, none, .mov (.t 13)⟩,
    ⟨some 71, none, .bin .gtr (.t 69) (.t 70)⟩]
    [0, 1, 4, 12, 13, 71])
  (.cond (.t 71)
    (.seq (.drawn [⟨some 72, none, .mov (.t 0)⟩,
      ⟨some 73, none, .mov (.t 13)⟩,
      ⟨some 74, none, .mov (.t 0)⟩,
      ⟨some 75, none, .mov (.t 1)⟩,
      ⟨some 76, none, .mov (.t 0)⟩,
      ⟨some 77, none, .mov (.t 1)⟩,
      ⟨some 78, none, .idxS 3 (.t 76) (.t 77)⟩,
      ⟨some 79, none, .load true 3 (.t 78)⟩,
      ⟨some 80, none, .mov (.t 0)⟩,
      ⟨some 81, none, .mov (.t 13)⟩,
      ⟨some 82, none, .idxS 3 (.t 80) (.t 81)⟩,
      ⟨some 83, none, .load true 3 (.t 82)⟩,
      ⟨some 84, none, .idxS 3 (.t 72) (.t 73)⟩,
      ⟨none, none, .store 3 (.t 84) (.t 79)⟩,
      ⟨some 85, none, .idxS 3 (.t 74) (.t 75)⟩,
      ⟨none, none, .store 3 (.t 85) (.t 83)⟩]
      [[], [], [], [], [], [], [4, 5], [6], [], [], [8, 9], [10], [0, 1, 0, 1, 4, 5, 6, 7, 11], [12, 7, 0, 1, 4, 5, 6, 7, 11], [2, 3, 0, 1, 2, 3, 4, 5, 6, 7, 8, 9, 10, 11, 12, 13], [14, 11, 13, 0, 1, 2, 3, 4, 5, 6, 7, 8, 9, 10, 11, 12, 13]]
      [(0, []), (1, []), (2, []), (3, []), (4, []), (5, []), (6, []), (8, []), (9, []), (10, []), (7, []), (11, []), (12, []), (13, []), (14, []), (15, [])]
      [[], [], [], [], [], [], [4, 5], [4, 5, 6], [], [], [8, 9], [8, 9, 10], [0, 1, 4, 5, 6, 7, 8, 9, 10, 11], [0, 1, 4, 5, 6, 7, 8, 9, 10, 11, 12], [0, 1, 2, 3, 4, 5, 6, 7, 8, 9, 10, 11, 12, 13], [0, 1, 2, 3, 4, 5, 6, 7, 8, 9, 10, 11, 12, 13, 14]]
      [13])
    (.seq (.region [⟨some 86, none, .mov (.t 13)⟩,
      ⟨some 10, none, .mov (.t 86)⟩,
      ⟨some 11, none, .mov (.c (.bool true))⟩]
      [10, 11])
    .ret))
    .skip))
  (.seq (.drawn [⟨some 87, none, .mov (.t 0)⟩,
    ⟨some 88, none, .mov (.t 12)⟩,
    ⟨some 89, none, .mov (.t 0)⟩,
    ⟨some 90, none, .mov (.t 13)⟩,
    ⟨some 91, none, .mov (.t 0)⟩,
    ⟨some 92, none, .mov (.t 13)⟩,
    ⟨some 93, none, .idxS 3 (.t 91) (.t 92)⟩,
    ⟨some 94, none, .load true 3 (.t 93)⟩,
    ⟨some 95, none, .mov (.t 0)⟩,
    ⟨some 96, none, .mov (.t 12)⟩,
    ⟨some 97, none, .idxS 3 (.t 95) (.t 96)⟩,
    ⟨some 98, none, .load true 3 (.t 97)⟩,
    ⟨some 99, none, .idxS 3 (.t 87) (.t 88)⟩,
    ⟨none, none, .store 3 (.t 99) (.t 94)⟩,
    ⟨some 100, none, .idxS 3 (.t 89) (.t 90)⟩,
    ⟨none, none, .store 3 (.t 100) (.t 98)⟩]
    [[], [], [], [], [], [], [4, 5], [6], [], [], [8, 9], [10], [0, 1, 0, 1, 4, 5, 6, 7, 11], [12, 7, 0, 1, 4, 5, 6, 7, 11], [2, 3, 0, 1, 2, 3, 4, 5, 6, 7, 8, 9, 10, 11, 12, 13], [14, 11, 13, 0, 1, 2, 3, 4, 5, 6, 7, 8, 9, 10, 11, 12, 13]]
    [(0, []), (1, []), (2, []), (3, []), (4, []), (5, []), (6, []), (8, []), (9, []), (10, []), (7, []), (11, []), (12, []), (13, []), (14, []), (15, [])]
    [[], [], [], [], [], [], [4, 5], [4, 5, 6], [], [], [8, 9], [8, 9, 10], [0, 1, 4, 5, 6, 7, 8, 9, 10, 11], [0, 1, 4, 5, 6, 7, 8, 9, 10, 11, 12], [0, 1, 2, 3, 4, 5, 6, 7, 8, 9, 10, 11, 12, 13], [0, 1, 2, 3, 4, 5, 6, 7, 8, 9, 10, 11, 12, 13, 14]]
    [0, 1, 4, 12, 13])
  (.seq (.region [⟨some 101, none, .mov (.t 12)⟩,
    ⟨some 102, none, .bin .add (.t 101) (.c (.int .i64 1))⟩,
    ⟨some 12, none, .mov (.t 102)⟩]
    [0, 1, 4, 12, 13])
  (.seq (.region [⟨some 103, none, .mov (.t 13)⟩,
    ⟨some 104, none, .bin .sub (.t 103) (.c (.int .i64 1))⟩,
    ⟨some 13, none, .mov (.t 104)⟩]
    [0, 1, 4, 12, 13])
  (.seq (.block 4
    (.loop [0, 1, 4, 12, 13] RB.slices_partitionCmpFunc_local_entry_3) [0, 1, 13])
  (.seq (.drawn [⟨some 163, none, .mov (.t 0)⟩,
    ⟨some 164, none, .mov (.t 13)⟩,
    ⟨some 165, none, .mov (.t 0)⟩,
    ⟨some 166, none, .mov (.t 1)⟩,
    ⟨some 167, none, .mov (.t 0)⟩,
    ⟨some 168, none, .mov (.t 1)⟩,
    ⟨some 169, none, .idxS 3 (.t 167) (.t 168)⟩,
    ⟨some 170, none, .load true 3 (.t 169)⟩,
    ⟨some 171, none, .mov (.t 0)⟩,
    ⟨some 172, none, .mov (.t 13)⟩,
    ⟨some 173, none, .idxS 3 (.t 171) (.t 172)⟩,
    ⟨some 174, none, .load true 3 (.t 173)⟩,
    ⟨some 175, none, .idxS 3 (.t 163) (.t 164)⟩,
    ⟨none, none, .store 3 (.t 175) (.t 170)⟩,
    ⟨some 176, none, .idxS 3 (.t 165) (.t 166)⟩,
    ⟨none, none, .store 3 (.t 176) (.t 174)⟩]
    [[], [], [], [], [], [], [4, 5], [6], [], [], [8, 9], [10], [0, 1, 0, 1, 4, 5, 6, 7, 11], [12, 7, 0, 1, 4, 5, 6, 7, 11], [2, 3, 0, 1, 2, 3, 4, 5, 6, 7, 8, 9, 10, 11, 12, 13], [14, 11, 13, 0, 1, 2, 3, 4, 5, 6, 7, 8, 9, 10, 11, 12, 13]]
    [(0, []), (1, []), (2, []), (3, []), (4, []), (5, []), (6, []), (8, []), (9, []), (10, []), (7, []), (11, []), (12, []), (13, []), (14, []), (15, [])]
    [[], [], [], [], [], [], [4, 5], [4, 5, 6], [], [], [8, 9], [8, 9, 10], [0, 1, 4, 5, 6, 7, 8, 9, 10, 11], [0, 1, 4, 5, 6, 7, 8, 9, 10, 11, 12], [0, 1, 2, 3, 4, 5, 6, 7, 8, 9, 10, 11, 12, 13], [0, 1, 2, 3, 4, 5, 6, 7, 8, 9, 10, 11, 12, 13, 14]]
    [13])
  (.seq (.region [⟨some 177, none, .mov (.t 13)⟩,
    ⟨some 10, none, .mov (.t 177)⟩,
    ⟨some 11, none, .mov (.c (.bool false))⟩]
    [10, 11])
  .ret))))))))))))⟩

def RC.math_bits_Len32 : RFn := ⟨1, [.slot 2],
  (.seq (.region [⟨some 2, none, .mov (.c (.int .i64 0))⟩]
    [0, 2])
  (.seq (.seq (.region [⟨some 3, none, .mov (.t 0)⟩,
    ⟨some 4, none, .bin .geq (.t 3) (.c (u32 65536#32))⟩]
    [0, 2, 4])
  (.cond (.t 4)
    (.seq (.region [⟨some 5, none, .mov (.t 0)⟩,
      ⟨some 6, none, .bin .shr (.t 5) (.c (u64 16#64))⟩,
      ⟨some 0, none, .mov (.t 6)⟩]
      [0])
    (.region [⟨some 2, none, .mov (.c (.int .i64 16))⟩]
      [0, 2]))
    .skip))
  (.seq (.seq (.region [⟨some 7, none, .mov (.t 0)⟩,
    ⟨some 8, none, .bin .geq (.t 7) (.c (u32 256#32))⟩]
    [0, 2, 8])
  (.cond (.t 8)
    (.seq (.region [⟨some 9, none, .mov (.t 0)⟩,
      ⟨some 10, none, .bin .shr (.t 9) (.c (u64 8#64))⟩,
      ⟨some 0, none, .mov (.t 10)⟩]
      [0, 2])
    (.region [⟨some 11, none, .mov (.t 2)⟩,
      ⟨some 12, none, .bin .add (.t 11) (.c (.int .i64 8))⟩,
      ⟨some 2, none, .mov (.t 12)⟩]
      [0, 2]))
    .skip))
  (.seq (.region [⟨some 13, none, .mov (.t 2)⟩,
    ⟨some 14, none, .mov (.t 0)⟩,
    ⟨some 15, none, .conv .u8 (.t 14)⟩,
    ⟨some 16, none, .idxStr (.c (.string lenTab)) (.t 15)⟩,
    ⟨some 17, none, .conv .i64 (.t 16)⟩,
    ⟨some 18, none, .bin .add (.t 13) (.t 17)⟩,
    ⟨some 2, none, .mov (.t 18)⟩]
    [2])
  .ret))))⟩

def RC.math_bits_Len64 : RFn := ⟨1, [.slot 2],
  (.seq (.region [⟨some 2, none, .mov (.c (.int .i64 0))⟩]
    [0, 2])
  (.seq (.seq (.region [⟨some 3, none, .mov (.t 0)⟩,
    ⟨some 4, none, .bin .geq (.t 3) (.c (u64 4294967296#64))⟩]
    [0, 2, 4])
  (.cond (.t 4)
    (.seq (.region [⟨some 5, none, .mov (.t 0)⟩,
      ⟨some 6, none, .bin .shr (.t 5) (.c (u64 32#64))⟩,
      ⟨some 0, none, .mov (.t 6)⟩]
      [0])
    (.region [⟨some 2, none, .mov (.c (.int .i64 32))⟩]
      [0, 2]))
    .skip))
  (.seq (.seq (.region [⟨some 7, none, .mov (.t 0)⟩,
    ⟨some 8, none, .bin .geq (.t 7) (.c (u64 65536#64))⟩]
    [0, 2, 8])
  (.cond (.t 8)
    (.seq (.region [⟨some 9, none, .mov (.t 0)⟩,
      ⟨some 10, none, .bin .shr (.t 9) (.c (u64 16#64))⟩,
      ⟨some 0, none, .mov (.t 10)⟩]
      [0, 2])
    (.region [⟨some 11, none, .mov (.t 2)⟩,
      ⟨some 12, none, .bin .add (.t 11) (.c (.int .i64 16))⟩,
      ⟨some 2, none, .mov (.t 12)⟩]
      [0, 2]))
    .skip))
  (.seq (.seq (.region [⟨some 13, none, .mov (.t 0)⟩,
    ⟨some 14, none, .bin .geq (.t 13) (.c (u64 256#64))⟩]
    [0, 2, 14])
  (.cond (.t 14)
    (.seq (.region [⟨some 15, none, .mov (.t 0)⟩,
      ⟨some 16, none, .bin .shr (.t 15) (.c (u64 8#64))⟩,
      ⟨some 0, none, .mov (.t 16)⟩]
      [0, 2])
    (.region [⟨some 17, none, .mov (.t 2)⟩,
      ⟨some 18, none, .bin .add (.t 17) (.c (.int .i64 8))⟩,
      ⟨some 2, none, .mov (.t 18)⟩]
      [0, 2]))
    .skip))
  (.seq (.region [⟨some 19, none, .mov (.t 2)⟩,
    ⟨some 20, none, .mov (.t 0)⟩,
    ⟨some 21, none, .conv .u8 (.t 20)⟩,
    ⟨some 22, none, .idxStr (.c (.string lenTab)) (.t 21)⟩,
    ⟨some 23, none, .conv .i64 (.t 22)⟩,
    ⟨some 24, none, .bin .add (.t 19) (.t 23)⟩,
    ⟨some 2, none, .mov (.t 24)⟩]
    [2])
  .ret)))))⟩

def RB.slices_siftDownCmpFunc_local_entry_1 : RCode :=
  (.block 1
    (.seq (.region [⟨some 13, none, .mov (.t 10)⟩,
      ⟨some 14, none, .bin .mul (.c (.int .i64 2)) (.t 13)⟩,
      ⟨some 15, none, .bin .add (.t 14) (.c (.int .i64 1))⟩,
      ⟨some 11, none, .mov (.t 15)⟩]
      [0, 2, 3, 4, 10, 11])
    (.seq (.seq (.region [⟨some 16, none, .mov (.t 11)⟩,
      ⟨some 17, none, .mov (.t 2)⟩,
      ⟨some 18, none, .bin .geq (.t 16) (.t 17)⟩]
      [0, 2, 3, 4, 10, 11, 18])
    (.cond (.t 18)
      (.exit 0)
      .skip))
    (.seq (.seq (.drawn [⟨some 19, none, .mov (.t 11)⟩,
      ⟨some 20, none, .bin .add (.t 19) (.c (.int .i64 1))⟩,
      ⟨some 21, none, .mov (.t 2)⟩,
      ⟨some 22, none, .bin .lss (.t 20) (.t 21)⟩,
      ⟨some 23, none, .mov (.t 22)⟩,
      ⟨some 24, some (23, true), .mov (.t 4)⟩,
      ⟨some 25, some (23, true), .mov (.t 0)⟩,
      ⟨some 26, some (23, true), .mov (.t 3)⟩,
      ⟨some 27, some (23, true), .mov (.t 11)⟩,
      ⟨some 28, some (23, true), .bin .add (.t 26) (.t 27)⟩,
      ⟨some 29, some (23, true), .idxS 3 (.t 25) (.t 28)⟩,
      ⟨some 30, some (23, true), .load true 3 (.t 29)⟩,
      ⟨some 31, some (23, true), .mov (.t 0)⟩,
      ⟨some 32, some (23, true), .mov (.t 3)⟩,
      ⟨some 33, some (23, true), .mov (.t 11)⟩,
      ⟨some 34, some (23, true), .bin .add (.t 32) (.t 33)⟩,
      ⟨some 35, some (23, true), .bin .add (.t 34) (.c (.int .i64 1))⟩,
      ⟨some 36, some (23, true), .idxS 3 (.t 31) (.t 35)⟩,
      ⟨some 37, some (23, true), .load true 3 (.t 36)⟩,
      ⟨some 38, some (23, true), .callv (.t 24) [.t 30, .t 37]⟩,
      ⟨some 39, some (23, true), .bin .lss (.t 38) (.c (.int .i64 0))⟩,
      ⟨some 40, none, .pick (.t 23) (.t 39) (.c (.bool false))⟩]
      [[], [0], [], [1, 2], [3], [4], [4], [4], [4], [7, 8, 4], [6, 9, 4], [10, 4], [4], [4], [4], [13, 14, 4], [15, 4], [12, 16, 4], [17, 4], [5, 11, 18, 4, 4], [19, 4], [4, 20]]
      [(0, []), (1, []), (2, []), (3, []), (4, []), (5, []), (6, []), (7, []), (8, []), (9, []), (10, []), (12, []), (13, []), (14, []), (15, []), (16, []), (17, []), (11, []), (18, []), (19, []), (20, []), (21, [])]
      [[], [0], [], [0, 1, 2], [0, 1, 2, 3], [0, 1, 2, 3, 4], [0, 1, 2, 3, 4], [0, 1, 2, 3, 4], [0, 1, 2, 3, 4], [0, 1, 2, 3, 4, 7, 8], [0, 1, 2, 3, 4, 6, 7, 8, 9], [0, 1, 2, 3, 4, 6, 7, 8, 9, 10], [0, 1, 2, 3, 4], [0, 1, 2, 3, 4], [0, 1, 2, 3, 4], [0, 1, 2, 3, 4, 13, 14], [0, 1, 2, 3, 4, 13, 14, 15], [0, 1, 2, 3, 4, 12, 13, 14, 15, 16], [0, 1, 2, 3, 4, 12, 13, 14, 15, 16, 17], [0, 1, 2, 3, 4, 5, 6, 7, 8, 9, 10, 11, 12, 13, 14, 15, 16, 17, 18], [0, 1, 2, 3, 4, 5, 6, 7, 8, 9, 10, 11, 12, 13, 14, 15, 16, 17, 18, 19], [0, 1, 2, 3, 4, 5, 6, 7, 8, 9, 10, 11, 12, 13, 14, 15, 16, 17, 18, 19, 20]]
      [0, 2, 3, 4, 10, 11, 40])
    (.cond (.t 40)
      (.region [⟨some 41, none, .mov (.t 11)⟩,
        ⟨some 42, none, .bin .add (.t 41) (.c (.int .i64 1))⟩,
        ⟨some 11, none, .mov (.t 42)⟩]
        [0, 2, 3, 4, 10, 11])
      .skip))
    (.seq (.seq (.drawn [⟨some 43, none, .mov (.t 4)⟩,
      ⟨some 44, none, .mov (.t 0)⟩,
      ⟨some 45, none, .mov (.t 3)⟩,
      ⟨some 46, none, .mov (.t 10)⟩,
      ⟨some 47, none, .bin .add (.t 45) (.t 46)⟩,
      ⟨some 48, none, .idxS 3 (.t 44) (.t 47)⟩,
      ⟨some 49, none, .load true 3 (.t 48)⟩,
      ⟨some 50, none, .mov (.t 0)⟩,
      ⟨some 51, none, .mov (.t 3)⟩,
      ⟨some 52, none, .mov (.t 11)⟩,
      ⟨some 53, none, .bin .add (.t 51) (.t 52)⟩,
      ⟨some 54, none, .idxS 3 (.t 50) (.t 53)⟩,
      ⟨some 55, none, .load true 3 (.t 54)⟩,
      ⟨some 56, none, .callv (.t 43) [.t 49, .t 55]⟩,
      ⟨some 57, none, .bin .lss (.t 56) (.c (.int .i64 0))⟩,
      ⟨some 58, none, .un .not (.t 57)⟩]
      [[], [], [], [], [2, 3], [1, 4], [5], [], [], [], [8, 9], [7, 10], [11], [0, 6, 12], [13], [14]]
      [(0, []), (1, []), (2, []), (3, []), (4, []), (5, []), (7, []), (8, []), (9, []), (10, []), (11, []), (6, []), (12, []), (13, []), (14, []), (15, [])]
      [[], [], [], [], [2, 3], [1, 2, 3, 4], [1, 2, 3, 4, 5], [], [], [], [8, 9], [7, 8, 9, 10], [7, 8, 9, 10, 11], [0, 1, 2, 3, 4, 5, 6, 7, 8, 9, 10, 11, 12], [0, 1, 2, 3, 4, 5, 6, 7, 8, 9, 10, 11, 12, 13], [0, 1, 2, 3, 4, 5, 6, 7, 8, 9, 10, 11, 12, 13, 14]]
      [0, 2, 3, 4, 10, 11, 58])
    (.cond (.t 58)
      .ret
      .skip))
    (.seq (.drawn [⟨some 59, none, .mov (.t 0)⟩,
      ⟨some 60, none, .mov (.t 3)⟩,
      ⟨some 61, none, .mov (.t 10)⟩,
      ⟨some 62, none, .bin .add (.t 60) (.t 61)⟩,
      ⟨some 63, none, .mov (.t 0)⟩,
      ⟨some 64, none, .mov (.t 3)⟩,
      ⟨some 65, none, .mov (.t 11)⟩,
      ⟨some 66, none, .bin .add (.t 64) (.t 65)⟩,
      ⟨some 67, none, .mov (.t 0)⟩,
      ⟨some 68, none, .mov (.t 3)⟩,
      ⟨some 69, none, .mov (.t 11)⟩,
      ⟨some 70, none, .bin .add (.t 68) (.t 69)⟩,
      ⟨some 71, none, .idxS 3 (.t 67) (.t 70)⟩,
      ⟨some 72, none, .load true 3 (.t 71)⟩,
      ⟨some 73, none, .mov (.t 0)⟩,
      ⟨some 74, none, .mov (.t 3)⟩,
      ⟨some 75, none, .mov (.t 10)⟩,
      ⟨some 76, none, .bin .add (.t 74) (.t 75)⟩,
      ⟨some 77, none, .idxS 3 (.t 73) (.t 76)⟩,
      ⟨some 78, none, .load true 3 (.t 77)⟩,
      ⟨some 79, none, .idxS 3 (.t 59) (.t 62)⟩,
      ⟨none, none, .store 3 (.t 79) (.t 72)⟩,
      ⟨some 80, none, .idxS 3 (.t 63) (.t 66)⟩,
      ⟨none, none, .store 3 (.t 80) (.t 78)⟩]
      [[], [], [], [1, 2], [], [], [], [5, 6], [], [], [], [9, 10], [8, 11], [12], [], [], [], [15, 16], [14, 17], [18], [0, 3, 0, 1, 2, 3, 8, 9, 10, 11, 12, 13, 19], [20, 13, 0, 1, 2, 3, 8, 9, 10, 11, 12, 13, 19], [4, 7, 0, 1, 2, 3, 4, 5, 6, 7, 8, 9, 10, 11, 12, 13, 14, 15, 16, 17, 18, 19, 20, 21], [22, 19, 21, 0, 1, 2, 3, 4, 5, 6, 7, 8, 9, 10, 11, 12, 13, 14, 15, 16, 17, 18, 19, 20, 21]]
      [(0, []), (1, []), (2, []), (3, []), (4, []), (5, []), (6, []), (7, []), (8, []), (9, []), (10, []), (11, []), (12, []), (14, []), (15, []), (16, []), (17, []), (18, []), (13, []), (19, []), (20, []), (21, []), (22, []), (23, [])]
      [[], [], [], [1, 2], [], [], [], [5, 6], [], [], [], [9, 10], [8, 9, 10, 11], [8, 9, 10, 11, 12], [], [], [], [15, 16], [14, 15, 16, 17], [14, 15, 16, 17, 18], [0, 1, 2, 3, 8, 9, 10, 11, 12, 13, 14, 15, 16, 17, 18, 19], [0, 1, 2, 3, 8, 9, 10, 11, 12, 13, 14, 15, 16, 17, 18, 19, 20], [0, 1, 2, 3, 4, 5, 6, 7, 8, 9, 10, 11, 12, 13, 14, 15, 16, 17, 18, 19, 20, 21], [0, 1, 2, 3, 4, 5, 6, 7, 8, 9, 10, 11, 12, 13, 14, 15, 16, 17, 18, 19, 20, 21, 22]]
      [0, 2, 3, 4, 11])
    (.region [⟨some 81, none, .mov (.t 11)⟩,
      ⟨some 10, none, .mov (.t 81)⟩]
      [0, 2, 3, 4, 10])))))) [0, 2, 3, 4, 10])
def RC.slices_siftDownCmpFunc_local_entry : RFn := ⟨5, [],
  (.seq (.region [⟨some 12, none, .mov (.t 1)⟩,
    ⟨some 10, none, .mov (.t 12)⟩]
    [0, 2, 3, 4, 10])
  (.block 0
    (.loop [0, 2, 3, 4, 10] RB.slices_siftDownCmpFunc_local_entry_1) []))⟩

def RC.slices_nextPowerOfTwo : RFn := ⟨1, [.slot 2],
  (.seq (.region [⟨some 2, none, .mov (.c (u64 0#64))⟩]
    [0])
  (.seq (.region [⟨some 3, none, .mov (.t 0)⟩,
    ⟨some 4, none, .conv .u64 (.t 3)⟩,
    ⟨some 5, none, .call F.math_bits_Len [.t 4]⟩,
    ⟨some 6, none, .bin .shl (.c (u64 1#64)) (.t 5)⟩,
    ⟨some 2, none, .mov (.t 6)⟩]
    [2])
  .ret))⟩

def RC.slices_xorshift_Next : RFn := ⟨1, [.slot 2],
  (.seq (.region [⟨some 2, none, .mov (.c (u64 0#64))⟩]
    [0])
  (.seq (.drawn [⟨some 3, none, .mov (.t 0)⟩,
    ⟨some 4, none, .nilchk (.t 3)⟩,
    ⟨some 5, none, .load false 1 (.t 4)⟩,
    ⟨some 6, none, .mov (.t 0)⟩,
    ⟨some 7, none, .nilchk (.t 6)⟩,
    ⟨some 8, none, .load false 1 (.t 7)⟩,
    ⟨some 9, none, .bin .shl (.t 8) (.c (u64 13#64))⟩,
    ⟨some 10, none, .bin .xor (.t 5) (.t 9)⟩,
    ⟨some 11, none, .nilchk (.t 3)⟩,
    ⟨none, none, .store 1 (.t 11) (.t 10)⟩]
    [[], [0], [1], [], [3], [4], [5], [2, 6], [0, 0, 1, 2, 3, 4, 5, 6, 7], [8, 7, 0, 1, 2, 3, 4, 5, 6, 7]]
    [(0, []), (1, []), (3, []), (4, []), (2, []), (5, []), (6, []), (7, []), (8, []), (9, [])]
    [[], [0], [0, 1], [], [3], [3, 4], [3, 4, 5], [0, 1, 2, 3, 4, 5, 6], [0, 1, 2, 3, 4, 5, 6, 7], [0, 1, 2, 3, 4, 5, 6, 7, 8]]
    [0])
  (.seq (.drawn [⟨some 12, none, .mov (.t 0)⟩,
    ⟨some 13, none, .nilchk (.t 12)⟩,
    ⟨some 14, none, .load false 1 (.t 13)⟩,
    ⟨some 15, none, .mov (.t 0)⟩,
    ⟨some 16, none, .nilchk (.t 15)⟩,
    ⟨some 17, none, .load false 1 (.t 16)⟩,
    ⟨some 18, none, .bin .shr (.t 17) (.c (u64 7#64))⟩,
    ⟨some 19, none, .bin .xor (.t 14) (.t 18)⟩,
    ⟨some 20, none, .nilchk (.t 12)⟩,
    ⟨none, none, .store 1 (.t 20) (.t 19)⟩]
    [[], [0], [1], [], [3], [4], [5], [2, 6], [0, 0, 1, 2, 3, 4, 5, 6, 7], [8, 7, 0, 1, 2, 3, 4, 5, 6, 7]]
    [(0, []), (1, []), (3, []), (4, []), (2, []), (5, []), (6, []), (7, []), (8, []), (9, [])]
    [[], [0], [0, 1], [], [3], [3, 4], [3, 4, 5], [0, 1, 2, 3, 4, 5, 6], [0, 1, 2, 3, 4, 5, 6, 7], [0, 1, 2, 3, 4, 5, 6, 7, 8]]
    [0])
  (.seq (.drawn [⟨some 21, none, .mov (.t 0)⟩,
    ⟨some 22, none, .nilchk (.t 21)⟩,
    ⟨some 23, none, .load false 1 (.t 22)⟩,
    ⟨some 24, none, .mov (.t 0)⟩,
    ⟨some 25, none, .nilchk (.t 24)⟩,
    ⟨some 26, none, .load false 1 (.t 25)⟩,
    ⟨some 27, none, .bin .shl (.t 26) (.c (u64 17#64))⟩,
    ⟨some 28, none, .bin .xor (.t 23) (.t 27)⟩,
    ⟨some 29, none, .nilchk (.t 21)⟩,
    ⟨none, none, .store 1 (.t 29) (.t 28)⟩]
    [[], [0], [1], [], [3], [4], [5], [2, 6], [0, 0, 1, 2, 3, 4, 5, 6, 7], [8, 7, 0, 1, 2, 3, 4, 5, 6, 7]]
    [(0, []), (1, []), (3, []), (4, []), (2, []), (5, []), (6, []), (7, []), (8, []), (9, [])]
    [[], [0], [0, 1], [], [3], [3, 4], [3, 4, 5], [0, 1, 2, 3, 4, 5, 6], [0, 1, 2, 3, 4, 5, 6, 7], [0, 1, 2, 3, 4, 5, 6, 7, 8]]
    [0])
  (.seq (.region [⟨some 30, none, .mov (.t 0)⟩,
    ⟨some 31, none, .nilchk (.t 30)⟩,
    ⟨some 32, none, .load false 1 (.t 31)⟩,
    ⟨some 2, none, .mov (.t 32)⟩]
    [2])
  .ret)))))⟩

def RC.slices_medianAdjacentCmpFunc_local_entry : RFn := ⟨4, [.slot 8],
  (.seq (.region [⟨some 8, none, .mov (.c (.int .i64 0))⟩]
    [0, 1, 2, 3])
  (.seq (.region [⟨some 9, none, .mov (.t 0)⟩,
    ⟨some 10, none, .mov (.t 1)⟩,
    ⟨some 11, none, .bin .sub (.t 10) (.c (.int .i64 1))⟩,
    ⟨some 12, none, .mov (.t 1)⟩,
    ⟨some 13, none, .mov (.t 1)⟩,
    ⟨some 14, none, .bin .add (.t 13) (.c (.int .i64 1))⟩,
    ⟨some 15, none, .mov (.t 2)⟩,
    ⟨some 16, none, .mov (.t 3)⟩,
    ⟨some 17, none, .call F.slices_medianCmpFunc_local_entry [.t 9, .t 11, .t 12, .t 14, .t 15, .t 16]⟩,
    ⟨some 8, none, .mov (.t 17)⟩]
    [8])
  .ret))⟩

def RC.slices_medianCmpFunc_local_entry : RFn := ⟨6, [.slot 12],
  (.seq (.region [⟨some 12, none, .mov (.c (.int .i64 0))⟩]
    [0, 1, 2, 3, 4, 5])
  (.seq (.region [⟨some 14, none, .mov (.t 0)⟩,
    ⟨some 15, none, .mov (.t 1)⟩,
    ⟨some 16, none, .mov (.t 2)⟩,
    ⟨some 17, none, .mov (.t 4)⟩,
    ⟨some 18, none, .mov (.t 5)⟩,
    ⟨some 19, none, .call F.slices_order2CmpFunc_local_entry [.t 14, .t 15, .t 16, .t 17, .t 18]⟩,
    ⟨some 13, none, .mov (.t 19)⟩,
    ⟨some 20, none, .ext 0 (.t 13)⟩,
    ⟨some 21, none, .ext 1 (.t 13)⟩,
    ⟨some 1, none, .mov (.t 20)⟩,
    ⟨some 2, none, .mov (.t 21)⟩]
    [0, 1, 2, 3, 4, 5])
  (.seq (.region [⟨some 23, none, .mov (.t 0)⟩,
    ⟨some 24, none, .mov (.t 2)⟩,
    ⟨some 25, none, .mov (.t 3)⟩,
    ⟨some 26, none, .mov (.t 4)⟩,
    ⟨some 27, none, .mov (.t 5)⟩,
    ⟨some 28, none, .call F.slices_order2CmpFunc_local_entry [.t 23, .t 24, .t 25, .t 26, .t 27]⟩,
    ⟨some 22, none, .mov (.t 28)⟩,
    ⟨some 29, none, .ext 0 (.t 22)⟩,
    ⟨some 30, none, .ext 1 (.t 22)⟩,
    ⟨some 2, none, .mov (.t 29)⟩,
    ⟨some 3, none, .mov (.t 30)⟩]
    [0, 1, 2, 4, 5])
  (.seq (.region [⟨some 32, none, .mov (.t 0)⟩,
    ⟨some 33, none, .mov (.t 1)⟩,
    ⟨some 34, none, .mov (.t 2)⟩,
    ⟨some 35, none, .mov (.t 4)⟩,
    ⟨some 36, none, .mov (.t 5)⟩,
    ⟨some 37, none, .call F.slices_order2CmpFunc_local_entry [.t 32, .t 33, .t 34, .t 35, .t 36]⟩,
    ⟨some 31, none, .mov (.t 37)⟩,
    ⟨some 38, none, .ext 0 (.t 31)⟩,
    ⟨some 39, none, .ext 1 (.t 31)⟩,
    ⟨some 1, none, .mov (.t 38)⟩,
    ⟨some 2, none, .mov (.t 39)⟩]
    [2])
  (.seq (.region [⟨some 40, none, .mov (.t 2)⟩,
    ⟨some 12, none, .mov (.t 40)⟩]
    [12])
  .ret)))))⟩

def RC.slices_order2CmpFunc_local_entry : RFn := ⟨5, [.slot 10, .slot 11],
  (.seq (.region [⟨some 10, none, .mov (.c (.int .i64 0))⟩,
    ⟨some 11, none, .mov (.c (.int .i64 0))⟩]
    [0, 1, 2, 3, 4])
  (.seq (.seq (.drawn [⟨some 12, none, .mov (.t 4)⟩,
    ⟨some 13, none, .mov (.t 0)⟩,
    ⟨some 14, none, .mov (.t 2)⟩,
    ⟨some 15, none, .idxS 3 (.t 13) (.t 14)⟩,
    ⟨some 16, none, .load true 3 (.t 15)⟩,
    ⟨some 17, none, .mov (.t 0)⟩,
    ⟨some 18, none, .mov (.t 1)⟩,
    ⟨some 19, none, .idxS 3 (.t 17) (.t 18)⟩,
    ⟨some 20, none, .load true 3 (.t 19)⟩,
    ⟨some 21, none, .callv (.t 12) [.t 16, .t 20]⟩,
    ⟨some 22, none, .bin .lss (.t 21) (.c (.int .i64 0))⟩]
    [[], [], [], [1, 2], [3], [], [], [5, 6], [7], [0, 4, 8], [9]]
    [(0, []), (1, []), (2, []), (3, []), (5, []), (6, []), (7, []), (4, []), (8, []), (9, []), (10, [])]
    [[], [], [], [1, 2], [1, 2, 3], [], [], [5, 6], [5, 6, 7], [0, 1, 2, 3, 4, 5, 6, 7, 8], [0, 1, 2, 3, 4, 5, 6, 7, 8, 9]]
    [1, 2, 3, 22])
  (.cond (.t 22)
    (.seq (.region [⟨some 23, none, .mov (.t 3)⟩,
      ⟨some 24, none, .nilchk (.t 23)⟩,
      ⟨some 25, none, .load false 1 (.t 24)⟩,
      ⟨some 26, none, .bin .add (.t 25) (.c (.int .i64 1))⟩,
      ⟨some 27, none, .nilchk (.t 23)⟩,
      ⟨none, none, .store 1 (.t 27) (.t 26)⟩]
      [1, 2])
    (.seq (.region [⟨some 28, none, .mov (.t 2)⟩,
      ⟨some 29, none, .mov (.t 1)⟩,
      ⟨some 10, none, .mov (.t 28)⟩,
      ⟨some 11, none, .mov (.t 29)⟩]
      [10, 11])
    .ret))
    .skip))
  (.seq (.region [⟨some 30, none, .mov (.t 1)⟩,
    ⟨some 31, none, .mov (.t 2)⟩,
    ⟨some 10, none, .mov (.t 30)⟩,
    ⟨some 11, none, .mov (.t 31)⟩]
    [10, 11])
  .ret)))⟩

def tab0 : List (Nat × FEnt) := [(F.law15_LocalPromised, .rc RC.law15_LocalPromised),
  (F.law15_LocalJust, .rc RC.law15_LocalJust),
  (F.law15_LocalRest, .rc RC.law15_LocalRest),
  (F.law15_LocalPlays, .rc RC.law15_LocalPlays),
  (F.law15_made, .rc RC.law15_made),
  (F.ref15_Check, .rc RC.ref15_Check),
  (F.law15_awake, .rc RC.law15_awake),
  (F.local_Local_Total, .rc RC.local_Local_Total),
  (F.local_Local_Pick, .rc RC.local_Local_Pick),
  (F.local_Local_Got, .rc RC.local_Local_Got),
  (F.local_New, .rc RC.local_New),
  (F.ref15_New, .rc RC.ref15_New),
  (F.ref15_Pick, .rc RC.ref15_Pick),
  (F.local_Local_Begin, .rc RC.local_Local_Begin),
  (F.ref15_Begin, .rc RC.ref15_Begin),
  (F.ref15_Drop, .rc RC.ref15_Drop),
  (F.local_Local_Drop, .rc RC.local_Local_Drop),
  (F.ref08_Total, .rc RC.ref08_Total),
  (F.ref08_Same, .rc RC.ref08_Same),
  (F.local_Local_Wants, .rc RC.local_Local_Wants),
  (F.ref08_Check, .rc RC.ref08_Check),
  (F.order_Total, .rc RC.order_Total),
  (F.slices_Contains_int_int, .rc RC.slices_Contains_int_int),
  (F.local_ahead, .rc RC.local_ahead),
  (F.local_Local_find, .rc RC.local_Local_find),
  (F.order_Check, .rc RC.order_Check),
  (F.slices_SortFunc_local_entry_local_entry, .rc RC.slices_SortFunc_local_entry_local_entry),
  (F.local_New_1, .rc RC.local_New_1),
  (F.cmp_Compare_int, .rc RC.cmp_Compare_int),
  (F.ref15_Next, .rc RC.ref15_Next),
  (F.slices_Delete_local_entry_local_entry, .rc RC.slices_Delete_local_entry_local_entry),
  (F.ref02_Add, .rc RC.ref02_Add),
  (F.ref08_Is, .rc RC.ref08_Is),
  (F.fixq_Add, .rc RC.fixq_Add),
  (F.slices_Index_int_int, .rc RC.slices_Index_int_int),
  (F.fixq_Compare, .rc RC.fixq_Compare),
  (F.slices_IndexFunc_local_entry_local_entry, .rc RC.slices_IndexFunc_local_entry_local_entry),
  (F.local_Local_find_1, .rc RC.local_Local_find_1),
  (F.order_Kind, .rc RC.order_Kind),
  (F.slices_pdqsortCmpFunc_local_entry, .rc RC.slices_pdqsortCmpFunc_local_entry),
  (F.math_bits_Len, .rc RC.math_bits_Len),
  (F.cmp_isNaN_int, .rc RC.cmp_isNaN_int),
  (F.ref15_Has, .rc RC.ref15_Has),
  (F.math_bits_Mul64, .rc RC.math_bits_Mul64),
  (F.slices_insertionSortCmpFunc_local_entry, .rc RC.slices_insertionSortCmpFunc_local_entry),
  (F.slices_heapSortCmpFunc_local_entry, .rc RC.slices_heapSortCmpFunc_local_entry),
  (F.slices_breakPatternsCmpFunc_local_entry, .rc RC.slices_breakPatternsCmpFunc_local_entry),
  (F.slices_choosePivotCmpFunc_local_entry, .rc RC.slices_choosePivotCmpFunc_local_entry),
  (F.slices_reverseRangeCmpFunc_local_entry, .rc RC.slices_reverseRangeCmpFunc_local_entry),
  (F.slices_partialInsertionSortCmpFunc_local_entry, .rc RC.slices_partialInsertionSortCmpFunc_local_entry),
  (F.slices_partitionEqualCmpFunc_local_entry, .rc RC.slices_partitionEqualCmpFunc_local_entry),
  (F.slices_partitionCmpFunc_local_entry, .rc RC.slices_partitionCmpFunc_local_entry),
  (F.math_bits_Len32, .rc RC.math_bits_Len32),
  (F.math_bits_Len64, .rc RC.math_bits_Len64),
  (F.slices_siftDownCmpFunc_local_entry, .rc RC.slices_siftDownCmpFunc_local_entry),
  (F.slices_nextPowerOfTwo, .rc RC.slices_nextPowerOfTwo),
  (F.slices_xorshift_Next, .rc RC.slices_xorshift_Next),
  (F.slices_medianAdjacentCmpFunc_local_entry, .rc RC.slices_medianAdjacentCmpFunc_local_entry),
  (F.slices_medianCmpFunc_local_entry, .rc RC.slices_medianCmpFunc_local_entry),
  (F.slices_order2CmpFunc_local_entry, .rc RC.slices_order2CmpFunc_local_entry)]
/-- What each number stands for. -/
def R0 : Nat → Option FEnt := lookF tab0
/-- The same, with the examples as known. -/
def tab : List (Nat × FEnt) := (F.law15_awake, .ext X.ok) :: tab0
def R : Nat → Option FEnt := lookF tab
theorem R.law15_awake : R F.law15_awake = some (.ext X.ok) := by with_unfolding_all rfl
theorem R.law15_LocalPromised : R F.law15_LocalPromised = some (.rc RC.law15_LocalPromised) := by with_unfolding_all rfl
theorem R.law15_LocalJust : R F.law15_LocalJust = some (.rc RC.law15_LocalJust) := by with_unfolding_all rfl
theorem R.law15_LocalRest : R F.law15_LocalRest = some (.rc RC.law15_LocalRest) := by with_unfolding_all rfl
theorem R.law15_LocalPlays : R F.law15_LocalPlays = some (.rc RC.law15_LocalPlays) := by with_unfolding_all rfl
theorem R.law15_made : R F.law15_made = some (.rc RC.law15_made) := by with_unfolding_all rfl
theorem R.ref15_Check : R F.ref15_Check = some (.rc RC.ref15_Check) := by with_unfolding_all rfl
theorem R.local_Local_Total : R F.local_Local_Total = some (.rc RC.local_Local_Total) := by with_unfolding_all rfl
theorem R.local_Local_Pick : R F.local_Local_Pick = some (.rc RC.local_Local_Pick) := by with_unfolding_all rfl
theorem R.local_Local_Got : R F.local_Local_Got = some (.rc RC.local_Local_Got) := by with_unfolding_all rfl
theorem R.local_New : R F.local_New = some (.rc RC.local_New) := by with_unfolding_all rfl
theorem R.ref15_New : R F.ref15_New = some (.rc RC.ref15_New) := by with_unfolding_all rfl
theorem R.ref15_Pick : R F.ref15_Pick = some (.rc RC.ref15_Pick) := by with_unfolding_all rfl
theorem R.local_Local_Begin : R F.local_Local_Begin = some (.rc RC.local_Local_Begin) := by with_unfolding_all rfl
theorem R.ref15_Begin : R F.ref15_Begin = some (.rc RC.ref15_Begin) := by with_unfolding_all rfl
theorem R.ref15_Drop : R F.ref15_Drop = some (.rc RC.ref15_Drop) := by with_unfolding_all rfl
theorem R.local_Local_Drop : R F.local_Local_Drop = some (.rc RC.local_Local_Drop) := by with_unfolding_all rfl
theorem R.ref08_Total : R F.ref08_Total = some (.rc RC.ref08_Total) := by with_unfolding_all rfl
theorem R.ref08_Same : R F.ref08_Same = some (.rc RC.ref08_Same) := by with_unfolding_all rfl
theorem R.local_Local_Wants : R F.local_Local_Wants = some (.rc RC.local_Local_Wants) := by with_unfolding_all rfl
theorem R.ref08_Check : R F.ref08_Check = some (.rc RC.ref08_Check) := by with_unfolding_all rfl
theorem R.order_Total : R F.order_Total = some (.rc RC.order_Total) := by with_unfolding_all rfl
theorem R.slices_Contains_int_int : R F.slices_Contains_int_int = some (.rc RC.slices_Contains_int_int) := by with_unfolding_all rfl
theorem R.local_ahead : R F.local_ahead = some (.rc RC.local_ahead) := by with_unfolding_all rfl
theorem R.local_Local_find : R F.local_Local_find = some (.rc RC.local_Local_find) := by with_unfolding_all rfl
theorem R.order_Check : R F.order_Check = some (.rc RC.order_Check) := by with_unfolding_all rfl
theorem R.slices_SortFunc_local_entry_local_entry : R F.slices_SortFunc_local_entry_local_entry = some (.rc RC.slices_SortFunc_local_entry_local_entry) := by with_unfolding_all rfl
theorem R.local_New_1 : R F.local_New_1 = some (.rc RC.local_New_1) := by with_unfolding_all rfl
theorem R.cmp_Compare_int : R F.cmp_Compare_int = some (.rc RC.cmp_Compare_int) := by with_unfolding_all rfl
theorem R.ref15_Next : R F.ref15_Next = some (.rc RC.ref15_Next) := by with_unfolding_all rfl
theorem R.slices_Delete_local_entry_local_entry : R F.slices_Delete_local_entry_local_entry = some (.rc RC.slices_Delete_local_entry_local_entry) := by with_unfolding_all rfl
theorem R.ref02_Add : R F.ref02_Add = some (.rc RC.ref02_Add) := by with_unfolding_all rfl
theorem R.ref08_Is : R F.ref08_Is = some (.rc RC.ref08_Is) := by with_unfolding_all rfl
theorem R.fixq_Add : R F.fixq_Add = some (.rc RC.fixq_Add) := by with_unfolding_all rfl
theorem R.slices_Index_int_int : R F.slices_Index_int_int = some (.rc RC.slices_Index_int_int) := by with_unfolding_all rfl
theorem R.fixq_Compare : R F.fixq_Compare = some (.rc RC.fixq_Compare) := by with_unfolding_all rfl
theorem R.slices_IndexFunc_local_entry_local_entry : R F.slices_IndexFunc_local_entry_local_entry = some (.rc RC.slices_IndexFunc_local_entry_local_entry) := by with_unfolding_all rfl
theorem R.local_Local_find_1 : R F.local_Local_find_1 = some (.rc RC.local_Local_find_1) := by with_unfolding_all rfl
theorem R.order_Kind : R F.order_Kind = some (.rc RC.order_Kind) := by with_unfolding_all rfl
theorem R.slices_pdqsortCmpFunc_local_entry : R F.slices_pdqsortCmpFunc_local_entry = some (.rc RC.slices_pdqsortCmpFunc_local_entry) := by with_unfolding_all rfl
theorem R.math_bits_Len : R F.math_bits_Len = some (.rc RC.math_bits_Len) := by with_unfolding_all rfl
theorem R.cmp_isNaN_int : R F.cmp_isNaN_int = some (.rc RC.cmp_isNaN_int) := by with_unfolding_all rfl
theorem R.ref15_Has : R F.ref15_Has = some (.rc RC.ref15_Has) := by with_unfolding_all rfl
theorem R.math_bits_Mul64 : R F.math_bits_Mul64 = some (.rc RC.math_bits_Mul64) := by with_unfolding_all rfl
theorem R.slices_insertionSortCmpFunc_local_entry : R F.slices_insertionSortCmpFunc_local_entry = some (.rc RC.slices_insertionSortCmpFunc_local_entry) := by with_unfolding_all rfl
theorem R.slices_heapSortCmpFunc_local_entry : R F.slices_heapSortCmpFunc_local_entry = some (.rc RC.slices_heapSortCmpFunc_local_entry) := by with_unfolding_all rfl
theorem R.slices_breakPatternsCmpFunc_local_entry : R F.slices_breakPatternsCmpFunc_local_entry = some (.rc RC.slices_breakPatternsCmpFunc_local_entry) := by with_unfolding_all rfl
theorem R.slices_choosePivotCmpFunc_local_entry : R F.slices_choosePivotCmpFunc_local_entry = some (.rc RC.slices_choosePivotCmpFunc_local_entry) := by with_unfolding_all rfl
theorem R.slices_reverseRangeCmpFunc_local_entry : R F.slices_reverseRangeCmpFunc_local_entry = some (.rc RC.slices_reverseRangeCmpFunc_local_entry) := by with_unfolding_all rfl
theorem R.slices_partialInsertionSortCmpFunc_local_entry : R F.slices_partialInsertionSortCmpFunc_local_entry = some (.rc RC.slices_partialInsertionSortCmpFunc_local_entry) := by with_unfolding_all rfl
theorem R.slices_partitionEqualCmpFunc_local_entry : R F.slices_partitionEqualCmpFunc_local_entry = some (.rc RC.slices_partitionEqualCmpFunc_local_entry) := by with_unfolding_all rfl
theorem R.slices_partitionCmpFunc_local_entry : R F.slices_partitionCmpFunc_local_entry = some (.rc RC.slices_partitionCmpFunc_local_entry) := by with_unfolding_all rfl
theorem R.math_bits_Len32 : R F.math_bits_Len32 = some (.rc RC.math_bits_Len32) := by with_unfolding_all rfl
theorem R.math_bits_Len64 : R F.math_bits_Len64 = some (.rc RC.math_bits_Len64) := by with_unfolding_all rfl
theorem R.slices_siftDownCmpFunc_local_entry : R F.slices_siftDownCmpFunc_local_entry = some (.rc RC.slices_siftDownCmpFunc_local_entry) := by with_unfolding_all rfl
theorem R.slices_nextPowerOfTwo : R F.slices_nextPowerOfTwo = some (.rc RC.slices_nextPowerOfTwo) := by with_unfolding_all rfl
theorem R.slices_xorshift_Next : R F.slices_xorshift_Next = some (.rc RC.slices_xorshift_Next) := by with_unfolding_all rfl
theorem R.slices_medianAdjacentCmpFunc_local_entry : R F.slices_medianAdjacentCmpFunc_local_entry = some (.rc RC.slices_medianAdjacentCmpFunc_local_entry) := by with_unfolding_all rfl
theorem R.slices_medianCmpFunc_local_entry : R F.slices_medianCmpFunc_local_entry = some (.rc RC.slices_medianCmpFunc_local_entry) := by with_unfolding_all rfl
theorem R.slices_order2CmpFunc_local_entry : R F.slices_order2CmpFunc_local_entry = some (.rc RC.slices_order2CmpFunc_local_entry) := by with_unfolding_all rfl
end Go.Am
