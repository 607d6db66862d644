/- Parts of the proofs of the statements of this seat: AmTabStage. No conditions. -/
import Derived.Test.YtpmibdpnhbbblaaStageNobodyPart3
set_option linter.unusedVariables false
set_option linter.unusedSimpArgs false

/- The functions of the layer stage in the form of the abstract machine. Printed by amgen.py. -/
set_option linter.unusedVariables false
namespace Go.Am

@[irreducible] def F.law26_StageNobody : Nat := 4
@[irreducible] def F.stage_New : Nat := 5
@[irreducible] def F.stage_Stage_Staged : Nat := 6
@[irreducible] def F.stage_Stage_Active : Nat := 8
@[irreducible] def F.stage_Stage_Set : Nat := 9
@[irreducible] def F.ref16_Same : Nat := 10
@[irreducible] def F.stage_Stage_Turn : Nat := 11
@[irreducible] def F.law26_awake : Nat := 12
@[irreducible] def F.law26_one : Nat := 13
@[irreducible] def F.stage_Stage_Cut : Nat := 14
@[irreducible] def F.stage_Stage_Fresh : Nat := 15
@[irreducible] def F.stage_Stage_Turns : Nat := 16
@[irreducible] def F.plan_Check : Nat := 17
@[irreducible] def F.stage_Stage_none : Nat := 18
@[irreducible] def F.stage_own : Nat := 19
@[irreducible] def F.ref16_SamePlace : Nat := 20
@[irreducible] def F.diff_Moved : Nat := 21
@[irreducible] def F.plan_Find : Nat := 22
@[irreducible] def F.plan_Drop : Nat := 23
@[irreducible] def F.plan_Same : Nat := 24
@[irreducible] def F.plan_place : Nat := 25
@[irreducible] def F.plan_apart : Nat := 26
@[irreducible] def F.plan_Splits : Nat := 27
@[irreducible] def F.plan_Cores : Nat := 28
@[irreducible] def F.plan_left : Nat := 29
@[irreducible] def F.diff_some : Nat := 30
@[irreducible] def F.diff_Moved_1 : Nat := 31
@[irreducible] def F.diff_moved : Nat := 32
@[irreducible] def F.plan_find : Nat := 33
@[irreducible] def F.slices_Clone_api_Piece_api_Piece : Nat := 34
@[irreducible] def F.plan_clone : Nat := 35
@[irreducible] def F.slices_Delete_api_Place_api_Place : Nat := 36
@[irreducible] def F.slices_EqualFunc_api_Place_api_Place_api_Place_api_Place : Nat := 37
@[irreducible] def F.plan_SamePlace : Nat := 38
@[irreducible] def F.order_Kind : Nat := 39
@[irreducible] def F.plan_split : Nat := 40
@[irreducible] def F.plan_pieces : Nat := 41
@[irreducible] def F.plan_has : Nat := 42
@[irreducible] def F.mask_Count : Nat := 43
@[irreducible] def F.plan_Windows : Nat := 44
@[irreducible] def F.plan_Wholes : Nat := 45
@[irreducible] def F.diff_places : Nat := 46
@[irreducible] def F.slices_Sorted_int : Nat := 47
@[irreducible] def F.maps_Keys_map_int_api_Place_int_api_Place : Nat := 48
@[irreducible] def F.slices_Sort_int_int : Nat := 49
@[irreducible] def F.slices_DeleteFunc_int_int : Nat := 50
@[irreducible] def F.slices_Compact_int_int : Nat := 51
@[irreducible] def F.diff_some_1 : Nat := 52
@[irreducible] def F.slices_Equal_api_Piece_api_Piece : Nat := 53
@[irreducible] def F.slices_BinarySearchFunc_api_Place_api_Place_int : Nat := 54
@[irreducible] def F.plan_find_1 : Nat := 55
@[irreducible] def F.cmp_Compare_int : Nat := 56
@[irreducible] def F.mask_All : Nat := 57
@[irreducible] def F.math_bits_OnesCount64 : Nat := 58
@[irreducible] def F.maps_Keys_map_int_api_Place_int_api_Place_1 : Nat := 60
@[irreducible] def F.slices_pdqsortOrdered_int : Nat := 61
@[irreducible] def F.math_bits_Len : Nat := 62
@[irreducible] def F.slices_IndexFunc_int_int : Nat := 63
@[irreducible] def F.cmp_isNaN_int : Nat := 64
@[irreducible] def F.mask_frame : Nat := 65
@[irreducible] def F.slices_insertionSortOrdered_int : Nat := 67
@[irreducible] def F.slices_heapSortOrdered_int : Nat := 68
@[irreducible] def F.slices_breakPatternsOrdered_int : Nat := 69
@[irreducible] def F.slices_choosePivotOrdered_int : Nat := 70
@[irreducible] def F.slices_reverseRangeOrdered_int : Nat := 71
@[irreducible] def F.slices_partialInsertionSortOrdered_int : Nat := 72
@[irreducible] def F.cmp_Less_int : Nat := 73
@[irreducible] def F.slices_partitionEqualOrdered_int : Nat := 74
@[irreducible] def F.slices_partitionOrdered_int : Nat := 75
@[irreducible] def F.math_bits_Len32 : Nat := 76
@[irreducible] def F.math_bits_Len64 : Nat := 77
@[irreducible] def F.slices_siftDownOrdered_int : Nat := 78
@[irreducible] def F.slices_nextPowerOfTwo : Nat := 79
@[irreducible] def F.slices_xorshift_Next : Nat := 80
@[irreducible] def F.slices_medianAdjacentOrdered_int : Nat := 81
@[irreducible] def F.slices_medianOrdered_int : Nat := 82
@[irreducible] def F.slices_order2Ordered_int : Nat := 83

def RB.law26_StageNobody_1 : RCode :=
  (.seq (.seq (.region [⟨some 13, none, .mov (.t 7)⟩,
    ⟨some 14, none, .mov (.t 6)⟩,
    ⟨some 15, none, .len (.t 14)⟩,
    ⟨some 16, none, .bin .lss (.t 13) (.t 15)⟩]
    [1, 2, 6, 7, 16])
  (.cond (.t 16)
    .skip
    (.exit 0)))
  (.seq (.block 1
    (.seq (.region [⟨some 19, none, .mov (.t 6)⟩,
      ⟨some 20, none, .mov (.t 7)⟩,
      ⟨some 21, none, .idxS 1 (.t 19) (.t 20)⟩,
      ⟨some 22, none, .load false 1 (.t 21)⟩,
      ⟨some 8, none, .mov (.t 22)⟩]
      [1, 2, 6, 7, 8])
    (.seq (.region [⟨some 23, none, .mov (.t 8)⟩,
      ⟨some 24, none, .call F.law26_one []⟩,
      ⟨some 25, none, .call F.stage_Stage_Set [.t 23, .t 24]⟩,
      ⟨some 26, none, .bin .neq (.t 25) (.c (.int .i64 2))⟩,
      ⟨some 27, none, .mov (.t 26)⟩,
      ⟨some 28, some (27, false), .mov (.t 8)⟩,
      ⟨some 29, some (27, false), .load true 3 (.t 2)⟩,
      ⟨some 30, some (27, false), .call F.stage_Stage_Set [.t 28, .t 29]⟩,
      ⟨some 31, some (27, false), .bin .neq (.t 30) (.c (.int .i64 2))⟩,
      ⟨some 32, none, .pick (.t 27) (.c (.bool true)) (.t 31)⟩,
      ⟨some 33, none, .mov (.t 32)⟩,
      ⟨some 34, some (33, false), .mov (.t 8)⟩,
      ⟨some 35, some (33, false), .mov (.t 1)⟩,
      ⟨some 36, some (33, false), .call F.stage_Stage_Cut [.t 34, .t 35]⟩,
      ⟨some 37, none, .pick (.t 33) (.c (.bool true)) (.t 36)⟩,
      ⟨some 38, none, .mov (.t 37)⟩,
      ⟨some 39, some (38, false), .mov (.t 8)⟩,
      ⟨some 40, some (38, false), .call F.stage_Stage_Turn [.t 39]⟩,
      ⟨some 41, some (38, false), .len (.t 40)⟩,
      ⟨some 42, some (38, false), .bin .neq (.t 41) (.c (.int .i64 0))⟩,
      ⟨some 43, none, .pick (.t 38) (.c (.bool true)) (.t 42)⟩,
      ⟨some 44, none, .mov (.t 43)⟩,
      ⟨some 45, some (44, false), .mov (.t 8)⟩,
      ⟨some 46, some (44, false), .call F.stage_Stage_Active [.t 45]⟩,
      ⟨some 47, some (44, false), .build [(.int .i64 0), (u32 0#32), (.slice none 0 0)] []⟩,
      ⟨some 48, some (44, false), .call F.ref16_Same [.t 46, .t 47]⟩,
      ⟨some 49, some (44, false), .un .not (.t 48)⟩,
      ⟨some 50, none, .pick (.t 44) (.c (.bool true)) (.t 49)⟩,
      ⟨some 51, none, .mov (.t 50)⟩,
      ⟨some 52, some (51, false), .mov (.t 8)⟩,
      ⟨some 53, some (51, false), .call F.stage_Stage_Staged [.t 52]⟩,
      ⟨some 54, some (51, false), .build [(.int .i64 0), (u32 0#32), (.slice none 0 0)] []⟩,
      ⟨some 55, some (51, false), .call F.ref16_Same [.t 53, .t 54]⟩,
      ⟨some 56, some (51, false), .un .not (.t 55)⟩,
      ⟨some 57, none, .pick (.t 51) (.c (.bool true)) (.t 56)⟩,
      ⟨some 58, none, .mov (.t 57)⟩,
      ⟨some 59, some (58, false), .mov (.t 8)⟩,
      ⟨some 60, some (58, false), .call F.stage_Stage_Fresh [.t 59]⟩,
      ⟨some 61, none, .pick (.t 58) (.c (.bool true)) (.t 60)⟩,
      ⟨some 62, none, .mov (.t 61)⟩,
      ⟨some 63, some (62, false), .mov (.t 8)⟩,
      ⟨some 64, some (62, false), .call F.stage_Stage_Turns [.t 63]⟩,
      ⟨some 65, some (62, false), .bin .neq (.t 64) (.c (.int .i64 0))⟩,
      ⟨some 66, none, .pick (.t 62) (.c (.bool true)) (.t 65)⟩]
      [1, 2, 6, 7, 66])
    (.cond (.t 66)
      (.seq (.region [⟨some 4, none, .mov (.c (.bool false))⟩]
        [4])
      .ret)
      .skip))) [1, 2, 6, 7])
  (.region [⟨some 17, none, .mov (.t 7)⟩,
    ⟨some 18, none, .bin .add (.t 17) (.c (.int .i64 1))⟩,
    ⟨some 7, none, .mov (.t 18)⟩]
    [1, 2, 6, 7])))
def RC.law26_StageNobody : RFn := ⟨2, [.slot 4],
  (.seq (.region [⟨some 2, none, .box (.t 0)⟩,
    ⟨some 4, none, .mov (.c (.bool false))⟩]
    [1, 2])
  (.seq (.region [⟨some 5, none, .mov (.c (.pointer none))⟩]
    [1, 2, 5])
  (.seq (.region [⟨some 9, none, .mov (.t 5)⟩,
    ⟨some 10, none, .build [(.int .i64 0), (u32 0#32), (.slice none 0 0), (.int .i64 0), (u32 0#32), (.slice none 0 0), (.int .i64 0)] []⟩,
    ⟨some 11, none, .box (.t 10)⟩,
    ⟨some 12, none, .bslice [(.pointer none), (.pointer none)] [(0, 1, .t 9), (1, 1, .t 11)] 2 1⟩,
    ⟨some 6, none, .mov (.t 12)⟩]
    [1, 2, 6])
  (.seq (.seq (.region [⟨some 7, none, .mov (.c (.int .i64 0))⟩]
    [1, 2, 6, 7])
  (.block 0
    (.loop [1, 2, 6, 7] RB.law26_StageNobody_1) []))
  (.seq (.region [⟨some 67, none, .call F.law26_awake []⟩,
    ⟨some 4, none, .mov (.t 67)⟩]
    [4])
  .ret)))))⟩

def RC.stage_New : RFn := ⟨2, [.slot 4, .slot 5],
  (.seq (.region [⟨some 4, none, .mov (.c (.pointer none))⟩,
    ⟨some 5, none, .mov (.c (.int .i64 0))⟩]
    [0, 1])
  (.seq (.region [⟨some 8, none, .mov (.t 0)⟩,
    ⟨some 9, none, .mov (.t 1)⟩,
    ⟨some 10, none, .build [(.int .i64 0), (u32 0#32), (.slice none 0 0)] [(0, 1, .t 8), (1, 1, .t 9)]⟩,
    ⟨some 6, none, .alloc [(.int .i64 0), (u32 0#32), (.slice none 0 0)]⟩,
    ⟨none, none, .store 3 (.t 6) (.t 10)⟩]
    [6])
  (.seq (.seq (.region [⟨some 11, none, .load true 3 (.t 6)⟩,
    ⟨some 12, none, .call F.plan_Check [.t 11]⟩,
    ⟨some 7, none, .mov (.t 12)⟩]
    [6, 7])
  (.seq (.region [⟨some 13, none, .mov (.t 7)⟩,
    ⟨some 14, none, .bin .neq (.t 13) (.c (.int .i64 0))⟩]
    [6, 7, 14])
  (.cond (.t 14)
    (.seq (.region [⟨some 15, none, .mov (.t 7)⟩,
      ⟨some 4, none, .mov (.c (.pointer none))⟩,
      ⟨some 5, none, .mov (.t 15)⟩]
      [4, 5])
    .ret)
    .skip)))
  (.seq (.region [⟨some 16, none, .load true 3 (.t 6)⟩,
    ⟨some 17, none, .load true 3 (.t 6)⟩,
    ⟨some 18, none, .build [(.int .i64 0), (u32 0#32), (.slice none 0 0), (.int .i64 0), (u32 0#32), (.slice none 0 0), (.int .i64 0)] [(0, 3, .t 16), (3, 3, .t 17)]⟩,
    ⟨some 19, none, .box (.t 18)⟩,
    ⟨some 4, none, .mov (.t 19)⟩,
    ⟨some 5, none, .mov (.c (.int .i64 0))⟩]
    [4, 5])
  .ret))))⟩

def RC.stage_Stage_Staged : RFn := ⟨1, [.cell 2 true 3],
  (.seq (.region [⟨some 2, none, .alloc [(.int .i64 0), (u32 0#32), (.slice none 0 0)]⟩]
    [0, 2])
  (.seq (.seq (.region [⟨some 3, none, .mov (.t 0)⟩,
    ⟨some 4, none, .call F.stage_Stage_none [.t 3]⟩]
    [0, 2, 4])
  (.cond (.t 4)
    (.seq (.region [⟨some 5, none, .build [(.int .i64 0), (u32 0#32), (.slice none 0 0)] []⟩,
      ⟨none, none, .store 3 (.t 2) (.t 5)⟩]
      [2])
    .ret)
    .skip))
  (.seq (.region [⟨some 6, none, .mov (.t 0)⟩,
    ⟨some 7, none, .nilchk (.t 6)⟩,
    ⟨some 8, none, .fieldAddr 3 (.t 7)⟩,
    ⟨some 9, none, .load true 3 (.t 8)⟩,
    ⟨some 10, none, .call F.stage_own [.t 9]⟩,
    ⟨none, none, .store 3 (.t 2) (.t 10)⟩]
    [2])
  .ret)))⟩

def RC.stage_Stage_Active : RFn := ⟨1, [.cell 2 true 3],
  (.seq (.region [⟨some 2, none, .alloc [(.int .i64 0), (u32 0#32), (.slice none 0 0)]⟩]
    [0, 2])
  (.seq (.seq (.region [⟨some 3, none, .mov (.t 0)⟩,
    ⟨some 4, none, .call F.stage_Stage_none [.t 3]⟩]
    [0, 2, 4])
  (.cond (.t 4)
    (.seq (.region [⟨some 5, none, .build [(.int .i64 0), (u32 0#32), (.slice none 0 0)] []⟩,
      ⟨none, none, .store 3 (.t 2) (.t 5)⟩]
      [2])
    .ret)
    .skip))
  (.seq (.region [⟨some 6, none, .mov (.t 0)⟩,
    ⟨some 7, none, .nilchk (.t 6)⟩,
    ⟨some 8, none, .fieldAddr 0 (.t 7)⟩,
    ⟨some 9, none, .load true 3 (.t 8)⟩,
    ⟨some 10, none, .call F.stage_own [.t 9]⟩,
    ⟨none, none, .store 3 (.t 2) (.t 10)⟩]
    [2])
  .ret)))⟩

def RC.stage_Stage_Set : RFn := ⟨2, [.slot 4],
  (.seq (.region [⟨some 3, none, .box (.t 1)⟩,
    ⟨some 4, none, .mov (.c (.int .i64 0))⟩]
    [0, 3])
  (.seq (.seq (.region [⟨some 5, none, .mov (.t 0)⟩,
    ⟨some 6, none, .call F.stage_Stage_none [.t 5]⟩]
    [0, 3, 6])
  (.cond (.t 6)
    (.seq (.region [⟨some 4, none, .mov (.c (.int .i64 2))⟩]
      [4])
    .ret)
    .skip))
  (.seq (.seq (.drawn [⟨some 7, none, .load true 3 (.t 3)⟩,
    ⟨some 8, none, .call F.plan_Check [.t 7]⟩,
    ⟨some 9, none, .bin .neq (.t 8) (.c (.int .i64 0))⟩,
    ⟨some 10, none, .mov (.t 9)⟩,
    ⟨some 11, some (10, false), .fieldAddr 0 (.t 3)⟩,
    ⟨some 12, some (10, false), .load false 1 (.t 11)⟩,
    ⟨some 13, some (10, false), .mov (.t 0)⟩,
    ⟨some 14, some (10, false), .nilchk (.t 13)⟩,
    ⟨some 15, some (10, false), .fieldAddr 0 (.t 14)⟩,
    ⟨some 16, some (10, false), .fieldAddr 0 (.t 15)⟩,
    ⟨some 17, some (10, false), .load false 1 (.t 16)⟩,
    ⟨some 18, some (10, false), .bin .neq (.t 12) (.t 17)⟩,
    ⟨some 19, none, .pick (.t 10) (.c (.bool true)) (.t 18)⟩]
    [[], [0], [1], [2, 1], [3], [4, 3], [3], [6, 3], [7, 3], [8, 3], [9, 3], [5, 10, 3], [3, 11]]
    [(0, []), (1, []), (2, []), (3, []), (4, []), (6, []), (7, []), (8, []), (9, []), (5, []), (10, []), (11, []), (12, [])]
    [[], [0], [0, 1], [0, 1, 2], [0, 1, 2, 3], [0, 1, 2, 3, 4], [0, 1, 2, 3], [0, 1, 2, 3, 6], [0, 1, 2, 3, 6, 7], [0, 1, 2, 3, 6, 7, 8], [0, 1, 2, 3, 6, 7, 8, 9], [0, 1, 2, 3, 4, 5, 6, 7, 8, 9, 10], [0, 1, 2, 3, 4, 5, 6, 7, 8, 9, 10, 11]]
    [0, 3, 19])
  (.cond (.t 19)
    (.seq (.region [⟨some 4, none, .mov (.c (.int .i64 30))⟩]
      [4])
    .ret)
    .skip))
  (.seq (.region [⟨some 20, none, .mov (.t 0)⟩,
    ⟨some 21, none, .load true 3 (.t 3)⟩,
    ⟨some 22, none, .call F.stage_own [.t 21]⟩,
    ⟨some 23, none, .nilchk (.t 20)⟩,
    ⟨some 24, none, .fieldAddr 3 (.t 23)⟩,
    ⟨none, none, .store 3 (.t 24) (.t 22)⟩]
    [])
  (.seq (.region [⟨some 4, none, .mov (.c (.int .i64 0))⟩]
    [4])
  .ret)))))⟩

def RB.ref16_Same_1 : RCode :=
  (.seq (.seq (.region [⟨some 27, none, .mov (.t 5)⟩,
    ⟨some 28, none, .fieldAddr 2 (.t 2)⟩,
    ⟨some 29, none, .load false 1 (.t 28)⟩,
    ⟨some 30, none, .len (.t 29)⟩,
    ⟨some 31, none, .bin .lss (.t 27) (.t 30)⟩]
    [2, 3, 5, 31])
  (.cond (.t 31)
    .skip
    (.exit 0)))
  (.seq (.block 1
    (.seq (.drawn [⟨some 34, none, .fieldAddr 2 (.t 2)⟩,
      ⟨some 35, none, .load false 1 (.t 34)⟩,
      ⟨some 36, none, .mov (.t 5)⟩,
      ⟨some 37, none, .idxS 4 (.t 35) (.t 36)⟩,
      ⟨some 38, none, .load true 4 (.t 37)⟩,
      ⟨some 39, none, .fieldAddr 2 (.t 3)⟩,
      ⟨some 40, none, .load false 1 (.t 39)⟩,
      ⟨some 41, none, .mov (.t 5)⟩,
      ⟨some 42, none, .idxS 4 (.t 40) (.t 41)⟩,
      ⟨some 43, none, .load true 4 (.t 42)⟩,
      ⟨some 44, none, .call F.ref16_SamePlace [.t 38, .t 43]⟩,
      ⟨some 45, none, .un .not (.t 44)⟩]
      [[], [0], [], [1, 2], [3], [], [5], [], [6, 7], [8], [4, 9], [10]]
      [(0, []), (2, []), (5, []), (7, []), (1, []), (3, []), (4, []), (6, []), (8, []), (9, []), (10, []), (11, [])]
      [[], [0], [], [0, 1, 2], [0, 1, 2, 3], [], [5], [], [5, 6, 7], [5, 6, 7, 8], [0, 1, 2, 3, 4, 5, 6, 7, 8, 9], [0, 1, 2, 3, 4, 5, 6, 7, 8, 9, 10]]
      [2, 3, 5, 45])
    (.cond (.t 45)
      (.seq (.region [⟨some 4, none, .mov (.c (.bool false))⟩]
        [4])
      .ret)
      .skip)) [2, 3, 5])
  (.region [⟨some 32, none, .mov (.t 5)⟩,
    ⟨some 33, none, .bin .add (.t 32) (.c (.int .i64 1))⟩,
    ⟨some 5, none, .mov (.t 33)⟩]
    [2, 3, 5])))
def RC.ref16_Same : RFn := ⟨2, [.slot 4],
  (.seq (.region [⟨some 2, none, .box (.t 0)⟩,
    ⟨some 3, none, .box (.t 1)⟩,
    ⟨some 4, none, .mov (.c (.bool false))⟩]
    [2, 3])
  (.seq (.seq (.region [⟨some 6, none, .fieldAddr 0 (.t 2)⟩,
    ⟨some 7, none, .load false 1 (.t 6)⟩,
    ⟨some 8, none, .fieldAddr 0 (.t 3)⟩,
    ⟨some 9, none, .load false 1 (.t 8)⟩,
    ⟨some 10, none, .bin .neq (.t 7) (.t 9)⟩,
    ⟨some 11, none, .mov (.t 10)⟩,
    ⟨some 12, some (11, false), .fieldAddr 1 (.t 2)⟩,
    ⟨some 13, some (11, false), .load false 1 (.t 12)⟩,
    ⟨some 14, some (11, false), .fieldAddr 1 (.t 3)⟩,
    ⟨some 15, some (11, false), .load false 1 (.t 14)⟩,
    ⟨some 16, some (11, false), .bin .neq (.t 13) (.t 15)⟩,
    ⟨some 17, none, .pick (.t 11) (.c (.bool true)) (.t 16)⟩,
    ⟨some 18, none, .mov (.t 17)⟩,
    ⟨some 19, some (18, false), .fieldAddr 2 (.t 2)⟩,
    ⟨some 20, some (18, false), .load false 1 (.t 19)⟩,
    ⟨some 21, some (18, false), .len (.t 20)⟩,
    ⟨some 22, some (18, false), .fieldAddr 2 (.t 3)⟩,
    ⟨some 23, some (18, false), .load false 1 (.t 22)⟩,
    ⟨some 24, some (18, false), .len (.t 23)⟩,
    ⟨some 25, some (18, false), .bin .neq (.t 21) (.t 24)⟩,
    ⟨some 26, none, .pick (.t 18) (.c (.bool true)) (.t 25)⟩]
    [2, 3, 26])
  (.cond (.t 26)
    (.seq (.region [⟨some 4, none, .mov (.c (.bool false))⟩]
      [4])
    .ret)
    .skip))
  (.seq (.seq (.region [⟨some 5, none, .mov (.c (.int .i64 0))⟩]
    [2, 3, 5])
  (.block 0
    (.loop [2, 3, 5] RB.ref16_Same_1) []))
  (.seq (.region [⟨some 4, none, .mov (.c (.bool true))⟩]
    [4])
  .ret))))⟩

def RC.stage_Stage_Turn : RFn := ⟨1, [.slot 2],
  (.seq (.region [⟨some 2, none, .mov (.c (.slice none 0 0))⟩]
    [0])
  (.seq (.seq (.region [⟨some 4, none, .mov (.t 0)⟩,
    ⟨some 5, none, .call F.stage_Stage_none [.t 4]⟩]
    [0, 5])
  (.cond (.t 5)
    (.seq (.region [⟨some 2, none, .mov (.c (.slice none 0 0))⟩]
      [2])
    .ret)
    .skip))
  (.seq (.drawn [⟨some 6, none, .mov (.t 0)⟩,
    ⟨some 7, none, .nilchk (.t 6)⟩,
    ⟨some 8, none, .fieldAddr 0 (.t 7)⟩,
    ⟨some 9, none, .load true 3 (.t 8)⟩,
    ⟨some 10, none, .mov (.t 0)⟩,
    ⟨some 11, none, .nilchk (.t 10)⟩,
    ⟨some 12, none, .fieldAddr 3 (.t 11)⟩,
    ⟨some 13, none, .load true 3 (.t 12)⟩,
    ⟨some 14, none, .call F.diff_Moved [.t 9, .t 13]⟩,
    ⟨some 3, none, .mov (.t 14)⟩]
    [[], [0], [1], [2], [], [4], [5], [6], [3, 7], [8, 8, 0, 1, 2, 3, 4, 5, 6, 7, 8]]
    [(0, []), (1, []), (2, []), (4, []), (5, []), (6, []), (3, []), (7, []), (8, []), (9, [])]
    [[], [0], [0, 1], [0, 1, 2], [], [4], [4, 5], [4, 5, 6], [0, 1, 2, 3, 4, 5, 6, 7], [0, 1, 2, 3, 4, 5, 6, 7, 8]]
    [0, 3])
  (.seq (.region [⟨some 15, none, .mov (.t 0)⟩,
    ⟨some 16, none, .mov (.t 0)⟩,
    ⟨some 17, none, .nilchk (.t 16)⟩,
    ⟨some 18, none, .fieldAddr 3 (.t 17)⟩,
    ⟨some 19, none, .load true 3 (.t 18)⟩,
    ⟨some 20, none, .call F.stage_own [.t 19]⟩,
    ⟨some 21, none, .nilchk (.t 15)⟩,
    ⟨some 22, none, .fieldAddr 0 (.t 21)⟩,
    ⟨none, none, .store 3 (.t 22) (.t 20)⟩]
    [0, 3])
  (.seq (.region [⟨some 23, none, .mov (.t 0)⟩,
    ⟨some 24, none, .nilchk (.t 23)⟩,
    ⟨some 25, none, .fieldAddr 6 (.t 24)⟩,
    ⟨some 26, none, .load false 1 (.t 25)⟩,
    ⟨some 27, none, .bin .add (.t 26) (.c (.int .i64 1))⟩,
    ⟨some 28, none, .nilchk (.t 23)⟩,
    ⟨some 29, none, .fieldAddr 6 (.t 28)⟩,
    ⟨none, none, .store 1 (.t 29) (.t 27)⟩]
    [3])
  (.seq (.region [⟨some 30, none, .mov (.t 3)⟩,
    ⟨some 2, none, .mov (.t 30)⟩]
    [2])
  .ret))))))⟩

def RC.law26_awake : RFn := ⟨0, [.slot 0],
  (.seq (.region [⟨some 0, none, .mov (.c (.bool false))⟩]
    [])
  (.seq (.region [⟨some 7, none, .call F.stage_New [.c (.int .i64 4), .c (u32 1#32)]⟩,
    ⟨some 6, none, .mov (.t 7)⟩,
    ⟨some 8, none, .ext 0 (.t 6)⟩,
    ⟨some 9, none, .ext 1 (.t 6)⟩,
    ⟨some 1, none, .mov (.t 8)⟩,
    ⟨some 2, none, .mov (.t 9)⟩]
    [1, 2])
  (.seq (.seq (.region [⟨some 10, none, .mov (.t 2)⟩,
    ⟨some 11, none, .bin .neq (.t 10) (.c (.int .i64 0))⟩,
    ⟨some 12, none, .mov (.t 11)⟩,
    ⟨some 13, some (12, false), .mov (.t 1)⟩,
    ⟨some 14, some (12, false), .eq false .ptr (.t 13) (.c (.pointer none))⟩,
    ⟨some 15, none, .pick (.t 12) (.c (.bool true)) (.t 14)⟩]
    [1, 15])
  (.cond (.t 15)
    (.seq (.region [⟨some 0, none, .mov (.c (.bool false))⟩]
      [0])
    .ret)
    .skip))
  (.seq (.region [⟨some 16, none, .mov (.t 1)⟩,
    ⟨some 17, none, .call F.law26_one []⟩,
    ⟨some 18, none, .call F.stage_Stage_Set [.t 16, .t 17]⟩,
    ⟨some 3, none, .mov (.t 18)⟩]
    [1, 3])
  (.seq (.region [⟨some 19, none, .mov (.t 1)⟩,
    ⟨some 20, none, .call F.stage_Stage_Active [.t 19]⟩,
    ⟨some 4, none, .alloc [(.int .i64 0), (u32 0#32), (.slice none 0 0)]⟩,
    ⟨none, none, .store 3 (.t 4) (.t 20)⟩]
    [1, 3, 4])
  (.seq (.region [⟨some 21, none, .mov (.t 1)⟩,
    ⟨some 22, none, .call F.stage_Stage_Turn [.t 21]⟩,
    ⟨some 5, none, .mov (.t 22)⟩]
    [1, 3, 4, 5])
  (.seq (.region [⟨some 23, none, .mov (.t 3)⟩,
    ⟨some 24, none, .bin .eql (.t 23) (.c (.int .i64 0))⟩,
    ⟨some 25, none, .mov (.t 24)⟩,
    ⟨some 26, some (25, true), .fieldAddr 2 (.t 4)⟩,
    ⟨some 27, some (25, true), .load false 1 (.t 26)⟩,
    ⟨some 28, some (25, true), .len (.t 27)⟩,
    ⟨some 29, some (25, true), .bin .eql (.t 28) (.c (.int .i64 0))⟩,
    ⟨some 30, none, .pick (.t 25) (.t 29) (.c (.bool false))⟩,
    ⟨some 31, none, .mov (.t 30)⟩,
    ⟨some 32, some (31, true), .mov (.t 5)⟩,
    ⟨some 33, some (31, true), .len (.t 32)⟩,
    ⟨some 34, some (31, true), .bin .eql (.t 33) (.c (.int .i64 0))⟩,
    ⟨some 35, none, .pick (.t 31) (.t 34) (.c (.bool false))⟩,
    ⟨some 36, none, .mov (.t 35)⟩,
    ⟨some 37, some (36, true), .mov (.t 1)⟩,
    ⟨some 38, some (36, true), .call F.stage_Stage_Active [.t 37]⟩,
    ⟨some 39, some (36, true), .call F.law26_one []⟩,
    ⟨some 40, some (36, true), .call F.ref16_Same [.t 38, .t 39]⟩,
    ⟨some 41, none, .pick (.t 36) (.t 40) (.c (.bool false))⟩,
    ⟨some 42, none, .mov (.t 41)⟩,
    ⟨some 43, some (42, true), .mov (.t 1)⟩,
    ⟨some 44, some (42, true), .call F.stage_Stage_Fresh [.t 43]⟩,
    ⟨some 45, some (42, true), .un .not (.t 44)⟩,
    ⟨some 46, none, .pick (.t 42) (.t 45) (.c (.bool false))⟩,
    ⟨some 47, none, .mov (.t 46)⟩,
    ⟨some 48, some (47, true), .mov (.t 1)⟩,
    ⟨some 49, some (47, true), .call F.stage_Stage_Cut [.t 48, .c (.int .i64 1)]⟩,
    ⟨some 50, none, .pick (.t 47) (.t 49) (.c (.bool false))⟩,
    ⟨some 51, none, .mov (.t 50)⟩,
    ⟨some 52, some (51, true), .mov (.t 1)⟩,
    ⟨some 53, some (51, true), .call F.stage_Stage_Fresh [.t 52]⟩,
    ⟨some 54, none, .pick (.t 51) (.t 53) (.c (.bool false))⟩,
    ⟨some 55, none, .mov (.t 54)⟩,
    ⟨some 56, some (55, true), .mov (.t 1)⟩,
    ⟨some 57, some (55, true), .call F.stage_Stage_Turns [.t 56]⟩,
    ⟨some 58, some (55, true), .bin .eql (.t 57) (.c (.int .i64 1))⟩,
    ⟨some 59, none, .pick (.t 55) (.t 58) (.c (.bool false))⟩,
    ⟨some 0, none, .mov (.t 59)⟩]
    [0])
  .ret)))))))⟩

def RC.law26_one : RFn := ⟨0, [.cell 0 true 3],
  (.seq (.region [⟨some 0, none, .alloc [(.int .i64 0), (u32 0#32), (.slice none 0 0)]⟩]
    [0])
  (.seq (.region [⟨some 1, none, .build [(.int .i64 0), (.int .i64 0), (.int .i64 0), (.slice none 0 0)] [(0, 1, .c (.int .i64 1)), (1, 1, .c (.int .i64 2))]⟩,
    ⟨some 2, none, .bslice [(.int .i64 0), (.int .i64 0), (.int .i64 0), (.slice none 0 0)] [(0, 4, .t 1)] 1 4⟩,
    ⟨some 3, none, .build [(.int .i64 0), (u32 0#32), (.slice none 0 0)] [(0, 1, .c (.int .i64 4)), (1, 1, .c (u32 1#32)), (2, 1, .t 2)]⟩,
    ⟨none, none, .store 3 (.t 0) (.t 3)⟩]
    [0])
  .ret))⟩

def RC.stage_Stage_Cut : RFn := ⟨2, [.slot 4],
  (.seq (.region [⟨some 4, none, .mov (.c (.bool false))⟩]
    [0, 1])
  (.seq (.seq (.region [⟨some 7, none, .mov (.t 0)⟩,
    ⟨some 8, none, .call F.stage_Stage_none [.t 7]⟩]
    [0, 1, 8])
  (.cond (.t 8)
    (.seq (.region [⟨some 4, none, .mov (.c (.bool false))⟩]
      [4])
    .ret)
    .skip))
  (.seq (.region [⟨some 10, none, .mov (.t 0)⟩,
    ⟨some 11, none, .nilchk (.t 10)⟩,
    ⟨some 12, none, .fieldAddr 0 (.t 11)⟩,
    ⟨some 13, none, .load true 3 (.t 12)⟩,
    ⟨some 14, none, .mov (.t 1)⟩,
    ⟨some 15, none, .call F.plan_Find [.t 13, .t 14]⟩,
    ⟨some 9, none, .mov (.t 15)⟩,
    ⟨some 16, none, .ext 0 (.t 9)⟩,
    ⟨some 17, none, .ext 1 (.t 9)⟩,
    ⟨some 5, none, .alloc [(.int .i64 0), (.int .i64 0), (.int .i64 0), (.slice none 0 0)]⟩,
    ⟨none, none, .store 4 (.t 5) (.t 16)⟩,
    ⟨some 6, none, .mov (.t 17)⟩]
    [0, 1, 6])
  (.seq (.region [⟨some 18, none, .mov (.t 0)⟩,
    ⟨some 19, none, .mov (.t 0)⟩,
    ⟨some 20, none, .nilchk (.t 19)⟩,
    ⟨some 21, none, .fieldAddr 0 (.t 20)⟩,
    ⟨some 22, none, .load true 3 (.t 21)⟩,
    ⟨some 23, none, .mov (.t 1)⟩,
    ⟨some 24, none, .call F.plan_Drop [.t 22, .t 23]⟩,
    ⟨some 25, none, .nilchk (.t 18)⟩,
    ⟨some 26, none, .fieldAddr 0 (.t 25)⟩,
    ⟨none, none, .store 3 (.t 26) (.t 24)⟩]
    [6])
  (.seq (.region [⟨some 27, none, .mov (.t 6)⟩,
    ⟨some 4, none, .mov (.t 27)⟩]
    [4])
  .ret)))))⟩

def RC.stage_Stage_Fresh : RFn := ⟨1, [.slot 2],
  (.seq (.region [⟨some 2, none, .mov (.c (.bool false))⟩]
    [0])
  (.seq (.drawn [⟨some 3, none, .mov (.t 0)⟩,
    ⟨some 4, none, .call F.stage_Stage_none [.t 3]⟩,
    ⟨some 5, none, .un .not (.t 4)⟩,
    ⟨some 6, none, .mov (.t 5)⟩,
    ⟨some 7, some (6, true), .mov (.t 0)⟩,
    ⟨some 8, some (6, true), .nilchk (.t 7)⟩,
    ⟨some 9, some (6, true), .fieldAddr 0 (.t 8)⟩,
    ⟨some 10, some (6, true), .load true 3 (.t 9)⟩,
    ⟨some 11, some (6, true), .mov (.t 0)⟩,
    ⟨some 12, some (6, true), .nilchk (.t 11)⟩,
    ⟨some 13, some (6, true), .fieldAddr 3 (.t 12)⟩,
    ⟨some 14, some (6, true), .load true 3 (.t 13)⟩,
    ⟨some 15, some (6, true), .call F.plan_Same [.t 10, .t 14]⟩,
    ⟨some 16, some (6, true), .un .not (.t 15)⟩,
    ⟨some 17, none, .pick (.t 6) (.t 16) (.c (.bool false))⟩,
    ⟨some 2, none, .mov (.t 17)⟩]
    [[], [0], [1], [2, 1], [3], [4, 3], [5, 3], [6, 3], [3], [8, 3], [9, 3], [10, 3], [7, 11, 3, 3], [12, 3], [3, 13], [14, 12, 0, 1, 2, 3, 4, 5, 6, 7, 8, 9, 10, 11, 12, 13, 14]]
    [(0, []), (1, []), (2, []), (3, []), (4, []), (5, []), (6, []), (8, []), (9, []), (10, []), (7, []), (11, []), (12, []), (13, []), (14, []), (15, [])]
    [[], [0], [0, 1], [0, 1, 2], [0, 1, 2, 3], [0, 1, 2, 3, 4], [0, 1, 2, 3, 4, 5], [0, 1, 2, 3, 4, 5, 6], [0, 1, 2, 3], [0, 1, 2, 3, 8], [0, 1, 2, 3, 8, 9], [0, 1, 2, 3, 8, 9, 10], [0, 1, 2, 3, 4, 5, 6, 7, 8, 9, 10, 11], [0, 1, 2, 3, 4, 5, 6, 7, 8, 9, 10, 11, 12], [0, 1, 2, 3, 4, 5, 6, 7, 8, 9, 10, 11, 12, 13], [0, 1, 2, 3, 4, 5, 6, 7, 8, 9, 10, 11, 12, 13, 14]]
    [2])
  .ret))⟩

def RC.stage_Stage_Turns : RFn := ⟨1, [.slot 2],
  (.seq (.region [⟨some 2, none, .mov (.c (.int .i64 0))⟩]
    [0])
  (.seq (.seq (.region [⟨some 3, none, .mov (.t 0)⟩,
    ⟨some 4, none, .call F.stage_Stage_none [.t 3]⟩]
    [0, 4])
  (.cond (.t 4)
    (.seq (.region [⟨some 2, none, .mov (.c (.int .i64 0))⟩]
      [2])
    .ret)
    .skip))
  (.seq (.region [⟨some 5, none, .mov (.t 0)⟩,
    ⟨some 6, none, .nilchk (.t 5)⟩,
    ⟨some 7, none, .fieldAddr 6 (.t 6)⟩,
    ⟨some 8, none, .load false 1 (.t 7)⟩,
    ⟨some 2, none, .mov (.t 8)⟩]
    [2])
  .ret)))⟩

def RB.plan_Check_1 : RCode :=
  (.seq (.region [⟨some 70, none, .bin .lss (.t 69) (.t 68)⟩]
    [1, 67, 68, 69, 70])
  (.seq (.cond (.t 70)
    .skip
    (.exit 2))
  (.seq (.block 3
    (.seq (.region [⟨some 71, none, .idxS 1 (.t 67) (.t 69)⟩,
      ⟨some 72, none, .load false 1 (.t 71)⟩,
      ⟨some 6, none, .mov (.t 72)⟩]
      [1, 6, 67, 68, 69])
    (.seq (.region [⟨some 73, none, .load true 3 (.t 1)⟩,
      ⟨some 74, none, .mov (.t 6)⟩,
      ⟨some 75, none, .call F.plan_left [.t 73, .t 74]⟩,
      ⟨some 76, none, .bin .lss (.t 75) (.c (.int .i64 0))⟩]
      [1, 67, 68, 69, 76])
    (.cond (.t 76)
      (.seq (.region [⟨some 2, none, .mov (.c (.int .i64 30))⟩]
        [2])
      .ret)
      .skip))) [1, 67, 68, 69])
  (.region [⟨some 77, none, .bin .add (.t 69) (.c (.int .i64 1))⟩,
    ⟨some 69, none, .mov (.t 77)⟩]
    [1, 67, 68, 69]))))
def RB.plan_Check_2 : RCode :=
  (.seq (.region [⟨some 30, none, .bin .lss (.t 29) (.t 28)⟩]
    [1, 27, 28, 29, 30])
  (.seq (.cond (.t 30)
    .skip
    (.exit 0))
  (.seq (.block 1
    (.seq (.region [⟨some 31, none, .mov (.t 29)⟩,
      ⟨some 32, none, .idxS 4 (.t 27) (.t 29)⟩,
      ⟨some 33, none, .load true 4 (.t 32)⟩,
      ⟨some 4, none, .alloc [(.int .i64 0), (.int .i64 0), (.int .i64 0), (.slice none 0 0)]⟩,
      ⟨some 3, none, .mov (.t 31)⟩,
      ⟨none, none, .store 4 (.t 4) (.t 33)⟩]
      [1, 3, 4, 27, 28, 29])
    (.seq (.drawn [⟨some 34, none, .load true 3 (.t 1)⟩,
      ⟨some 35, none, .load true 4 (.t 4)⟩,
      ⟨some 36, none, .call F.plan_place [.t 34, .t 35]⟩,
      ⟨some 37, none, .un .not (.t 36)⟩,
      ⟨some 38, none, .mov (.t 37)⟩,
      ⟨some 39, some (38, false), .mov (.t 3)⟩,
      ⟨some 40, some (38, false), .bin .gtr (.t 39) (.c (.int .i64 0))⟩,
      ⟨some 41, some (38, false), .mov (.t 40)⟩,
      ⟨some 42, some (41, true), .fieldAddr 2 (.t 1)⟩,
      ⟨some 43, some (41, true), .load false 1 (.t 42)⟩,
      ⟨some 44, some (41, true), .mov (.t 3)⟩,
      ⟨some 45, some (41, true), .bin .sub (.t 44) (.c (.int .i64 1))⟩,
      ⟨some 46, some (41, true), .idxS 4 (.t 43) (.t 45)⟩,
      ⟨some 47, some (41, true), .fieldAddr 0 (.t 46)⟩,
      ⟨some 48, some (41, true), .load false 1 (.t 47)⟩,
      ⟨some 49, some (41, true), .fieldAddr 0 (.t 4)⟩,
      ⟨some 50, some (41, true), .load false 1 (.t 49)⟩,
      ⟨some 51, some (41, true), .bin .geq (.t 48) (.t 50)⟩,
      ⟨some 52, some (38, false), .pick (.t 41) (.t 51) (.c (.bool false))⟩,
      ⟨some 53, none, .pick (.t 38) (.c (.bool true)) (.t 52)⟩]
      [[], [], [0, 1], [2], [3, 2], [4], [5, 4], [6, 4, 4], [7], [8, 7], [7], [10, 7], [9, 11, 7], [12, 7], [13, 7], [7], [15, 7], [14, 16, 7], [7, 17, 4], [4, 18]]
      [(0, []), (1, []), (2, []), (3, []), (4, []), (5, []), (6, []), (7, []), (8, []), (10, []), (11, []), (15, []), (9, []), (12, []), (13, []), (14, []), (16, []), (17, []), (18, []), (19, [])]
      [[], [], [0, 1], [0, 1, 2], [0, 1, 2, 3], [0, 1, 2, 3, 4], [0, 1, 2, 3, 4, 5], [0, 1, 2, 3, 4, 5, 6], [0, 1, 2, 3, 4, 5, 6, 7], [0, 1, 2, 3, 4, 5, 6, 7, 8], [0, 1, 2, 3, 4, 5, 6, 7], [0, 1, 2, 3, 4, 5, 6, 7, 10], [0, 1, 2, 3, 4, 5, 6, 7, 8, 9, 10, 11], [0, 1, 2, 3, 4, 5, 6, 7, 8, 9, 10, 11, 12], [0, 1, 2, 3, 4, 5, 6, 7, 8, 9, 10, 11, 12, 13], [0, 1, 2, 3, 4, 5, 6, 7], [0, 1, 2, 3, 4, 5, 6, 7, 15], [0, 1, 2, 3, 4, 5, 6, 7, 8, 9, 10, 11, 12, 13, 14, 15, 16], [0, 1, 2, 3, 4, 5, 6, 7, 8, 9, 10, 11, 12, 13, 14, 15, 16, 17], [0, 1, 2, 3, 4, 5, 6, 7, 8, 9, 10, 11, 12, 13, 14, 15, 16, 17, 18]]
      [1, 27, 28, 29, 53])
    (.cond (.t 53)
      (.seq (.region [⟨some 2, none, .mov (.c (.int .i64 30))⟩]
        [2])
      .ret)
      .skip))) [1, 27, 28, 29])
  (.region [⟨some 54, none, .bin .add (.t 29) (.c (.int .i64 1))⟩,
    ⟨some 29, none, .mov (.t 54)⟩]
    [1, 27, 28, 29]))))
def RC.plan_Check : RFn := ⟨1, [.slot 2],
  (.seq (.region [⟨some 1, none, .box (.t 0)⟩,
    ⟨some 2, none, .mov (.c (.int .i64 0))⟩]
    [1])
  (.seq (.seq (.region [⟨some 7, none, .fieldAddr 0 (.t 1)⟩,
    ⟨some 8, none, .load false 1 (.t 7)⟩,
    ⟨some 9, none, .bin .lss (.t 8) (.c (.int .i64 2))⟩,
    ⟨some 10, none, .mov (.t 9)⟩,
    ⟨some 11, some (10, false), .fieldAddr 0 (.t 1)⟩,
    ⟨some 12, some (10, false), .load false 1 (.t 11)⟩,
    ⟨some 13, some (10, false), .bin .gtr (.t 12) (.c (.int .i64 64))⟩,
    ⟨some 14, none, .pick (.t 10) (.c (.bool true)) (.t 13)⟩,
    ⟨some 15, none, .mov (.t 14)⟩,
    ⟨some 16, some (15, false), .fieldAddr 1 (.t 1)⟩,
    ⟨some 17, some (15, false), .load false 1 (.t 16)⟩,
    ⟨some 18, some (15, false), .bin .eql (.t 17) (.c (u32 0#32))⟩,
    ⟨some 19, none, .pick (.t 15) (.c (.bool true)) (.t 18)⟩,
    ⟨some 20, none, .mov (.t 19)⟩,
    ⟨some 21, some (20, false), .fieldAddr 1 (.t 1)⟩,
    ⟨some 22, some (20, false), .load false 1 (.t 21)⟩,
    ⟨some 23, some (20, false), .bin .shr (.t 22) (.c (u64 16#64))⟩,
    ⟨some 24, some (20, false), .bin .neq (.t 23) (.c (u32 0#32))⟩,
    ⟨some 25, none, .pick (.t 20) (.c (.bool true)) (.t 24)⟩]
    [1, 25])
  (.cond (.t 25)
    (.seq (.region [⟨some 2, none, .mov (.c (.int .i64 30))⟩]
      [2])
    .ret)
    .skip))
  (.seq (.seq (.region [⟨some 26, none, .fieldAddr 2 (.t 1)⟩,
    ⟨some 27, none, .load false 1 (.t 26)⟩,
    ⟨some 28, none, .len (.t 27)⟩,
    ⟨some 29, none, .mov (.c (.int .i64 0))⟩]
    [1, 27, 28, 29])
  (.block 0
    (.loop [1, 27, 28, 29] RB.plan_Check_2) [1]))
  (.seq (.seq (.drawn [⟨some 55, none, .load true 3 (.t 1)⟩,
    ⟨some 56, none, .call F.plan_apart [.t 55]⟩,
    ⟨some 57, none, .un .not (.t 56)⟩,
    ⟨some 58, none, .mov (.t 57)⟩,
    ⟨some 59, some (58, false), .load true 3 (.t 1)⟩,
    ⟨some 60, some (58, false), .call F.plan_Splits [.t 59]⟩,
    ⟨some 61, some (58, false), .load true 3 (.t 1)⟩,
    ⟨some 62, some (58, false), .call F.plan_Cores [.t 61]⟩,
    ⟨some 63, some (58, false), .len (.t 62)⟩,
    ⟨some 64, some (58, false), .bin .geq (.t 60) (.t 63)⟩,
    ⟨some 65, none, .pick (.t 58) (.c (.bool true)) (.t 64)⟩]
    [[], [0], [1], [2, 1], [3], [4, 3, 3], [3], [6, 5, 3], [7, 3], [5, 8, 3], [3, 9]]
    [(0, []), (1, []), (2, []), (3, []), (4, []), (6, []), (5, [1]), (7, []), (8, []), (9, []), (10, [])]
    [[], [0], [0, 1], [0, 1, 2], [0, 1, 2, 3], [0, 1, 2, 3, 4], [0, 1, 2, 3], [0, 1, 2, 3, 4, 5, 6], [0, 1, 2, 3, 4, 5, 6, 7], [0, 1, 2, 3, 4, 5, 6, 7, 8], [0, 1, 2, 3, 4, 5, 6, 7, 8, 9]]
    [1, 65])
  (.cond (.t 65)
    (.seq (.region [⟨some 2, none, .mov (.c (.int .i64 30))⟩]
      [2])
    .ret)
    .skip))
  (.seq (.seq (.region [⟨some 66, none, .load true 3 (.t 1)⟩,
    ⟨some 67, none, .call F.plan_Cores [.t 66]⟩,
    ⟨some 68, none, .len (.t 67)⟩,
    ⟨some 69, none, .mov (.c (.int .i64 0))⟩]
    [1, 67, 68, 69])
  (.block 2
    (.loop [1, 67, 68, 69] RB.plan_Check_1) []))
  (.seq (.region [⟨some 2, none, .mov (.c (.int .i64 0))⟩]
    [2])
  .ret))))))⟩

def RC.stage_Stage_none : RFn := ⟨1, [.slot 2],
  (.seq (.region [⟨some 2, none, .mov (.c (.bool false))⟩]
    [0])
  (.seq (.region [⟨some 3, none, .mov (.t 0)⟩,
    ⟨some 4, none, .eq false .ptr (.t 3) (.c (.pointer none))⟩,
    ⟨some 5, none, .mov (.t 4)⟩,
    ⟨some 6, some (5, false), .mov (.t 0)⟩,
    ⟨some 7, some (5, false), .nilchk (.t 6)⟩,
    ⟨some 8, some (5, false), .fieldAddr 0 (.t 7)⟩,
    ⟨some 9, some (5, false), .fieldAddr 0 (.t 8)⟩,
    ⟨some 10, some (5, false), .load false 1 (.t 9)⟩,
    ⟨some 11, some (5, false), .bin .eql (.t 10) (.c (.int .i64 0))⟩,
    ⟨some 12, none, .pick (.t 5) (.c (.bool true)) (.t 11)⟩,
    ⟨some 2, none, .mov (.t 12)⟩]
    [2])
  .ret))⟩

def RC.stage_own : RFn := ⟨1, [.cell 2 true 3],
  (.seq (.region [⟨some 1, none, .box (.t 0)⟩,
    ⟨some 2, none, .alloc [(.int .i64 0), (u32 0#32), (.slice none 0 0)]⟩]
    [1, 2])
  (.seq (.region [⟨some 3, none, .load true 3 (.t 1)⟩,
    ⟨some 4, none, .call F.plan_Drop [.t 3, .c (.int .i64 0)]⟩,
    ⟨none, none, .store 3 (.t 2) (.t 4)⟩]
    [2])
  .ret))⟩

def RB.ref16_SamePlace_1 : RCode :=
  (.seq (.seq (.region [⟨some 34, none, .mov (.t 5)⟩,
    ⟨some 35, none, .fieldAddr 3 (.t 2)⟩,
    ⟨some 36, none, .load false 1 (.t 35)⟩,
    ⟨some 37, none, .len (.t 36)⟩,
    ⟨some 38, none, .bin .lss (.t 34) (.t 37)⟩]
    [2, 3, 5, 38])
  (.cond (.t 38)
    .skip
    (.exit 0)))
  (.seq (.block 1
    (.seq (.drawn [⟨some 41, none, .fieldAddr 3 (.t 2)⟩,
      ⟨some 42, none, .load false 1 (.t 41)⟩,
      ⟨some 43, none, .mov (.t 5)⟩,
      ⟨some 44, none, .idxS 2 (.t 42) (.t 43)⟩,
      ⟨some 45, none, .load true 2 (.t 44)⟩,
      ⟨some 46, none, .fieldAddr 3 (.t 3)⟩,
      ⟨some 47, none, .load false 1 (.t 46)⟩,
      ⟨some 48, none, .mov (.t 5)⟩,
      ⟨some 49, none, .idxS 2 (.t 47) (.t 48)⟩,
      ⟨some 50, none, .load true 2 (.t 49)⟩,
      ⟨some 51, none, .eq true (.flat [.int, .int]) (.t 45) (.t 50)⟩]
      [[], [0], [], [1, 2], [3], [], [5], [], [6, 7], [8], [4, 9]]
      [(0, []), (2, []), (5, []), (7, []), (1, []), (3, []), (4, []), (6, []), (8, []), (9, []), (10, [])]
      [[], [0], [], [0, 1, 2], [0, 1, 2, 3], [], [5], [], [5, 6, 7], [5, 6, 7, 8], [0, 1, 2, 3, 4, 5, 6, 7, 8, 9]]
      [2, 3, 5, 51])
    (.cond (.t 51)
      (.seq (.region [⟨some 4, none, .mov (.c (.bool false))⟩]
        [4])
      .ret)
      .skip)) [2, 3, 5])
  (.region [⟨some 39, none, .mov (.t 5)⟩,
    ⟨some 40, none, .bin .add (.t 39) (.c (.int .i64 1))⟩,
    ⟨some 5, none, .mov (.t 40)⟩]
    [2, 3, 5])))
def RC.ref16_SamePlace : RFn := ⟨2, [.slot 4],
  (.seq (.region [⟨some 2, none, .box (.t 0)⟩,
    ⟨some 3, none, .box (.t 1)⟩,
    ⟨some 4, none, .mov (.c (.bool false))⟩]
    [2, 3])
  (.seq (.seq (.region [⟨some 6, none, .fieldAddr 0 (.t 2)⟩,
    ⟨some 7, none, .load false 1 (.t 6)⟩,
    ⟨some 8, none, .fieldAddr 0 (.t 3)⟩,
    ⟨some 9, none, .load false 1 (.t 8)⟩,
    ⟨some 10, none, .bin .neq (.t 7) (.t 9)⟩,
    ⟨some 11, none, .mov (.t 10)⟩,
    ⟨some 12, some (11, false), .fieldAddr 1 (.t 2)⟩,
    ⟨some 13, some (11, false), .load false 1 (.t 12)⟩,
    ⟨some 14, some (11, false), .fieldAddr 1 (.t 3)⟩,
    ⟨some 15, some (11, false), .load false 1 (.t 14)⟩,
    ⟨some 16, some (11, false), .bin .neq (.t 13) (.t 15)⟩,
    ⟨some 17, none, .pick (.t 11) (.c (.bool true)) (.t 16)⟩,
    ⟨some 18, none, .mov (.t 17)⟩,
    ⟨some 19, some (18, false), .fieldAddr 2 (.t 2)⟩,
    ⟨some 20, some (18, false), .load false 1 (.t 19)⟩,
    ⟨some 21, some (18, false), .fieldAddr 2 (.t 3)⟩,
    ⟨some 22, some (18, false), .load false 1 (.t 21)⟩,
    ⟨some 23, some (18, false), .bin .neq (.t 20) (.t 22)⟩,
    ⟨some 24, none, .pick (.t 18) (.c (.bool true)) (.t 23)⟩,
    ⟨some 25, none, .mov (.t 24)⟩,
    ⟨some 26, some (25, false), .fieldAddr 3 (.t 2)⟩,
    ⟨some 27, some (25, false), .load false 1 (.t 26)⟩,
    ⟨some 28, some (25, false), .len (.t 27)⟩,
    ⟨some 29, some (25, false), .fieldAddr 3 (.t 3)⟩,
    ⟨some 30, some (25, false), .load false 1 (.t 29)⟩,
    ⟨some 31, some (25, false), .len (.t 30)⟩,
    ⟨some 32, some (25, false), .bin .neq (.t 28) (.t 31)⟩,
    ⟨some 33, none, .pick (.t 25) (.c (.bool true)) (.t 32)⟩]
    [2, 3, 33])
  (.cond (.t 33)
    (.seq (.region [⟨some 4, none, .mov (.c (.bool false))⟩]
      [4])
    .ret)
    .skip))
  (.seq (.seq (.region [⟨some 5, none, .mov (.c (.int .i64 0))⟩]
    [2, 3, 5])
  (.block 0
    (.loop [2, 3, 5] RB.ref16_SamePlace_1) []))
  (.seq (.region [⟨some 4, none, .mov (.c (.bool true))⟩]
    [4])
  .ret))))⟩

def RC.diff_Moved : RFn := ⟨2, [.slot 4],
  (.seq (.region [⟨some 2, none, .box (.t 0)⟩,
    ⟨some 3, none, .box (.t 1)⟩,
    ⟨some 4, none, .mov (.c (.slice none 0 0))⟩]
    [2, 3])
  (.seq (.region [⟨some 5, none, .load true 3 (.t 2)⟩,
    ⟨some 6, none, .load true 3 (.t 3)⟩,
    ⟨some 7, none, .call F.diff_some [.t 5, .t 6, .f F.diff_Moved_1]⟩,
    ⟨some 4, none, .mov (.t 7)⟩]
    [4])
  .ret))⟩

def RC.plan_Find : RFn := ⟨2, [.cell 4 true 4, .slot 5],
  (.seq (.region [⟨some 2, none, .box (.t 0)⟩,
    ⟨some 4, none, .alloc [(.int .i64 0), (.int .i64 0), (.int .i64 0), (.slice none 0 0)]⟩,
    ⟨some 5, none, .mov (.c (.bool false))⟩]
    [1, 2, 4])
  (.seq (.region [⟨some 10, none, .load true 3 (.t 2)⟩,
    ⟨some 11, none, .mov (.t 1)⟩,
    ⟨some 12, none, .call F.plan_find [.t 10, .t 11]⟩,
    ⟨some 9, none, .mov (.t 12)⟩,
    ⟨some 13, none, .ext 0 (.t 9)⟩,
    ⟨some 14, none, .ext 1 (.t 9)⟩,
    ⟨some 6, none, .mov (.t 13)⟩,
    ⟨some 7, none, .mov (.t 14)⟩]
    [2, 4, 6, 7])
  (.seq (.seq (.region [⟨some 15, none, .mov (.t 7)⟩,
    ⟨some 16, none, .un .not (.t 15)⟩]
    [2, 4, 6, 16])
  (.cond (.t 16)
    (.seq (.region [⟨some 17, none, .build [(.int .i64 0), (.int .i64 0), (.int .i64 0), (.slice none 0 0)] []⟩,
      ⟨none, none, .store 4 (.t 4) (.t 17)⟩,
      ⟨some 5, none, .mov (.c (.bool false))⟩]
      [4, 5])
    .ret)
    .skip))
  (.seq (.region [⟨some 18, none, .fieldAddr 2 (.t 2)⟩,
    ⟨some 19, none, .load false 1 (.t 18)⟩,
    ⟨some 20, none, .mov (.t 6)⟩,
    ⟨some 21, none, .idxS 4 (.t 19) (.t 20)⟩,
    ⟨some 22, none, .load true 4 (.t 21)⟩,
    ⟨some 8, none, .alloc [(.int .i64 0), (.int .i64 0), (.int .i64 0), (.slice none 0 0)]⟩,
    ⟨none, none, .store 4 (.t 8) (.t 22)⟩]
    [4, 8])
  (.seq (.region [⟨some 23, none, .fieldAddr 3 (.t 8)⟩,
    ⟨some 24, none, .load false 1 (.t 23)⟩,
    ⟨some 25, none, .call F.slices_Clone_api_Piece_api_Piece [.t 24]⟩,
    ⟨some 26, none, .fieldAddr 3 (.t 8)⟩,
    ⟨none, none, .store 1 (.t 26) (.t 25)⟩]
    [4, 8])
  (.seq (.region [⟨some 27, none, .load true 4 (.t 8)⟩,
    ⟨none, none, .store 4 (.t 4) (.t 27)⟩,
    ⟨some 5, none, .mov (.c (.bool true))⟩]
    [4, 5])
  .ret))))))⟩

def RC.plan_Drop : RFn := ⟨2, [.cell 4 true 3],
  (.seq (.region [⟨some 2, none, .box (.t 0)⟩,
    ⟨some 4, none, .alloc [(.int .i64 0), (u32 0#32), (.slice none 0 0)]⟩]
    [1, 2, 4])
  (.seq (.region [⟨some 8, none, .load true 3 (.t 2)⟩,
    ⟨some 9, none, .call F.plan_clone [.t 8]⟩,
    ⟨some 5, none, .alloc [(.int .i64 0), (u32 0#32), (.slice none 0 0)]⟩,
    ⟨none, none, .store 3 (.t 5) (.t 9)⟩]
    [1, 4, 5])
  (.seq (.seq (.region [⟨some 11, none, .load true 3 (.t 5)⟩,
    ⟨some 12, none, .mov (.t 1)⟩,
    ⟨some 13, none, .call F.plan_find [.t 11, .t 12]⟩,
    ⟨some 10, none, .mov (.t 13)⟩,
    ⟨some 14, none, .ext 0 (.t 10)⟩,
    ⟨some 15, none, .ext 1 (.t 10)⟩,
    ⟨some 6, none, .mov (.t 14)⟩,
    ⟨some 7, none, .mov (.t 15)⟩]
    [4, 5, 6, 7])
  (.seq (.region [⟨some 16, none, .mov (.t 7)⟩]
    [4, 5, 6, 16])
  (.cond (.t 16)
    (.region [⟨some 17, none, .fieldAddr 2 (.t 5)⟩,
      ⟨some 18, none, .load false 1 (.t 17)⟩,
      ⟨some 19, none, .mov (.t 6)⟩,
      ⟨some 20, none, .mov (.t 6)⟩,
      ⟨some 21, none, .bin .add (.t 20) (.c (.int .i64 1))⟩,
      ⟨some 22, none, .call F.slices_Delete_api_Place_api_Place [.t 18, .t 19, .t 21]⟩,
      ⟨some 23, none, .fieldAddr 2 (.t 5)⟩,
      ⟨none, none, .store 1 (.t 23) (.t 22)⟩]
      [4, 5])
    .skip)))
  (.seq (.region [⟨some 24, none, .load true 3 (.t 5)⟩,
    ⟨none, none, .store 3 (.t 4) (.t 24)⟩]
    [4])
  .ret))))⟩

def RC.plan_Same : RFn := ⟨2, [.slot 4],
  (.seq (.region [⟨some 2, none, .box (.t 0)⟩,
    ⟨some 3, none, .box (.t 1)⟩,
    ⟨some 4, none, .mov (.c (.bool false))⟩]
    [2, 3])
  (.seq (.region [⟨some 5, none, .fieldAddr 0 (.t 2)⟩,
    ⟨some 6, none, .load false 1 (.t 5)⟩,
    ⟨some 7, none, .fieldAddr 0 (.t 3)⟩,
    ⟨some 8, none, .load false 1 (.t 7)⟩,
    ⟨some 9, none, .bin .eql (.t 6) (.t 8)⟩,
    ⟨some 10, none, .mov (.t 9)⟩,
    ⟨some 11, some (10, true), .fieldAddr 1 (.t 2)⟩,
    ⟨some 12, some (10, true), .load false 1 (.t 11)⟩,
    ⟨some 13, some (10, true), .fieldAddr 1 (.t 3)⟩,
    ⟨some 14, some (10, true), .load false 1 (.t 13)⟩,
    ⟨some 15, some (10, true), .bin .eql (.t 12) (.t 14)⟩,
    ⟨some 16, none, .pick (.t 10) (.t 15) (.c (.bool false))⟩,
    ⟨some 17, none, .mov (.t 16)⟩,
    ⟨some 18, some (17, true), .fieldAddr 2 (.t 2)⟩,
    ⟨some 19, some (17, true), .load false 1 (.t 18)⟩,
    ⟨some 20, some (17, true), .fieldAddr 2 (.t 3)⟩,
    ⟨some 21, some (17, true), .load false 1 (.t 20)⟩,
    ⟨some 22, some (17, true), .call F.slices_EqualFunc_api_Place_api_Place_api_Place_api_Place [.t 19, .t 21, .f F.plan_SamePlace]⟩,
    ⟨some 23, none, .pick (.t 17) (.t 22) (.c (.bool false))⟩,
    ⟨some 4, none, .mov (.t 23)⟩]
    [4])
  .ret))⟩

def RC.plan_place : RFn := ⟨2, [.slot 4],
  (.seq (.region [⟨some 2, none, .box (.t 0)⟩,
    ⟨some 3, none, .box (.t 1)⟩,
    ⟨some 4, none, .mov (.c (.bool false))⟩]
    [2, 3])
  (.seq (.seq (.region [⟨some 9, none, .fieldAddr 0 (.t 3)⟩,
    ⟨some 10, none, .load false 1 (.t 9)⟩,
    ⟨some 11, none, .call F.order_Kind [.t 10]⟩,
    ⟨some 8, none, .mov (.t 11)⟩,
    ⟨some 12, none, .ext 0 (.t 8)⟩,
    ⟨some 13, none, .ext 1 (.t 8)⟩,
    ⟨some 14, none, .ext 2 (.t 8)⟩,
    ⟨some 5, none, .mov (.t 12)⟩,
    ⟨some 6, none, .mov (.t 13)⟩,
    ⟨some 7, none, .mov (.t 14)⟩]
    [2, 3, 7])
  (.seq (.region [⟨some 15, none, .mov (.t 7)⟩,
    ⟨some 16, none, .un .not (.t 15)⟩,
    ⟨some 17, none, .mov (.t 16)⟩,
    ⟨some 18, some (17, false), .fieldAddr 1 (.t 3)⟩,
    ⟨some 19, some (17, false), .load false 1 (.t 18)⟩,
    ⟨some 20, some (17, false), .bin .lss (.t 19) (.c (.int .i64 1))⟩,
    ⟨some 21, none, .pick (.t 17) (.c (.bool true)) (.t 20)⟩,
    ⟨some 22, none, .mov (.t 21)⟩,
    ⟨some 23, some (22, false), .fieldAddr 1 (.t 3)⟩,
    ⟨some 24, some (22, false), .load false 1 (.t 23)⟩,
    ⟨some 25, some (22, false), .fieldAddr 0 (.t 2)⟩,
    ⟨some 26, some (22, false), .load false 1 (.t 25)⟩,
    ⟨some 27, some (22, false), .bin .gtr (.t 24) (.t 26)⟩,
    ⟨some 28, none, .pick (.t 22) (.c (.bool true)) (.t 27)⟩]
    [2, 3, 28])
  (.cond (.t 28)
    (.seq (.region [⟨some 4, none, .mov (.c (.bool false))⟩]
      [4])
    .ret)
    .skip)))
  (.seq (.seq (.region [⟨some 29, none, .load true 4 (.t 3)⟩,
    ⟨some 30, none, .call F.plan_split [.t 29]⟩]
    [2, 3, 30])
  (.cond (.t 30)
    (.seq (.region [⟨some 31, none, .load true 3 (.t 2)⟩,
      ⟨some 32, none, .load true 4 (.t 3)⟩,
      ⟨some 33, none, .call F.plan_pieces [.t 31, .t 32]⟩,
      ⟨some 4, none, .mov (.t 33)⟩]
      [4])
    .ret)
    .skip))
  (.seq (.region [⟨some 34, none, .load true 3 (.t 2)⟩,
    ⟨some 35, none, .fieldAddr 2 (.t 3)⟩,
    ⟨some 36, none, .load false 1 (.t 35)⟩,
    ⟨some 37, none, .call F.plan_has [.t 34, .t 36]⟩,
    ⟨some 4, none, .mov (.t 37)⟩]
    [4])
  .ret))))⟩

def RB.plan_apart_1 : RCode :=
  (.seq (.region [⟨some 19, none, .bin .lss (.t 18) (.t 17)⟩]
    [3, 9, 10, 11, 16, 17, 18, 19])
  (.seq (.cond (.t 19)
    .skip
    (.exit 2))
  (.seq (.block 3
    (.seq (.region [⟨some 20, none, .idxS 2 (.t 16) (.t 18)⟩,
      ⟨some 21, none, .load true 2 (.t 20)⟩,
      ⟨some 7, none, .alloc [(.int .i64 0), (u64 0#64)]⟩,
      ⟨none, none, .store 2 (.t 7) (.t 21)⟩]
      [3, 7, 9, 10, 11, 16, 17, 18])
    (.seq (.seq (.drawn [⟨some 22, none, .fieldAddr 0 (.t 7)⟩,
      ⟨some 23, none, .load false 1 (.t 22)⟩,
      ⟨some 24, none, .idxP 16 1 (.t 3) (.t 23)⟩,
      ⟨some 25, none, .load false 1 (.t 24)⟩,
      ⟨some 26, none, .fieldAddr 1 (.t 7)⟩,
      ⟨some 27, none, .load false 1 (.t 26)⟩,
      ⟨some 28, none, .bin .and (.t 25) (.t 27)⟩,
      ⟨some 29, none, .bin .neq (.t 28) (.c (u64 0#64))⟩]
      [[], [0], [1], [2], [], [4], [3, 5], [6]]
      [(0, []), (4, []), (1, []), (2, []), (3, []), (5, []), (6, []), (7, [])]
      [[], [0], [0, 1], [0, 1, 2], [], [4], [0, 1, 2, 3, 4, 5], [0, 1, 2, 3, 4, 5, 6]]
      [3, 7, 9, 10, 11, 16, 17, 18, 29])
    (.cond (.t 29)
      (.seq (.region [⟨some 2, none, .mov (.c (.bool false))⟩]
        [2])
      .ret)
      .skip))
    (.drawn [⟨some 30, none, .fieldAddr 0 (.t 7)⟩,
      ⟨some 31, none, .load false 1 (.t 30)⟩,
      ⟨some 32, none, .idxP 16 1 (.t 3) (.t 31)⟩,
      ⟨some 33, none, .load false 1 (.t 32)⟩,
      ⟨some 34, none, .fieldAddr 1 (.t 7)⟩,
      ⟨some 35, none, .load false 1 (.t 34)⟩,
      ⟨some 36, none, .bin .or (.t 33) (.t 35)⟩,
      ⟨some 37, none, .idxP 16 1 (.t 3) (.t 31)⟩,
      ⟨none, none, .store 1 (.t 37) (.t 36)⟩]
      [[], [0], [1], [2], [], [4], [3, 5], [1, 0, 1, 2, 3, 4, 5, 6], [7, 6, 0, 1, 2, 3, 4, 5, 6]]
      [(0, []), (4, []), (1, []), (2, []), (3, []), (5, []), (6, []), (7, []), (8, [])]
      [[], [0], [0, 1], [0, 1, 2], [], [4], [0, 1, 2, 3, 4, 5], [0, 1, 2, 3, 4, 5, 6], [0, 1, 2, 3, 4, 5, 6, 7]]
      [3, 9, 10, 11, 16, 17, 18]))) [3, 9, 10, 11, 16, 17, 18])
  (.region [⟨some 38, none, .bin .add (.t 18) (.c (.int .i64 1))⟩,
    ⟨some 18, none, .mov (.t 38)⟩]
    [3, 9, 10, 11, 16, 17, 18]))))
def RB.plan_apart_2 : RCode :=
  (.seq (.region [⟨some 12, none, .bin .lss (.t 11) (.t 10)⟩]
    [3, 9, 10, 11, 12])
  (.seq (.cond (.t 12)
    .skip
    (.exit 0))
  (.seq (.block 1
    (.seq (.region [⟨some 13, none, .idxS 4 (.t 9) (.t 11)⟩,
      ⟨some 14, none, .load true 4 (.t 13)⟩,
      ⟨some 5, none, .alloc [(.int .i64 0), (.int .i64 0), (.int .i64 0), (.slice none 0 0)]⟩,
      ⟨none, none, .store 4 (.t 5) (.t 14)⟩]
      [3, 5, 9, 10, 11])
    (.seq (.region [⟨some 15, none, .fieldAddr 3 (.t 5)⟩,
      ⟨some 16, none, .load false 1 (.t 15)⟩,
      ⟨some 17, none, .len (.t 16)⟩,
      ⟨some 18, none, .mov (.c (.int .i64 0))⟩]
      [3, 9, 10, 11, 16, 17, 18])
    (.block 2
      (.loop [3, 9, 10, 11, 16, 17, 18] RB.plan_apart_1) [3, 9, 10, 11]))) [3, 9, 10, 11])
  (.region [⟨some 39, none, .bin .add (.t 11) (.c (.int .i64 1))⟩,
    ⟨some 11, none, .mov (.t 39)⟩]
    [3, 9, 10, 11]))))
def RC.plan_apart : RFn := ⟨1, [.slot 2],
  (.seq (.region [⟨some 1, none, .box (.t 0)⟩,
    ⟨some 2, none, .mov (.c (.bool false))⟩]
    [1])
  (.seq (.region [⟨some 3, none, .alloc [(u64 0#64), (u64 0#64), (u64 0#64), (u64 0#64), (u64 0#64), (u64 0#64), (u64 0#64), (u64 0#64), (u64 0#64), (u64 0#64), (u64 0#64), (u64 0#64), (u64 0#64), (u64 0#64), (u64 0#64), (u64 0#64)]⟩]
    [1, 3])
  (.seq (.seq (.region [⟨some 8, none, .fieldAddr 2 (.t 1)⟩,
    ⟨some 9, none, .load false 1 (.t 8)⟩,
    ⟨some 10, none, .len (.t 9)⟩,
    ⟨some 11, none, .mov (.c (.int .i64 0))⟩]
    [3, 9, 10, 11])
  (.block 0
    (.loop [3, 9, 10, 11] RB.plan_apart_2) []))
  (.seq (.region [⟨some 2, none, .mov (.c (.bool true))⟩]
    [2])
  .ret))))⟩

def RB.plan_Splits_1 : RCode :=
  (.seq (.region [⟨some 10, none, .bin .lss (.t 9) (.t 8)⟩]
    [3, 7, 8, 9, 10])
  (.seq (.cond (.t 10)
    .skip
    (.exit 0))
  (.seq (.block 1
    (.seq (.region [⟨some 11, none, .idxS 4 (.t 7) (.t 9)⟩,
      ⟨some 12, none, .load true 4 (.t 11)⟩,
      ⟨some 5, none, .alloc [(.int .i64 0), (.int .i64 0), (.int .i64 0), (.slice none 0 0)]⟩,
      ⟨none, none, .store 4 (.t 5) (.t 12)⟩]
      [3, 5, 7, 8, 9])
    (.seq (.region [⟨some 13, none, .load true 4 (.t 5)⟩,
      ⟨some 14, none, .call F.plan_split [.t 13]⟩]
      [3, 7, 8, 9, 14])
    (.cond (.t 14)
      (.region [⟨some 15, none, .mov (.t 3)⟩,
        ⟨some 16, none, .bin .add (.t 15) (.c (.int .i64 1))⟩,
        ⟨some 3, none, .mov (.t 16)⟩]
        [3, 7, 8, 9])
      .skip))) [3, 7, 8, 9])
  (.region [⟨some 17, none, .bin .add (.t 9) (.c (.int .i64 1))⟩,
    ⟨some 9, none, .mov (.t 17)⟩]
    [3, 7, 8, 9]))))
def RC.plan_Splits : RFn := ⟨1, [.slot 2],
  (.seq (.region [⟨some 1, none, .box (.t 0)⟩,
    ⟨some 2, none, .mov (.c (.int .i64 0))⟩]
    [1])
  (.seq (.region [⟨some 3, none, .mov (.c (.int .i64 0))⟩]
    [1, 3])
  (.seq (.seq (.region [⟨some 6, none, .fieldAddr 2 (.t 1)⟩,
    ⟨some 7, none, .load false 1 (.t 6)⟩,
    ⟨some 8, none, .len (.t 7)⟩,
    ⟨some 9, none, .mov (.c (.int .i64 0))⟩]
    [3, 7, 8, 9])
  (.block 0
    (.loop [3, 7, 8, 9] RB.plan_Splits_1) [3]))
  (.seq (.region [⟨some 18, none, .mov (.t 3)⟩,
    ⟨some 2, none, .mov (.t 18)⟩]
    [2])
  .ret))))⟩

def RB.plan_Cores_1 : RCode :=
  (.seq (.region [⟨some 6, none, .bin .lss (.t 5) (.c (.int .i64 16))⟩]
    [1, 3, 5, 6])
  (.seq (.cond (.t 6)
    .skip
    (.exit 0))
  (.seq (.block 1
    (.seq (.region [⟨some 7, none, .mov (.t 5)⟩,
      ⟨some 4, none, .mov (.t 7)⟩]
      [1, 3, 4, 5])
    (.seq (.region [⟨some 8, none, .load true 3 (.t 1)⟩,
      ⟨some 9, none, .mov (.t 4)⟩,
      ⟨some 10, none, .call F.plan_has [.t 8, .t 9]⟩]
      [1, 3, 4, 5, 10])
    (.cond (.t 10)
      (.region [⟨some 11, none, .mov (.t 3)⟩,
        ⟨some 12, none, .mov (.t 4)⟩,
        ⟨some 13, none, .bslice [(.int .i64 0)] [(0, 1, .t 12)] 1 1⟩,
        ⟨some 14, none, .app 1 8 (.t 11) (.t 13)⟩,
        ⟨some 3, none, .mov (.t 14)⟩]
        [1, 3, 5])
      .skip))) [1, 3, 5])
  (.region [⟨some 15, none, .bin .add (.t 5) (.c (.int .i64 1))⟩,
    ⟨some 5, none, .mov (.t 15)⟩]
    [1, 3, 5]))))
def RC.plan_Cores : RFn := ⟨1, [.slot 2],
  (.seq (.region [⟨some 1, none, .box (.t 0)⟩,
    ⟨some 2, none, .mov (.c (.slice none 0 0))⟩]
    [1])
  (.seq (.region [⟨some 3, none, .mov (.c (.slice none 0 0))⟩]
    [1, 3])
  (.seq (.seq (.region [⟨some 5, none, .mov (.c (.int .i64 0))⟩]
    [1, 3, 5])
  (.block 0
    (.loop [1, 3, 5] RB.plan_Cores_1) [3]))
  (.seq (.region [⟨some 16, none, .mov (.t 3)⟩,
    ⟨some 2, none, .mov (.t 16)⟩]
    [2])
  .ret))))⟩

def RB.plan_left_1 : RCode :=
  (.seq (.region [⟨some 20, none, .bin .lss (.t 19) (.t 18)⟩]
    [5, 17, 18, 19, 20])
  (.seq (.cond (.t 20)
    .skip
    (.exit 0))
  (.seq (.block 1
    (.seq (.region [⟨some 21, none, .idxS 2 (.t 17) (.t 19)⟩,
      ⟨some 22, none, .load true 2 (.t 21)⟩,
      ⟨some 7, none, .alloc [(.int .i64 0), (.int .i64 0)]⟩,
      ⟨none, none, .store 2 (.t 7) (.t 22)⟩]
      [5, 7, 17, 18, 19])
    (.region [⟨some 23, none, .mov (.t 5)⟩,
      ⟨some 24, none, .fieldAddr 1 (.t 7)⟩,
      ⟨some 25, none, .load false 1 (.t 24)⟩,
      ⟨some 26, none, .bin .sub (.t 23) (.t 25)⟩,
      ⟨some 5, none, .mov (.t 26)⟩]
      [5, 17, 18, 19])) [5, 17, 18, 19])
  (.region [⟨some 27, none, .bin .add (.t 19) (.c (.int .i64 1))⟩,
    ⟨some 19, none, .mov (.t 27)⟩]
    [5, 17, 18, 19]))))
def RC.plan_left : RFn := ⟨2, [.slot 4],
  (.seq (.region [⟨some 2, none, .box (.t 0)⟩,
    ⟨some 4, none, .mov (.c (.int .i64 0))⟩]
    [1, 2])
  (.seq (.drawn [⟨some 8, none, .fieldAddr 0 (.t 2)⟩,
    ⟨some 9, none, .load false 1 (.t 8)⟩,
    ⟨some 10, none, .load true 3 (.t 2)⟩,
    ⟨some 11, none, .mov (.t 1)⟩,
    ⟨some 12, none, .call F.plan_Windows [.t 10, .t 11]⟩,
    ⟨some 13, none, .call F.mask_Count [.t 12]⟩,
    ⟨some 14, none, .bin .sub (.t 9) (.t 13)⟩,
    ⟨some 5, none, .mov (.t 14)⟩]
    [[], [0], [], [], [2, 3], [4, 4], [1, 5], [6, 5, 0, 1, 2, 3, 4, 5, 6]]
    [(0, []), (3, []), (1, []), (2, []), (4, [8]), (5, [8]), (6, []), (7, [])]
    [[], [0], [], [], [2, 3], [2, 3, 4], [0, 1, 2, 3, 4, 5], [0, 1, 2, 3, 4, 5, 6]]
    [1, 2, 5])
  (.seq (.seq (.region [⟨some 15, none, .load true 3 (.t 2)⟩,
    ⟨some 16, none, .mov (.t 1)⟩,
    ⟨some 17, none, .call F.plan_Wholes [.t 15, .t 16]⟩,
    ⟨some 18, none, .len (.t 17)⟩,
    ⟨some 19, none, .mov (.c (.int .i64 0))⟩]
    [5, 17, 18, 19])
  (.block 0
    (.loop [5, 17, 18, 19] RB.plan_left_1) [5]))
  (.seq (.region [⟨some 28, none, .mov (.t 5)⟩,
    ⟨some 4, none, .mov (.t 28)⟩]
    [4])
  .ret))))⟩

def RC.diff_some : RFn := ⟨3, [.slot 6],
  (.seq (.region [⟨some 3, none, .box (.t 0)⟩,
    ⟨some 4, none, .box (.t 1)⟩,
    ⟨some 5, none, .box (.t 2)⟩,
    ⟨some 6, none, .mov (.c (.slice none 0 0))⟩]
    [3, 4, 5])
  (.seq (.drawn [⟨some 10, none, .load true 3 (.t 3)⟩,
    ⟨some 11, none, .call F.diff_places [.t 10]⟩,
    ⟨some 12, none, .load true 3 (.t 4)⟩,
    ⟨some 13, none, .call F.diff_places [.t 12]⟩,
    ⟨some 7, none, .alloc [(.map none)]⟩,
    ⟨some 8, none, .alloc [(.map none)]⟩,
    ⟨none, none, .store 1 (.t 7) (.t 11)⟩,
    ⟨none, none, .store 1 (.t 8) (.t 13)⟩]
    [[], [0], [], [2, 1], [], [], [4, 1, 3, 0, 1, 4, 5], [5, 3, 6, 0, 1, 2, 3, 4, 5, 6]]
    [(0, []), (2, []), (1, [4]), (3, []), (4, []), (5, []), (6, []), (7, [])]
    [[], [0], [], [0, 1, 2], [], [], [0, 1, 2, 3, 4, 5], [0, 1, 2, 3, 4, 5, 6]]
    [5, 7, 8])
  (.seq (.region [⟨some 14, none, .load false 1 (.t 7)⟩,
    ⟨some 15, none, .call F.maps_Keys_map_int_api_Place_int_api_Place [.t 14]⟩,
    ⟨some 16, none, .call F.slices_Sorted_int [.t 15]⟩,
    ⟨some 9, none, .mov (.t 16)⟩]
    [5, 7, 8, 9])
  (.seq (.region [⟨some 17, none, .mov (.t 9)⟩,
    ⟨some 18, none, .load false 1 (.t 8)⟩,
    ⟨some 19, none, .call F.maps_Keys_map_int_api_Place_int_api_Place [.t 18]⟩,
    ⟨some 20, none, .call F.slices_Sorted_int [.t 19]⟩,
    ⟨some 21, none, .app 1 8 (.t 17) (.t 20)⟩,
    ⟨some 9, none, .mov (.t 21)⟩]
    [5, 7, 8, 9])
  (.seq (.region [⟨some 22, none, .mov (.t 9)⟩,
    ⟨some 23, none, .call F.slices_Sort_int_int [.t 22]⟩]
    [5, 7, 8, 9])
  (.seq (.region [⟨some 24, none, .mov (.t 9)⟩,
    ⟨some 25, none, .call F.slices_Compact_int_int [.t 24]⟩,
    ⟨some 26, none, .mkfn (.func F.diff_some_1) [] [.t 7, .t 8, .t 5]⟩,
    ⟨some 27, none, .call F.slices_DeleteFunc_int_int [.t 25, .t 26]⟩,
    ⟨some 6, none, .mov (.t 27)⟩]
    [6])
  .ret))))))⟩

def RC.diff_Moved_1 : RFn := ⟨4, [.slot 8],
  (.seq (.region [⟨some 4, none, .box (.t 0)⟩,
    ⟨some 5, none, .box (.t 1)⟩,
    ⟨some 8, none, .mov (.c (.bool false))⟩]
    [2, 3, 4, 5])
  (.seq (.region [⟨some 9, none, .mov (.t 2)⟩,
    ⟨some 10, none, .mov (.t 9)⟩,
    ⟨some 11, some (10, true), .mov (.t 3)⟩,
    ⟨some 12, none, .pick (.t 10) (.t 11) (.c (.bool false))⟩,
    ⟨some 13, none, .mov (.t 12)⟩,
    ⟨some 14, some (13, true), .load true 4 (.t 4)⟩,
    ⟨some 15, some (13, true), .load true 4 (.t 5)⟩,
    ⟨some 16, some (13, true), .call F.diff_moved [.t 14, .t 15]⟩,
    ⟨some 17, none, .pick (.t 13) (.t 16) (.c (.bool false))⟩,
    ⟨some 8, none, .mov (.t 17)⟩]
    [8])
  .ret))⟩

def RC.diff_moved : RFn := ⟨2, [.slot 4],
  (.seq (.region [⟨some 2, none, .box (.t 0)⟩,
    ⟨some 3, none, .box (.t 1)⟩,
    ⟨some 4, none, .mov (.c (.bool false))⟩]
    [2, 3])
  (.seq (.region [⟨some 5, none, .fieldAddr 3 (.t 2)⟩,
    ⟨some 6, none, .load false 1 (.t 5)⟩,
    ⟨some 7, none, .fieldAddr 3 (.t 3)⟩,
    ⟨some 8, none, .load false 1 (.t 7)⟩,
    ⟨some 9, none, .call F.slices_Equal_api_Piece_api_Piece [.t 6, .t 8]⟩,
    ⟨some 10, none, .un .not (.t 9)⟩,
    ⟨some 11, none, .mov (.t 10)⟩,
    ⟨some 12, some (11, false), .fieldAddr 3 (.t 2)⟩,
    ⟨some 13, some (11, false), .load false 1 (.t 12)⟩,
    ⟨some 14, some (11, false), .len (.t 13)⟩,
    ⟨some 15, some (11, false), .bin .eql (.t 14) (.c (.int .i64 0))⟩,
    ⟨some 16, some (11, false), .mov (.t 15)⟩,
    ⟨some 17, some (16, true), .fieldAddr 2 (.t 2)⟩,
    ⟨some 18, some (16, true), .load false 1 (.t 17)⟩,
    ⟨some 19, some (16, true), .fieldAddr 2 (.t 3)⟩,
    ⟨some 20, some (16, true), .load false 1 (.t 19)⟩,
    ⟨some 21, some (16, true), .bin .neq (.t 18) (.t 20)⟩,
    ⟨some 22, some (11, false), .pick (.t 16) (.t 21) (.c (.bool false))⟩,
    ⟨some 23, none, .pick (.t 11) (.c (.bool true)) (.t 22)⟩,
    ⟨some 4, none, .mov (.t 23)⟩]
    [4])
  .ret))⟩

def RC.plan_find : RFn := ⟨2, [.slot 4, .slot 5],
  (.seq (.region [⟨some 2, none, .box (.t 0)⟩,
    ⟨some 4, none, .mov (.c (.int .i64 0))⟩,
    ⟨some 5, none, .mov (.c (.bool false))⟩]
    [1, 2])
  (.seq (.region [⟨some 6, none, .fieldAddr 2 (.t 2)⟩,
    ⟨some 7, none, .load false 1 (.t 6)⟩,
    ⟨some 8, none, .mov (.t 1)⟩,
    ⟨some 9, none, .call F.slices_BinarySearchFunc_api_Place_api_Place_int [.t 7, .t 8, .f F.plan_find_1]⟩,
    ⟨some 10, none, .ext 0 (.t 9)⟩,
    ⟨some 11, none, .ext 1 (.t 9)⟩,
    ⟨some 4, none, .mov (.t 10)⟩,
    ⟨some 5, none, .mov (.t 11)⟩]
    [4, 5])
  .ret))⟩

def RC.slices_Clone_api_Piece_api_Piece : RFn := ⟨1, [.slot 2],
  (.seq (.region [⟨some 2, none, .mov (.c (.slice none 0 0))⟩]
    [0])
  (.seq (.seq (.region [⟨some 3, none, .mov (.t 0)⟩,
    ⟨some 4, none, .eq false .slice (.t 3) (.c (.slice none 0 0))⟩]
    [0, 4])
  (.cond (.t 4)
    (.seq (.region [⟨some 2, none, .mov (.c (.slice none 0 0))⟩]
      [2])
    .ret)
    .skip))
  (.seq (.region [⟨some 5, none, .bslice [] [] 0 2⟩,
    ⟨some 6, none, .mov (.t 0)⟩,
    ⟨some 7, none, .app 2 16 (.t 5) (.t 6)⟩,
    ⟨some 2, none, .mov (.t 7)⟩]
    [2])
  .ret)))⟩

def RB.plan_clone_1 : RCode :=
  (.seq (.region [⟨some 14, none, .bin .lss (.t 13) (.t 12)⟩]
    [1, 2, 3, 11, 12, 13, 14])
  (.seq (.cond (.t 14)
    .skip
    (.exit 0))
  (.seq (.block 1
    (.seq (.region [⟨some 15, none, .idxS 4 (.t 11) (.t 13)⟩,
      ⟨some 16, none, .load true 4 (.t 15)⟩,
      ⟨some 5, none, .alloc [(.int .i64 0), (.int .i64 0), (.int .i64 0), (.slice none 0 0)]⟩,
      ⟨none, none, .store 4 (.t 5) (.t 16)⟩]
      [1, 2, 3, 5, 11, 12, 13])
    (.seq (.region [⟨some 17, none, .fieldAddr 3 (.t 5)⟩,
      ⟨some 18, none, .load false 1 (.t 17)⟩,
      ⟨some 19, none, .call F.slices_Clone_api_Piece_api_Piece [.t 18]⟩,
      ⟨some 20, none, .fieldAddr 3 (.t 5)⟩,
      ⟨none, none, .store 1 (.t 20) (.t 19)⟩]
      [1, 2, 3, 5, 11, 12, 13])
    (.region [⟨some 21, none, .mov (.t 3)⟩,
      ⟨some 22, none, .load true 4 (.t 5)⟩,
      ⟨some 23, none, .bslice [(.int .i64 0), (.int .i64 0), (.int .i64 0), (.slice none 0 0)] [(0, 4, .t 22)] 1 4⟩,
      ⟨some 24, none, .app 4 48 (.t 21) (.t 23)⟩,
      ⟨some 3, none, .mov (.t 24)⟩]
      [1, 2, 3, 11, 12, 13]))) [1, 2, 3, 11, 12, 13])
  (.region [⟨some 25, none, .bin .add (.t 13) (.c (.int .i64 1))⟩,
    ⟨some 13, none, .mov (.t 25)⟩]
    [1, 2, 3, 11, 12, 13]))))
def RC.plan_clone : RFn := ⟨1, [.cell 2 true 3],
  (.seq (.region [⟨some 1, none, .box (.t 0)⟩,
    ⟨some 2, none, .alloc [(.int .i64 0), (u32 0#32), (.slice none 0 0)]⟩]
    [1, 2])
  (.seq (.region [⟨some 6, none, .fieldAddr 2 (.t 1)⟩,
    ⟨some 7, none, .load false 1 (.t 6)⟩,
    ⟨some 8, none, .len (.t 7)⟩,
    ⟨some 9, none, .mkslice 4 48 [(.int .i64 0), (.int .i64 0), (.int .i64 0), (.slice none 0 0)] (.c (.int .i64 0)) (.t 8)⟩,
    ⟨some 3, none, .mov (.t 9)⟩]
    [1, 2, 3])
  (.seq (.seq (.region [⟨some 10, none, .fieldAddr 2 (.t 1)⟩,
    ⟨some 11, none, .load false 1 (.t 10)⟩,
    ⟨some 12, none, .len (.t 11)⟩,
    ⟨some 13, none, .mov (.c (.int .i64 0))⟩]
    [1, 2, 3, 11, 12, 13])
  (.block 0
    (.loop [1, 2, 3, 11, 12, 13] RB.plan_clone_1) [1, 2, 3]))
  (.seq (.region [⟨some 26, none, .mov (.t 3)⟩,
    ⟨some 27, none, .fieldAddr 2 (.t 1)⟩,
    ⟨none, none, .store 1 (.t 27) (.t 26)⟩]
    [1, 2])
  (.seq (.region [⟨some 28, none, .load true 3 (.t 1)⟩,
    ⟨none, none, .store 3 (.t 2) (.t 28)⟩]
    [2])
  .ret)))))⟩

def RC.slices_Delete_api_Place_api_Place : RFn := ⟨3, [.slot 6],
  (.seq (.region [⟨some 6, none, .mov (.c (.slice none 0 0))⟩]
    [0, 1, 2])
  (.seq (.region [⟨some 8, none, .mov (.t 0)⟩,
    ⟨some 9, none, .mov (.t 1)⟩,
    ⟨some 10, none, .mov (.t 2)⟩,
    ⟨some 11, none, .mov (.t 0)⟩,
    ⟨some 12, none, .len (.t 11)⟩,
    ⟨some 13, none, .sub 4 (.t 8) (some (.t 9)) (some (.t 10)) (some (.t 12))⟩]
    [0, 1, 2])
  (.seq (.seq (.region [⟨some 14, none, .mov (.t 1)⟩,
    ⟨some 15, none, .mov (.t 2)⟩,
    ⟨some 16, none, .bin .eql (.t 14) (.t 15)⟩]
    [0, 1, 2, 16])
  (.cond (.t 16)
    (.seq (.region [⟨some 17, none, .mov (.t 0)⟩,
      ⟨some 6, none, .mov (.t 17)⟩]
      [6])
    .ret)
    .skip))
  (.seq (.region [⟨some 18, none, .mov (.t 0)⟩,
    ⟨some 19, none, .len (.t 18)⟩,
    ⟨some 7, none, .mov (.t 19)⟩]
    [0, 1, 2, 7])
  (.seq (.drawn [⟨some 20, none, .mov (.t 0)⟩,
    ⟨some 21, none, .mov (.t 1)⟩,
    ⟨some 22, none, .sub 4 (.t 20) none (some (.t 21)) none⟩,
    ⟨some 23, none, .mov (.t 0)⟩,
    ⟨some 24, none, .mov (.t 2)⟩,
    ⟨some 25, none, .sub 4 (.t 23) (some (.t 24)) none none⟩,
    ⟨some 26, none, .app 4 48 (.t 22) (.t 25)⟩,
    ⟨some 0, none, .mov (.t 26)⟩]
    [[], [], [0, 1], [], [], [3, 4], [2, 5], [6, 6, 0, 1, 2, 3, 4, 5, 6]]
    [(0, []), (1, []), (3, []), (4, []), (2, []), (5, []), (6, []), (7, [])]
    [[], [], [0, 1], [], [], [3, 4], [0, 1, 2, 3, 4, 5], [0, 1, 2, 3, 4, 5, 6]]
    [0, 7])
  (.seq (.region [⟨some 27, none, .mov (.t 0)⟩,
    ⟨some 28, none, .mov (.t 0)⟩,
    ⟨some 29, none, .len (.t 28)⟩,
    ⟨some 30, none, .mov (.t 7)⟩,
    ⟨some 31, none, .sub 4 (.t 27) (some (.t 29)) (some (.t 30)) none⟩,
    ⟨none, none, .clr 4 [(.int .i64 0), (.int .i64 0), (.int .i64 0), (.slice none 0 0)] (.t 31)⟩]
    [0])
  (.seq (.region [⟨some 32, none, .mov (.t 0)⟩,
    ⟨some 6, none, .mov (.t 32)⟩]
    [6])
  .ret)))))))⟩

def RB.slices_EqualFunc_api_Place_api_Place_api_Place_api_Place_1 : RCode :=
  (.seq (.region [⟨some 18, none, .bin .lss (.t 17) (.t 16)⟩]
    [1, 2, 15, 16, 17, 18])
  (.seq (.cond (.t 18)
    .skip
    (.exit 0))
  (.seq (.block 1
    (.seq (.region [⟨some 19, none, .mov (.t 17)⟩,
      ⟨some 20, none, .idxS 4 (.t 15) (.t 17)⟩,
      ⟨some 21, none, .load true 4 (.t 20)⟩,
      ⟨some 8, none, .alloc [(.int .i64 0), (.int .i64 0), (.int .i64 0), (.slice none 0 0)]⟩,
      ⟨some 7, none, .mov (.t 19)⟩,
      ⟨none, none, .store 4 (.t 8) (.t 21)⟩]
      [1, 2, 7, 8, 15, 16, 17])
    (.seq (.region [⟨some 22, none, .mov (.t 1)⟩,
      ⟨some 23, none, .mov (.t 7)⟩,
      ⟨some 24, none, .idxS 4 (.t 22) (.t 23)⟩,
      ⟨some 25, none, .load true 4 (.t 24)⟩,
      ⟨some 9, none, .alloc [(.int .i64 0), (.int .i64 0), (.int .i64 0), (.slice none 0 0)]⟩,
      ⟨none, none, .store 4 (.t 9) (.t 25)⟩]
      [1, 2, 8, 9, 15, 16, 17])
    (.seq (.region [⟨some 26, none, .mov (.t 2)⟩,
      ⟨some 27, none, .load true 4 (.t 8)⟩,
      ⟨some 28, none, .load true 4 (.t 9)⟩,
      ⟨some 29, none, .callv (.t 26) [.t 27, .t 28]⟩,
      ⟨some 30, none, .un .not (.t 29)⟩]
      [1, 2, 15, 16, 17, 30])
    (.cond (.t 30)
      (.seq (.region [⟨some 6, none, .mov (.c (.bool false))⟩]
        [6])
      .ret)
      .skip)))) [1, 2, 15, 16, 17])
  (.region [⟨some 31, none, .bin .add (.t 17) (.c (.int .i64 1))⟩,
    ⟨some 17, none, .mov (.t 31)⟩]
    [1, 2, 15, 16, 17]))))
def RC.slices_EqualFunc_api_Place_api_Place_api_Place_api_Place : RFn := ⟨3, [.slot 6],
  (.seq (.region [⟨some 6, none, .mov (.c (.bool false))⟩]
    [0, 1, 2])
  (.seq (.seq (.region [⟨some 10, none, .mov (.t 0)⟩,
    ⟨some 11, none, .len (.t 10)⟩,
    ⟨some 12, none, .mov (.t 1)⟩,
    ⟨some 13, none, .len (.t 12)⟩,
    ⟨some 14, none, .bin .neq (.t 11) (.t 13)⟩]
    [0, 1, 2, 14])
  (.cond (.t 14)
    (.seq (.region [⟨some 6, none, .mov (.c (.bool false))⟩]
      [6])
    .ret)
    .skip))
  (.seq (.seq (.region [⟨some 15, none, .mov (.t 0)⟩,
    ⟨some 16, none, .len (.t 15)⟩,
    ⟨some 17, none, .mov (.c (.int .i64 0))⟩]
    [1, 2, 15, 16, 17])
  (.block 0
    (.loop [1, 2, 15, 16, 17] RB.slices_EqualFunc_api_Place_api_Place_api_Place_api_Place_1) []))
  (.seq (.region [⟨some 6, none, .mov (.c (.bool true))⟩]
    [6])
  .ret))))⟩

def RC.plan_SamePlace : RFn := ⟨2, [.slot 4],
  (.seq (.region [⟨some 2, none, .box (.t 0)⟩,
    ⟨some 3, none, .box (.t 1)⟩,
    ⟨some 4, none, .mov (.c (.bool false))⟩]
    [2, 3])
  (.seq (.region [⟨some 5, none, .fieldAddr 0 (.t 2)⟩,
    ⟨some 6, none, .load false 1 (.t 5)⟩,
    ⟨some 7, none, .fieldAddr 0 (.t 3)⟩,
    ⟨some 8, none, .load false 1 (.t 7)⟩,
    ⟨some 9, none, .bin .eql (.t 6) (.t 8)⟩,
    ⟨some 10, none, .mov (.t 9)⟩,
    ⟨some 11, some (10, true), .fieldAddr 1 (.t 2)⟩,
    ⟨some 12, some (10, true), .load false 1 (.t 11)⟩,
    ⟨some 13, some (10, true), .fieldAddr 1 (.t 3)⟩,
    ⟨some 14, some (10, true), .load false 1 (.t 13)⟩,
    ⟨some 15, some (10, true), .bin .eql (.t 12) (.t 14)⟩,
    ⟨some 16, none, .pick (.t 10) (.t 15) (.c (.bool false))⟩,
    ⟨some 17, none, .mov (.t 16)⟩,
    ⟨some 18, some (17, true), .fieldAddr 2 (.t 2)⟩,
    ⟨some 19, some (17, true), .load false 1 (.t 18)⟩,
    ⟨some 20, some (17, true), .fieldAddr 2 (.t 3)⟩,
    ⟨some 21, some (17, true), .load false 1 (.t 20)⟩,
    ⟨some 22, some (17, true), .bin .eql (.t 19) (.t 21)⟩,
    ⟨some 23, none, .pick (.t 17) (.t 22) (.c (.bool false))⟩,
    ⟨some 24, none, .mov (.t 23)⟩,
    ⟨some 25, some (24, true), .fieldAddr 3 (.t 2)⟩,
    ⟨some 26, some (24, true), .load false 1 (.t 25)⟩,
    ⟨some 27, some (24, true), .fieldAddr 3 (.t 3)⟩,
    ⟨some 28, some (24, true), .load false 1 (.t 27)⟩,
    ⟨some 29, some (24, true), .call F.slices_Equal_api_Piece_api_Piece [.t 26, .t 28]⟩,
    ⟨some 30, none, .pick (.t 24) (.t 29) (.c (.bool false))⟩,
    ⟨some 4, none, .mov (.t 30)⟩]
    [4])
  .ret))⟩

def RC.order_Kind : RFn := ⟨1, [.slot 2, .slot 3, .slot 4],
  (.seq (.region [⟨some 2, none, .mov (.c (.int .i64 0))⟩,
    ⟨some 3, none, .mov (.c (.bool false))⟩,
    ⟨some 4, none, .mov (.c (.bool false))⟩]
    [0])
  (.seq (.block 0
    (.seq (.region [⟨some 6, none, .mov (.t 0)⟩,
      ⟨some 7, none, .bin .geq (.t 6) (.c (.int .i64 1))⟩,
      ⟨some 8, none, .mov (.t 7)⟩,
      ⟨some 9, some (8, true), .mov (.t 0)⟩,
      ⟨some 10, some (8, true), .bin .leq (.t 9) (.c (.int .i64 200))⟩,
      ⟨some 11, none, .pick (.t 8) (.t 10) (.c (.bool false))⟩,
      ⟨some 5, none, .mov (.t 11)⟩]
      [0, 5])
    (.cond (.t 5)
      (.seq (.region [⟨some 12, none, .mov (.t 0)⟩,
        ⟨some 2, none, .mov (.t 12)⟩,
        ⟨some 3, none, .mov (.c (.bool false))⟩,
        ⟨some 4, none, .mov (.c (.bool true))⟩]
        [2, 3, 4])
      .ret)
      (.seq (.region [⟨some 14, none, .mov (.t 0)⟩,
        ⟨some 15, none, .bin .gtr (.t 14) (.c (.int .i64 1000))⟩,
        ⟨some 16, none, .mov (.t 15)⟩,
        ⟨some 17, some (16, true), .mov (.t 0)⟩,
        ⟨some 18, some (16, true), .bin .leq (.t 17) (.c (.int .i64 1040))⟩,
        ⟨some 19, none, .pick (.t 16) (.t 18) (.c (.bool false))⟩,
        ⟨some 13, none, .mov (.t 19)⟩]
        [0, 13])
      (.cond (.t 13)
        (.seq (.region [⟨some 20, none, .mov (.t 0)⟩,
          ⟨some 21, none, .bin .sub (.t 20) (.c (.int .i64 1000))⟩,
          ⟨some 2, none, .mov (.t 21)⟩,
          ⟨some 3, none, .mov (.c (.bool true))⟩,
          ⟨some 4, none, .mov (.c (.bool true))⟩]
          [2, 3, 4])
        .ret)
        .skip)))) [])
  (.seq (.region [⟨some 2, none, .mov (.c (.int .i64 0))⟩,
    ⟨some 3, none, .mov (.c (.bool false))⟩,
    ⟨some 4, none, .mov (.c (.bool false))⟩]
    [2, 3, 4])
  .ret)))⟩

def RC.plan_split : RFn := ⟨1, [.slot 2],
  (.seq (.region [⟨some 1, none, .box (.t 0)⟩,
    ⟨some 2, none, .mov (.c (.bool false))⟩]
    [1])
  (.seq (.region [⟨some 3, none, .fieldAddr 3 (.t 1)⟩,
    ⟨some 4, none, .load false 1 (.t 3)⟩,
    ⟨some 5, none, .len (.t 4)⟩,
    ⟨some 6, none, .bin .gtr (.t 5) (.c (.int .i64 0))⟩,
    ⟨some 2, none, .mov (.t 6)⟩]
    [2])
  .ret))⟩

def RB.plan_pieces_1 : RCode :=
  (.seq (.region [⟨some 12, none, .bin .lss (.t 11) (.t 10)⟩]
    [2, 3, 5, 9, 10, 11, 12])
  (.seq (.cond (.t 12)
    .skip
    (.exit 0))
  (.seq (.block 1
    (.seq (.region [⟨some 13, none, .mov (.t 11)⟩,
      ⟨some 14, none, .idxS 2 (.t 9) (.t 11)⟩,
      ⟨some 15, none, .load true 2 (.t 14)⟩,
      ⟨some 7, none, .alloc [(.int .i64 0), (u64 0#64)]⟩,
      ⟨some 6, none, .mov (.t 13)⟩,
      ⟨none, none, .store 2 (.t 7) (.t 15)⟩]
      [2, 3, 5, 6, 7, 9, 10, 11])
    (.seq (.seq (.drawn [⟨some 16, none, .load true 3 (.t 2)⟩,
      ⟨some 17, none, .fieldAddr 0 (.t 7)⟩,
      ⟨some 18, none, .load false 1 (.t 17)⟩,
      ⟨some 19, none, .call F.plan_has [.t 16, .t 18]⟩,
      ⟨some 20, none, .un .not (.t 19)⟩,
      ⟨some 21, none, .mov (.t 20)⟩,
      ⟨some 22, some (21, false), .mov (.t 6)⟩,
      ⟨some 23, some (21, false), .bin .gtr (.t 22) (.c (.int .i64 0))⟩,
      ⟨some 24, some (21, false), .mov (.t 23)⟩,
      ⟨some 25, some (24, true), .fieldAddr 0 (.t 7)⟩,
      ⟨some 26, some (24, true), .load false 1 (.t 25)⟩,
      ⟨some 27, some (24, true), .fieldAddr 3 (.t 3)⟩,
      ⟨some 28, some (24, true), .load false 1 (.t 27)⟩,
      ⟨some 29, some (24, true), .mov (.t 6)⟩,
      ⟨some 30, some (24, true), .bin .sub (.t 29) (.c (.int .i64 1))⟩,
      ⟨some 31, some (24, true), .idxS 2 (.t 28) (.t 30)⟩,
      ⟨some 32, some (24, true), .fieldAddr 0 (.t 31)⟩,
      ⟨some 33, some (24, true), .load false 1 (.t 32)⟩,
      ⟨some 34, some (24, true), .bin .leq (.t 26) (.t 33)⟩,
      ⟨some 35, some (21, false), .pick (.t 24) (.t 34) (.c (.bool false))⟩,
      ⟨some 36, none, .pick (.t 21) (.c (.bool true)) (.t 35)⟩,
      ⟨some 37, none, .mov (.t 36)⟩,
      ⟨some 38, some (37, false), .fieldAddr 1 (.t 7)⟩,
      ⟨some 39, some (37, false), .load false 1 (.t 38)⟩,
      ⟨some 40, some (37, false), .bin .eql (.t 39) (.c (u64 0#64))⟩,
      ⟨some 41, none, .pick (.t 37) (.c (.bool true)) (.t 40)⟩,
      ⟨some 42, none, .mov (.t 41)⟩,
      ⟨some 43, some (42, false), .fieldAddr 1 (.t 7)⟩,
      ⟨some 44, some (42, false), .load false 1 (.t 43)⟩,
      ⟨some 45, some (42, false), .fieldAddr 0 (.t 2)⟩,
      ⟨some 46, some (42, false), .load false 1 (.t 45)⟩,
      ⟨some 47, some (42, false), .call F.mask_All [.t 46]⟩,
      ⟨some 48, some (42, false), .bin .andNot (.t 44) (.t 47)⟩,
      ⟨some 49, some (42, false), .bin .neq (.t 48) (.c (u64 0#64))⟩,
      ⟨some 50, none, .pick (.t 42) (.c (.bool true)) (.t 49)⟩,
      ⟨some 51, none, .mov (.t 50)⟩,
      ⟨some 52, some (51, false), .fieldAddr 1 (.t 7)⟩,
      ⟨some 53, some (51, false), .load false 1 (.t 52)⟩,
      ⟨some 54, some (51, false), .mov (.t 5)⟩,
      ⟨some 55, some (51, false), .bin .and (.t 53) (.t 54)⟩,
      ⟨some 56, some (51, false), .bin .neq (.t 55) (.c (u64 0#64))⟩,
      ⟨some 57, none, .pick (.t 51) (.c (.bool true)) (.t 56)⟩]
      [[], [], [1], [0, 2], [3], [4, 3], [5], [6, 5], [7, 5, 5], [8], [9, 8], [8], [11, 8], [8], [13, 8], [12, 14, 8], [15, 8], [16, 8], [10, 17, 8], [8, 18, 5], [5, 19], [20, 8], [21], [22, 21], [23, 21], [21, 24], [25, 21], [26], [27, 26], [26], [29, 26], [30, 26, 26], [28, 31, 26], [32, 26], [26, 33], [34, 31], [35], [36, 35], [35], [37, 38, 35], [39, 35], [35, 40]]
      [(1, []), (0, []), (2, []), (3, []), (4, []), (5, []), (6, []), (7, []), (8, []), (9, []), (11, []), (13, []), (14, []), (10, []), (12, []), (15, []), (16, []), (17, []), (18, []), (19, []), (20, []), (21, []), (22, []), (23, []), (24, []), (25, []), (26, []), (27, []), (29, []), (28, []), (30, []), (31, [43]), (32, []), (33, []), (34, []), (35, []), (36, []), (38, []), (37, []), (39, []), (40, []), (41, [])]
      [[], [], [1], [0, 1, 2], [0, 1, 2, 3], [0, 1, 2, 3, 4], [0, 1, 2, 3, 4, 5], [0, 1, 2, 3, 4, 5, 6], [0, 1, 2, 3, 4, 5, 6, 7], [0, 1, 2, 3, 4, 5, 6, 7, 8], [0, 1, 2, 3, 4, 5, 6, 7, 8, 9], [0, 1, 2, 3, 4, 5, 6, 7, 8], [0, 1, 2, 3, 4, 5, 6, 7, 8, 11], [0, 1, 2, 3, 4, 5, 6, 7, 8], [0, 1, 2, 3, 4, 5, 6, 7, 8, 13], [0, 1, 2, 3, 4, 5, 6, 7, 8, 11, 12, 13, 14], [0, 1, 2, 3, 4, 5, 6, 7, 8, 11, 12, 13, 14, 15], [0, 1, 2, 3, 4, 5, 6, 7, 8, 11, 12, 13, 14, 15, 16], [0, 1, 2, 3, 4, 5, 6, 7, 8, 9, 10, 11, 12, 13, 14, 15, 16, 17], [0, 1, 2, 3, 4, 5, 6, 7, 8, 9, 10, 11, 12, 13, 14, 15, 16, 17, 18], [0, 1, 2, 3, 4, 5, 6, 7, 8, 9, 10, 11, 12, 13, 14, 15, 16, 17, 18, 19], [0, 1, 2, 3, 4, 5, 6, 7, 8, 9, 10, 11, 12, 13, 14, 15, 16, 17, 18, 19, 20], [0, 1, 2, 3, 4, 5, 6, 7, 8, 9, 10, 11, 12, 13, 14, 15, 16, 17, 18, 19, 20, 21], [0, 1, 2, 3, 4, 5, 6, 7, 8, 9, 10, 11, 12, 13, 14, 15, 16, 17, 18, 19, 20, 21, 22], [0, 1, 2, 3, 4, 5, 6, 7, 8, 9, 10, 11, 12, 13, 14, 15, 16, 17, 18, 19, 20, 21, 22, 23], [0, 1, 2, 3, 4, 5, 6, 7, 8, 9, 10, 11, 12, 13, 14, 15, 16, 17, 18, 19, 20, 21, 22, 23, 24], [0, 1, 2, 3, 4, 5, 6, 7, 8, 9, 10, 11, 12, 13, 14, 15, 16, 17, 18, 19, 20, 21, 22, 23, 24, 25], [0, 1, 2, 3, 4, 5, 6, 7, 8, 9, 10, 11, 12, 13, 14, 15, 16, 17, 18, 19, 20, 21, 22, 23, 24, 25, 26], [0, 1, 2, 3, 4, 5, 6, 7, 8, 9, 10, 11, 12, 13, 14, 15, 16, 17, 18, 19, 20, 21, 22, 23, 24, 25, 26, 27], [0, 1, 2, 3, 4, 5, 6, 7, 8, 9, 10, 11, 12, 13, 14, 15, 16, 17, 18, 19, 20, 21, 22, 23, 24, 25, 26], [0, 1, 2, 3, 4, 5, 6, 7, 8, 9, 10, 11, 12, 13, 14, 15, 16, 17, 18, 19, 20, 21, 22, 23, 24, 25, 26, 29], [0, 1, 2, 3, 4, 5, 6, 7, 8, 9, 10, 11, 12, 13, 14, 15, 16, 17, 18, 19, 20, 21, 22, 23, 24, 25, 26, 29, 30], [0, 1, 2, 3, 4, 5, 6, 7, 8, 9, 10, 11, 12, 13, 14, 15, 16, 17, 18, 19, 20, 21, 22, 23, 24, 25, 26, 27, 28, 29, 30, 31], [0, 1, 2, 3, 4, 5, 6, 7, 8, 9, 10, 11, 12, 13, 14, 15, 16, 17, 18, 19, 20, 21, 22, 23, 24, 25, 26, 27, 28, 29, 30, 31, 32], [0, 1, 2, 3, 4, 5, 6, 7, 8, 9, 10, 11, 12, 13, 14, 15, 16, 17, 18, 19, 20, 21, 22, 23, 24, 25, 26, 27, 28, 29, 30, 31, 32, 33], [0, 1, 2, 3, 4, 5, 6, 7, 8, 9, 10, 11, 12, 13, 14, 15, 16, 17, 18, 19, 20, 21, 22, 23, 24, 25, 26, 27, 28, 29, 30, 31, 32, 33, 34], [0, 1, 2, 3, 4, 5, 6, 7, 8, 9, 10, 11, 12, 13, 14, 15, 16, 17, 18, 19, 20, 21, 22, 23, 24, 25, 26, 27, 28, 29, 30, 31, 32, 33, 34, 35], [0, 1, 2, 3, 4, 5, 6, 7, 8, 9, 10, 11, 12, 13, 14, 15, 16, 17, 18, 19, 20, 21, 22, 23, 24, 25, 26, 27, 28, 29, 30, 31, 32, 33, 34, 35, 36], [0, 1, 2, 3, 4, 5, 6, 7, 8, 9, 10, 11, 12, 13, 14, 15, 16, 17, 18, 19, 20, 21, 22, 23, 24, 25, 26, 27, 28, 29, 30, 31, 32, 33, 34, 35], [0, 1, 2, 3, 4, 5, 6, 7, 8, 9, 10, 11, 12, 13, 14, 15, 16, 17, 18, 19, 20, 21, 22, 23, 24, 25, 26, 27, 28, 29, 30, 31, 32, 33, 34, 35, 36, 37, 38], [0, 1, 2, 3, 4, 5, 6, 7, 8, 9, 10, 11, 12, 13, 14, 15, 16, 17, 18, 19, 20, 21, 22, 23, 24, 25, 26, 27, 28, 29, 30, 31, 32, 33, 34, 35, 36, 37, 38, 39], [0, 1, 2, 3, 4, 5, 6, 7, 8, 9, 10, 11, 12, 13, 14, 15, 16, 17, 18, 19, 20, 21, 22, 23, 24, 25, 26, 27, 28, 29, 30, 31, 32, 33, 34, 35, 36, 37, 38, 39, 40]]
      [2, 3, 5, 7, 9, 10, 11, 57])
    (.cond (.t 57)
      (.seq (.region [⟨some 4, none, .mov (.c (.bool false))⟩]
        [4])
      .ret)
      .skip))
    (.region [⟨some 58, none, .mov (.t 5)⟩,
      ⟨some 59, none, .fieldAddr 1 (.t 7)⟩,
      ⟨some 60, none, .load false 1 (.t 59)⟩,
      ⟨some 61, none, .bin .or (.t 58) (.t 60)⟩,
      ⟨some 5, none, .mov (.t 61)⟩]
      [2, 3, 5, 9, 10, 11]))) [2, 3, 5, 9, 10, 11])
  (.region [⟨some 62, none, .bin .add (.t 11) (.c (.int .i64 1))⟩,
    ⟨some 11, none, .mov (.t 62)⟩]
    [2, 3, 5, 9, 10, 11]))))
def RC.plan_pieces : RFn := ⟨2, [.slot 4],
  (.seq (.region [⟨some 2, none, .box (.t 0)⟩,
    ⟨some 3, none, .box (.t 1)⟩,
    ⟨some 4, none, .mov (.c (.bool false))⟩]
    [2, 3])
  (.seq (.region [⟨some 5, none, .mov (.c (u64 0#64))⟩]
    [2, 3, 5])
  (.seq (.seq (.region [⟨some 8, none, .fieldAddr 3 (.t 3)⟩,
    ⟨some 9, none, .load false 1 (.t 8)⟩,
    ⟨some 10, none, .len (.t 9)⟩,
    ⟨some 11, none, .mov (.c (.int .i64 0))⟩]
    [2, 3, 5, 9, 10, 11])
  (.block 0
    (.loop [2, 3, 5, 9, 10, 11] RB.plan_pieces_1) [3, 5]))
  (.seq (.drawn [⟨some 63, none, .fieldAddr 3 (.t 3)⟩,
    ⟨some 64, none, .load false 1 (.t 63)⟩,
    ⟨some 65, none, .len (.t 64)⟩,
    ⟨some 66, none, .bin .gtr (.t 65) (.c (.int .i64 1))⟩,
    ⟨some 67, none, .mov (.t 66)⟩,
    ⟨some 68, some (67, true), .fieldAddr 2 (.t 3)⟩,
    ⟨some 69, some (67, true), .load false 1 (.t 68)⟩,
    ⟨some 70, some (67, true), .bin .eql (.t 69) (.c (.int .i64 0))⟩,
    ⟨some 71, none, .pick (.t 67) (.t 70) (.c (.bool false))⟩,
    ⟨some 72, none, .mov (.t 71)⟩,
    ⟨some 73, some (72, true), .mov (.t 5)⟩,
    ⟨some 74, some (72, true), .call F.mask_Count [.t 73]⟩,
    ⟨some 75, some (72, true), .fieldAddr 1 (.t 3)⟩,
    ⟨some 76, some (72, true), .load false 1 (.t 75)⟩,
    ⟨some 77, some (72, true), .bin .eql (.t 74) (.t 76)⟩,
    ⟨some 78, none, .pick (.t 72) (.t 77) (.c (.bool false))⟩,
    ⟨some 4, none, .mov (.t 78)⟩]
    [[], [0], [1], [2], [3], [4], [5, 4], [6, 4], [4, 7], [8, 4], [9], [10, 9, 9], [9], [12, 9], [11, 13, 9], [9, 14], [15, 11, 0, 1, 2, 3, 4, 5, 6, 7, 8, 9, 10, 11, 12, 13, 14, 15]]
    [(0, []), (1, []), (2, []), (3, []), (4, []), (5, []), (6, []), (7, []), (8, []), (9, []), (10, []), (12, []), (13, []), (11, [75]), (14, []), (15, []), (16, [])]
    [[], [0], [0, 1], [0, 1, 2], [0, 1, 2, 3], [0, 1, 2, 3, 4], [0, 1, 2, 3, 4, 5], [0, 1, 2, 3, 4, 5, 6], [0, 1, 2, 3, 4, 5, 6, 7], [0, 1, 2, 3, 4, 5, 6, 7, 8], [0, 1, 2, 3, 4, 5, 6, 7, 8, 9], [0, 1, 2, 3, 4, 5, 6, 7, 8, 9, 10], [0, 1, 2, 3, 4, 5, 6, 7, 8, 9], [0, 1, 2, 3, 4, 5, 6, 7, 8, 9, 12], [0, 1, 2, 3, 4, 5, 6, 7, 8, 9, 10, 11, 12, 13], [0, 1, 2, 3, 4, 5, 6, 7, 8, 9, 10, 11, 12, 13, 14], [0, 1, 2, 3, 4, 5, 6, 7, 8, 9, 10, 11, 12, 13, 14, 15]]
    [4])
  .ret))))⟩

def RC.plan_has : RFn := ⟨2, [.slot 4],
  (.seq (.region [⟨some 2, none, .box (.t 0)⟩,
    ⟨some 4, none, .mov (.c (.bool false))⟩]
    [1, 2])
  (.seq (.region [⟨some 5, none, .mov (.t 1)⟩,
    ⟨some 6, none, .bin .geq (.t 5) (.c (.int .i64 0))⟩,
    ⟨some 7, none, .mov (.t 6)⟩,
    ⟨some 8, some (7, true), .mov (.t 1)⟩,
    ⟨some 9, some (7, true), .bin .lss (.t 8) (.c (.int .i64 16))⟩,
    ⟨some 10, none, .pick (.t 7) (.t 9) (.c (.bool false))⟩,
    ⟨some 11, none, .mov (.t 10)⟩,
    ⟨some 12, some (11, true), .fieldAddr 1 (.t 2)⟩,
    ⟨some 13, some (11, true), .load false 1 (.t 12)⟩,
    ⟨some 14, some (11, true), .mov (.t 1)⟩,
    ⟨some 15, some (11, true), .bin .shr (.t 13) (.t 14)⟩,
    ⟨some 16, some (11, true), .bin .and (.t 15) (.c (u32 1#32))⟩,
    ⟨some 17, some (11, true), .bin .eql (.t 16) (.c (u32 1#32))⟩,
    ⟨some 18, none, .pick (.t 11) (.t 17) (.c (.bool false))⟩,
    ⟨some 4, none, .mov (.t 18)⟩]
    [4])
  .ret))⟩

def RC.mask_Count : RFn := ⟨1, [.slot 2],
  (.seq (.region [⟨some 2, none, .mov (.c (.int .i64 0))⟩]
    [0])
  (.seq (.region [⟨some 3, none, .mov (.t 0)⟩,
    ⟨some 4, none, .call F.math_bits_OnesCount64 [.t 3]⟩,
    ⟨some 2, none, .mov (.t 4)⟩]
    [2])
  .ret))⟩

def RB.plan_Windows_1 : RCode :=
  (.seq (.region [⟨some 21, none, .bin .lss (.t 20) (.t 19)⟩]
    [1, 5, 11, 12, 13, 18, 19, 20, 21])
  (.seq (.cond (.t 21)
    .skip
    (.exit 2))
  (.seq (.block 3
    (.seq (.region [⟨some 22, none, .idxS 2 (.t 18) (.t 20)⟩,
      ⟨some 23, none, .load true 2 (.t 22)⟩,
      ⟨some 9, none, .alloc [(.int .i64 0), (u64 0#64)]⟩,
      ⟨none, none, .store 2 (.t 9) (.t 23)⟩]
      [1, 5, 9, 11, 12, 13, 18, 19, 20])
    (.seq (.region [⟨some 24, none, .fieldAddr 0 (.t 9)⟩,
      ⟨some 25, none, .load false 1 (.t 24)⟩,
      ⟨some 26, none, .mov (.t 1)⟩,
      ⟨some 27, none, .bin .eql (.t 25) (.t 26)⟩]
      [1, 5, 9, 11, 12, 13, 18, 19, 20, 27])
    (.cond (.t 27)
      (.region [⟨some 28, none, .mov (.t 5)⟩,
        ⟨some 29, none, .fieldAddr 1 (.t 9)⟩,
        ⟨some 30, none, .load false 1 (.t 29)⟩,
        ⟨some 31, none, .bin .or (.t 28) (.t 30)⟩,
        ⟨some 5, none, .mov (.t 31)⟩]
        [1, 5, 11, 12, 13, 18, 19, 20])
      .skip))) [1, 5, 11, 12, 13, 18, 19, 20])
  (.region [⟨some 32, none, .bin .add (.t 20) (.c (.int .i64 1))⟩,
    ⟨some 20, none, .mov (.t 32)⟩]
    [1, 5, 11, 12, 13, 18, 19, 20]))))
def RB.plan_Windows_2 : RCode :=
  (.seq (.region [⟨some 14, none, .bin .lss (.t 13) (.t 12)⟩]
    [1, 5, 11, 12, 13, 14])
  (.seq (.cond (.t 14)
    .skip
    (.exit 0))
  (.seq (.block 1
    (.seq (.region [⟨some 15, none, .idxS 4 (.t 11) (.t 13)⟩,
      ⟨some 16, none, .load true 4 (.t 15)⟩,
      ⟨some 7, none, .alloc [(.int .i64 0), (.int .i64 0), (.int .i64 0), (.slice none 0 0)]⟩,
      ⟨none, none, .store 4 (.t 7) (.t 16)⟩]
      [1, 5, 7, 11, 12, 13])
    (.seq (.region [⟨some 17, none, .fieldAddr 3 (.t 7)⟩,
      ⟨some 18, none, .load false 1 (.t 17)⟩,
      ⟨some 19, none, .len (.t 18)⟩,
      ⟨some 20, none, .mov (.c (.int .i64 0))⟩]
      [1, 5, 11, 12, 13, 18, 19, 20])
    (.block 2
      (.loop [1, 5, 11, 12, 13, 18, 19, 20] RB.plan_Windows_1) [1, 5, 11, 12, 13]))) [1, 5, 11, 12, 13])
  (.region [⟨some 33, none, .bin .add (.t 13) (.c (.int .i64 1))⟩,
    ⟨some 13, none, .mov (.t 33)⟩]
    [1, 5, 11, 12, 13]))))
def RC.plan_Windows : RFn := ⟨2, [.slot 4],
  (.seq (.region [⟨some 2, none, .box (.t 0)⟩,
    ⟨some 4, none, .mov (.c (u64 0#64))⟩]
    [1, 2])
  (.seq (.region [⟨some 5, none, .mov (.c (u64 0#64))⟩]
    [1, 2, 5])
  (.seq (.seq (.region [⟨some 10, none, .fieldAddr 2 (.t 2)⟩,
    ⟨some 11, none, .load false 1 (.t 10)⟩,
    ⟨some 12, none, .len (.t 11)⟩,
    ⟨some 13, none, .mov (.c (.int .i64 0))⟩]
    [1, 5, 11, 12, 13])
  (.block 0
    (.loop [1, 5, 11, 12, 13] RB.plan_Windows_2) [5]))
  (.seq (.region [⟨some 34, none, .mov (.t 5)⟩,
    ⟨some 4, none, .mov (.t 34)⟩]
    [4])
  .ret))))⟩

def RB.plan_Wholes_1 : RCode :=
  (.seq (.region [⟨some 12, none, .bin .lss (.t 11) (.t 10)⟩]
    [1, 5, 9, 10, 11, 12])
  (.seq (.cond (.t 12)
    .skip
    (.exit 0))
  (.seq (.block 1
    (.seq (.region [⟨some 13, none, .idxS 4 (.t 9) (.t 11)⟩,
      ⟨some 14, none, .load true 4 (.t 13)⟩,
      ⟨some 7, none, .alloc [(.int .i64 0), (.int .i64 0), (.int .i64 0), (.slice none 0 0)]⟩,
      ⟨none, none, .store 4 (.t 7) (.t 14)⟩]
      [1, 5, 7, 9, 10, 11])
    (.seq (.region [⟨some 15, none, .load true 4 (.t 7)⟩,
      ⟨some 16, none, .call F.plan_split [.t 15]⟩,
      ⟨some 17, none, .un .not (.t 16)⟩,
      ⟨some 18, none, .mov (.t 17)⟩,
      ⟨some 19, some (18, true), .fieldAddr 2 (.t 7)⟩,
      ⟨some 20, some (18, true), .load false 1 (.t 19)⟩,
      ⟨some 21, some (18, true), .mov (.t 1)⟩,
      ⟨some 22, some (18, true), .bin .eql (.t 20) (.t 21)⟩,
      ⟨some 23, none, .pick (.t 18) (.t 22) (.c (.bool false))⟩]
      [1, 5, 7, 9, 10, 11, 23])
    (.cond (.t 23)
      (.region [⟨some 24, none, .mov (.t 5)⟩,
        ⟨some 25, none, .fieldAddr 0 (.t 7)⟩,
        ⟨some 26, none, .load false 1 (.t 25)⟩,
        ⟨some 27, none, .fieldAddr 1 (.t 7)⟩,
        ⟨some 28, none, .load false 1 (.t 27)⟩,
        ⟨some 29, none, .build [(.int .i64 0), (.int .i64 0)] [(0, 1, .t 26), (1, 1, .t 28)]⟩,
        ⟨some 30, none, .bslice [(.int .i64 0), (.int .i64 0)] [(0, 2, .t 29)] 1 2⟩,
        ⟨some 31, none, .app 2 16 (.t 24) (.t 30)⟩,
        ⟨some 5, none, .mov (.t 31)⟩]
        [1, 5, 9, 10, 11])
      .skip))) [1, 5, 9, 10, 11])
  (.region [⟨some 32, none, .bin .add (.t 11) (.c (.int .i64 1))⟩,
    ⟨some 11, none, .mov (.t 32)⟩]
    [1, 5, 9, 10, 11]))))
def RC.plan_Wholes : RFn := ⟨2, [.slot 4],
  (.seq (.region [⟨some 2, none, .box (.t 0)⟩,
    ⟨some 4, none, .mov (.c (.slice none 0 0))⟩]
    [1, 2])
  (.seq (.region [⟨some 5, none, .mov (.c (.slice none 0 0))⟩]
    [1, 2, 5])
  (.seq (.seq (.region [⟨some 8, none, .fieldAddr 2 (.t 2)⟩,
    ⟨some 9, none, .load false 1 (.t 8)⟩,
    ⟨some 10, none, .len (.t 9)⟩,
    ⟨some 11, none, .mov (.c (.int .i64 0))⟩]
    [1, 5, 9, 10, 11])
  (.block 0
    (.loop [1, 5, 9, 10, 11] RB.plan_Wholes_1) [5]))
  (.seq (.region [⟨some 33, none, .mov (.t 5)⟩,
    ⟨some 4, none, .mov (.t 33)⟩]
    [4])
  .ret))))⟩

def RB.diff_places_1 : RCode :=
  (.seq (.region [⟨some 11, none, .bin .lss (.t 10) (.t 9)⟩]
    [3, 8, 9, 10, 11])
  (.seq (.cond (.t 11)
    .skip
    (.exit 0))
  (.seq (.block 1
    (.seq (.region [⟨some 12, none, .idxS 4 (.t 8) (.t 10)⟩,
      ⟨some 13, none, .load true 4 (.t 12)⟩,
      ⟨some 5, none, .alloc [(.int .i64 0), (.int .i64 0), (.int .i64 0), (.slice none 0 0)]⟩,
      ⟨none, none, .store 4 (.t 5) (.t 13)⟩]
      [3, 5, 8, 9, 10])
    (.region [⟨some 14, none, .mov (.t 3)⟩,
      ⟨some 15, none, .fieldAddr 0 (.t 5)⟩,
      ⟨some 16, none, .load false 1 (.t 15)⟩,
      ⟨some 17, none, .load true 4 (.t 5)⟩,
      ⟨none, none, .upd .int (.t 14) (.t 16) (.t 17)⟩]
      [3, 8, 9, 10])) [3, 8, 9, 10])
  (.region [⟨some 18, none, .bin .add (.t 10) (.c (.int .i64 1))⟩,
    ⟨some 10, none, .mov (.t 18)⟩]
    [3, 8, 9, 10]))))
def RC.diff_places : RFn := ⟨1, [.slot 2],
  (.seq (.region [⟨some 1, none, .box (.t 0)⟩,
    ⟨some 2, none, .mov (.c (.map none))⟩]
    [1])
  (.seq (.region [⟨some 6, none, .mkmap⟩,
    ⟨some 3, none, .mov (.t 6)⟩]
    [1, 3])
  (.seq (.seq (.region [⟨some 7, none, .fieldAddr 2 (.t 1)⟩,
    ⟨some 8, none, .load false 1 (.t 7)⟩,
    ⟨some 9, none, .len (.t 8)⟩,
    ⟨some 10, none, .mov (.c (.int .i64 0))⟩]
    [3, 8, 9, 10])
  (.block 0
    (.loop [3, 8, 9, 10] RB.diff_places_1) [3]))
  (.seq (.region [⟨some 19, none, .mov (.t 3)⟩,
    ⟨some 2, none, .mov (.t 19)⟩]
    [2])
  .ret))))⟩

def RC.maps_Keys_map_int_api_Place_int_api_Place : RFn := ⟨1, [.slot 2],
  (.seq (.region [⟨some 1, none, .box (.t 0)⟩,
    ⟨some 2, none, .mov (.c .nilFunc)⟩]
    [1])
  (.seq (.region [⟨some 3, none, .mkfn (.func F.maps_Keys_map_int_api_Place_int_api_Place_1) [] [.t 1]⟩,
    ⟨some 2, none, .mov (.t 3)⟩]
    [2])
  .ret))⟩

def RC.slices_Sort_int_int : RFn := ⟨1, [],
  (.seq (.region [⟨some 3, none, .mov (.t 0)⟩,
    ⟨some 4, none, .len (.t 3)⟩,
    ⟨some 2, none, .mov (.t 4)⟩]
    [0, 2])
  (.region [⟨some 5, none, .mov (.t 0)⟩,
    ⟨some 6, none, .mov (.t 2)⟩,
    ⟨some 7, none, .mov (.t 2)⟩,
    ⟨some 8, none, .conv .u64 (.t 7)⟩,
    ⟨some 9, none, .call F.math_bits_Len [.t 8]⟩,
    ⟨some 10, none, .call F.slices_pdqsortOrdered_int [.t 5, .c (.int .i64 0), .t 6, .t 9]⟩]
    []))⟩

def RB.slices_DeleteFunc_int_int_1 : RCode :=
  (.seq (.seq (.region [⟨some 16, none, .mov (.t 6)⟩,
    ⟨some 17, none, .mov (.t 0)⟩,
    ⟨some 18, none, .len (.t 17)⟩,
    ⟨some 19, none, .bin .lss (.t 16) (.t 18)⟩]
    [0, 1, 5, 6, 19])
  (.cond (.t 19)
    .skip
    (.exit 0)))
  (.seq (.block 1
    (.seq (.region [⟨some 22, none, .mov (.t 0)⟩,
      ⟨some 23, none, .mov (.t 6)⟩,
      ⟨some 24, none, .idxS 1 (.t 22) (.t 23)⟩,
      ⟨some 25, none, .load false 1 (.t 24)⟩,
      ⟨some 7, none, .mov (.t 25)⟩]
      [0, 1, 5, 6, 7])
    (.seq (.region [⟨some 26, none, .mov (.t 1)⟩,
      ⟨some 27, none, .mov (.t 7)⟩,
      ⟨some 28, none, .callv (.t 26) [.t 27]⟩,
      ⟨some 29, none, .un .not (.t 28)⟩]
      [0, 1, 5, 6, 7, 29])
    (.cond (.t 29)
      (.seq (.region [⟨some 30, none, .mov (.t 0)⟩,
        ⟨some 31, none, .mov (.t 5)⟩,
        ⟨some 32, none, .mov (.t 7)⟩,
        ⟨some 33, none, .idxS 1 (.t 30) (.t 31)⟩,
        ⟨none, none, .store 1 (.t 33) (.t 32)⟩]
        [0, 1, 5, 6])
      (.region [⟨some 34, none, .mov (.t 5)⟩,
        ⟨some 35, none, .bin .add (.t 34) (.c (.int .i64 1))⟩,
        ⟨some 5, none, .mov (.t 35)⟩]
        [0, 1, 5, 6]))
      .skip))) [0, 1, 5, 6])
  (.region [⟨some 20, none, .mov (.t 6)⟩,
    ⟨some 21, none, .bin .add (.t 20) (.c (.int .i64 1))⟩,
    ⟨some 6, none, .mov (.t 21)⟩]
    [0, 1, 5, 6])))
def RC.slices_DeleteFunc_int_int : RFn := ⟨2, [.slot 4],
  (.seq (.region [⟨some 4, none, .mov (.c (.slice none 0 0))⟩]
    [0, 1])
  (.seq (.region [⟨some 8, none, .mov (.t 0)⟩,
    ⟨some 9, none, .mov (.t 1)⟩,
    ⟨some 10, none, .call F.slices_IndexFunc_int_int [.t 8, .t 9]⟩,
    ⟨some 5, none, .mov (.t 10)⟩]
    [0, 1, 5])
  (.seq (.seq (.region [⟨some 11, none, .mov (.t 5)⟩,
    ⟨some 12, none, .bin .eql (.t 11) (.c (.int .i64 (-1)))⟩]
    [0, 1, 5, 12])
  (.cond (.t 12)
    (.seq (.region [⟨some 13, none, .mov (.t 0)⟩,
      ⟨some 4, none, .mov (.t 13)⟩]
      [4])
    .ret)
    .skip))
  (.seq (.seq (.region [⟨some 14, none, .mov (.t 5)⟩,
    ⟨some 15, none, .bin .add (.t 14) (.c (.int .i64 1))⟩,
    ⟨some 6, none, .mov (.t 15)⟩]
    [0, 1, 5, 6])
  (.block 0
    (.loop [0, 1, 5, 6] RB.slices_DeleteFunc_int_int_1) [0, 5]))
  (.seq (.region [⟨some 36, none, .mov (.t 0)⟩,
    ⟨some 37, none, .mov (.t 5)⟩,
    ⟨some 38, none, .sub 1 (.t 36) (some (.t 37)) none none⟩,
    ⟨none, none, .clr 1 [(.int .i64 0)] (.t 38)⟩]
    [0, 5])
  (.seq (.region [⟨some 39, none, .mov (.t 0)⟩,
    ⟨some 40, none, .mov (.t 5)⟩,
    ⟨some 41, none, .sub 1 (.t 39) none (some (.t 40)) none⟩,
    ⟨some 4, none, .mov (.t 41)⟩]
    [4])
  .ret))))))⟩

def RB.slices_Compact_int_int_1 : RCode :=
  (.seq (.seq (.region [⟨some 29, none, .mov (.t 5)⟩,
    ⟨some 30, none, .mov (.t 4)⟩,
    ⟨some 31, none, .len (.t 30)⟩,
    ⟨some 32, none, .bin .lss (.t 29) (.t 31)⟩]
    [0, 3, 4, 5, 32])
  (.cond (.t 32)
    .skip
    (.exit 2)))
  (.seq (.block 3
    (.seq (.drawn [⟨some 35, none, .mov (.t 4)⟩,
      ⟨some 36, none, .mov (.t 5)⟩,
      ⟨some 37, none, .idxS 1 (.t 35) (.t 36)⟩,
      ⟨some 38, none, .load false 1 (.t 37)⟩,
      ⟨some 39, none, .mov (.t 4)⟩,
      ⟨some 40, none, .mov (.t 5)⟩,
      ⟨some 41, none, .bin .sub (.t 40) (.c (.int .i64 1))⟩,
      ⟨some 42, none, .idxS 1 (.t 39) (.t 41)⟩,
      ⟨some 43, none, .load false 1 (.t 42)⟩,
      ⟨some 44, none, .bin .neq (.t 38) (.t 43)⟩]
      [[], [], [0, 1], [2], [], [], [5], [4, 6], [7], [3, 8]]
      [(0, []), (1, []), (2, []), (4, []), (5, []), (6, []), (7, []), (3, []), (8, []), (9, [])]
      [[], [], [0, 1], [0, 1, 2], [], [], [5], [4, 5, 6], [4, 5, 6, 7], [0, 1, 2, 3, 4, 5, 6, 7, 8]]
      [0, 3, 4, 5, 44])
    (.cond (.t 44)
      (.seq (.region [⟨some 45, none, .mov (.t 0)⟩,
        ⟨some 46, none, .mov (.t 3)⟩,
        ⟨some 47, none, .mov (.t 4)⟩,
        ⟨some 48, none, .mov (.t 5)⟩,
        ⟨some 49, none, .idxS 1 (.t 47) (.t 48)⟩,
        ⟨some 50, none, .load false 1 (.t 49)⟩,
        ⟨some 51, none, .idxS 1 (.t 45) (.t 46)⟩,
        ⟨none, none, .store 1 (.t 51) (.t 50)⟩]
        [0, 3, 4, 5])
      (.region [⟨some 52, none, .mov (.t 3)⟩,
        ⟨some 53, none, .bin .add (.t 52) (.c (.int .i64 1))⟩,
        ⟨some 3, none, .mov (.t 53)⟩]
        [0, 3, 4, 5]))
      .skip)) [0, 3, 4, 5])
  (.region [⟨some 33, none, .mov (.t 5)⟩,
    ⟨some 34, none, .bin .add (.t 33) (.c (.int .i64 1))⟩,
    ⟨some 5, none, .mov (.t 34)⟩]
    [0, 3, 4, 5])))
def RB.slices_Compact_int_int_2 : RCode :=
  (.seq (.seq (.region [⟨some 10, none, .mov (.t 3)⟩,
    ⟨some 11, none, .mov (.t 0)⟩,
    ⟨some 12, none, .len (.t 11)⟩,
    ⟨some 13, none, .bin .lss (.t 10) (.t 12)⟩]
    [0, 3, 13])
  (.cond (.t 13)
    .skip
    (.exit 0)))
  (.seq (.block 1
    (.seq (.drawn [⟨some 16, none, .mov (.t 0)⟩,
      ⟨some 17, none, .mov (.t 3)⟩,
      ⟨some 18, none, .idxS 1 (.t 16) (.t 17)⟩,
      ⟨some 19, none, .load false 1 (.t 18)⟩,
      ⟨some 20, none, .mov (.t 0)⟩,
      ⟨some 21, none, .mov (.t 3)⟩,
      ⟨some 22, none, .bin .sub (.t 21) (.c (.int .i64 1))⟩,
      ⟨some 23, none, .idxS 1 (.t 20) (.t 22)⟩,
      ⟨some 24, none, .load false 1 (.t 23)⟩,
      ⟨some 25, none, .bin .eql (.t 19) (.t 24)⟩]
      [[], [], [0, 1], [2], [], [], [5], [4, 6], [7], [3, 8]]
      [(0, []), (1, []), (2, []), (4, []), (5, []), (6, []), (7, []), (3, []), (8, []), (9, [])]
      [[], [], [0, 1], [0, 1, 2], [], [], [5], [4, 5, 6], [4, 5, 6, 7], [0, 1, 2, 3, 4, 5, 6, 7, 8]]
      [0, 3, 25])
    (.cond (.t 25)
      (.seq (.region [⟨some 26, none, .mov (.t 0)⟩,
        ⟨some 27, none, .mov (.t 3)⟩,
        ⟨some 28, none, .sub 1 (.t 26) (some (.t 27)) none none⟩,
        ⟨some 4, none, .mov (.t 28)⟩]
        [0, 3, 4])
      (.seq (.seq (.region [⟨some 5, none, .mov (.c (.int .i64 1))⟩]
        [0, 3, 4, 5])
      (.block 2
        (.loop [0, 3, 4, 5] RB.slices_Compact_int_int_1) [0, 3]))
      (.seq (.region [⟨some 54, none, .mov (.t 0)⟩,
        ⟨some 55, none, .mov (.t 3)⟩,
        ⟨some 56, none, .sub 1 (.t 54) (some (.t 55)) none none⟩,
        ⟨none, none, .clr 1 [(.int .i64 0)] (.t 56)⟩]
        [0, 3])
      (.seq (.region [⟨some 57, none, .mov (.t 0)⟩,
        ⟨some 58, none, .mov (.t 3)⟩,
        ⟨some 59, none, .sub 1 (.t 57) none (some (.t 58)) none⟩,
        ⟨some 2, none, .mov (.t 59)⟩]
        [2])
      .ret))))
      .skip)) [0, 3])
  (.region [⟨some 14, none, .mov (.t 3)⟩,
    ⟨some 15, none, .bin .add (.t 14) (.c (.int .i64 1))⟩,
    ⟨some 3, none, .mov (.t 15)⟩]
    [0, 3])))
def RC.slices_Compact_int_int : RFn := ⟨1, [.slot 2],
  (.seq (.region [⟨some 2, none, .mov (.c (.slice none 0 0))⟩]
    [0])
  (.seq (.seq (.region [⟨some 6, none, .mov (.t 0)⟩,
    ⟨some 7, none, .len (.t 6)⟩,
    ⟨some 8, none, .bin .lss (.t 7) (.c (.int .i64 2))⟩]
    [0, 8])
  (.cond (.t 8)
    (.seq (.region [⟨some 9, none, .mov (.t 0)⟩,
      ⟨some 2, none, .mov (.t 9)⟩]
      [2])
    .ret)
    .skip))
  (.seq (.seq (.region [⟨some 3, none, .mov (.c (.int .i64 1))⟩]
    [0, 3])
  (.block 0
    (.loop [0, 3] RB.slices_Compact_int_int_2) [0]))
  (.seq (.region [⟨some 60, none, .mov (.t 0)⟩,
    ⟨some 2, none, .mov (.t 60)⟩]
    [2])
  .ret))))⟩

def RC.diff_some_1 : RFn := ⟨4, [.slot 5],
  (.seq (.region [⟨some 5, none, .mov (.c (.bool false))⟩]
    [0, 1, 2, 3])
  (.seq (.region [⟨some 11, none, .load false 1 (.t 1)⟩,
    ⟨some 12, none, .mov (.t 0)⟩,
    ⟨some 13, none, .look .int (.agg #[(.int .i64 0), (.int .i64 0), (.int .i64 0), (.slice none 0 0)]) true (.t 11) (.t 12)⟩,
    ⟨some 10, none, .mov (.t 13)⟩,
    ⟨some 14, none, .ext 0 (.t 10)⟩,
    ⟨some 15, none, .ext 1 (.t 10)⟩,
    ⟨some 6, none, .alloc [(.int .i64 0), (.int .i64 0), (.int .i64 0), (.slice none 0 0)]⟩,
    ⟨none, none, .store 4 (.t 6) (.t 14)⟩,
    ⟨some 7, none, .mov (.t 15)⟩]
    [0, 2, 3, 6, 7])
  (.seq (.region [⟨some 17, none, .load false 1 (.t 2)⟩,
    ⟨some 18, none, .mov (.t 0)⟩,
    ⟨some 19, none, .look .int (.agg #[(.int .i64 0), (.int .i64 0), (.int .i64 0), (.slice none 0 0)]) true (.t 17) (.t 18)⟩,
    ⟨some 16, none, .mov (.t 19)⟩,
    ⟨some 20, none, .ext 0 (.t 16)⟩,
    ⟨some 21, none, .ext 1 (.t 16)⟩,
    ⟨some 8, none, .alloc [(.int .i64 0), (.int .i64 0), (.int .i64 0), (.slice none 0 0)]⟩,
    ⟨none, none, .store 4 (.t 8) (.t 20)⟩,
    ⟨some 9, none, .mov (.t 21)⟩]
    [3, 6, 7, 8, 9])
  (.seq (.region [⟨some 22, none, .load false 1 (.t 3)⟩,
    ⟨some 23, none, .load true 4 (.t 6)⟩,
    ⟨some 24, none, .load true 4 (.t 8)⟩,
    ⟨some 25, none, .mov (.t 7)⟩,
    ⟨some 26, none, .mov (.t 9)⟩,
    ⟨some 27, none, .callv (.t 22) [.t 23, .t 24, .t 25, .t 26]⟩,
    ⟨some 28, none, .un .not (.t 27)⟩,
    ⟨some 5, none, .mov (.t 28)⟩]
    [5])
  .ret))))⟩

def RB.slices_Equal_api_Piece_api_Piece_1 : RCode :=
  (.seq (.region [⟨some 14, none, .bin .lss (.t 13) (.t 12)⟩]
    [0, 1, 12, 13, 14])
  (.seq (.cond (.t 14)
    .skip
    (.exit 0))
  (.seq (.block 1
    (.seq (.region [⟨some 15, none, .mov (.t 13)⟩,
      ⟨some 5, none, .mov (.t 15)⟩]
      [0, 1, 5, 12, 13])
    (.seq (.drawn [⟨some 16, none, .mov (.t 0)⟩,
      ⟨some 17, none, .mov (.t 5)⟩,
      ⟨some 18, none, .idxS 2 (.t 16) (.t 17)⟩,
      ⟨some 19, none, .load true 2 (.t 18)⟩,
      ⟨some 20, none, .mov (.t 1)⟩,
      ⟨some 21, none, .mov (.t 5)⟩,
      ⟨some 22, none, .idxS 2 (.t 20) (.t 21)⟩,
      ⟨some 23, none, .load true 2 (.t 22)⟩,
      ⟨some 24, none, .eq true (.flat [.int, .int]) (.t 19) (.t 23)⟩]
      [[], [], [0, 1], [2], [], [], [4, 5], [6], [3, 7]]
      [(0, []), (1, []), (2, []), (4, []), (5, []), (6, []), (3, []), (7, []), (8, [])]
      [[], [], [0, 1], [0, 1, 2], [], [], [4, 5], [4, 5, 6], [0, 1, 2, 3, 4, 5, 6, 7]]
      [0, 1, 12, 13, 24])
    (.cond (.t 24)
      (.seq (.region [⟨some 4, none, .mov (.c (.bool false))⟩]
        [4])
      .ret)
      .skip))) [0, 1, 12, 13])
  (.region [⟨some 25, none, .bin .add (.t 13) (.c (.int .i64 1))⟩,
    ⟨some 13, none, .mov (.t 25)⟩]
    [0, 1, 12, 13]))))
def RC.slices_Equal_api_Piece_api_Piece : RFn := ⟨2, [.slot 4],
  (.seq (.region [⟨some 4, none, .mov (.c (.bool false))⟩]
    [0, 1])
  (.seq (.seq (.region [⟨some 6, none, .mov (.t 0)⟩,
    ⟨some 7, none, .len (.t 6)⟩,
    ⟨some 8, none, .mov (.t 1)⟩,
    ⟨some 9, none, .len (.t 8)⟩,
    ⟨some 10, none, .bin .neq (.t 7) (.t 9)⟩]
    [0, 1, 10])
  (.cond (.t 10)
    (.seq (.region [⟨some 4, none, .mov (.c (.bool false))⟩]
      [4])
    .ret)
    .skip))
  (.seq (.seq (.region [⟨some 11, none, .mov (.t 0)⟩,
    ⟨some 12, none, .len (.t 11)⟩,
    ⟨some 13, none, .mov (.c (.int .i64 0))⟩]
    [0, 1, 12, 13])
  (.block 0
    (.loop [0, 1, 12, 13] RB.slices_Equal_api_Piece_api_Piece_1) []))
  (.seq (.region [⟨some 4, none, .mov (.c (.bool true))⟩]
    [4])
  .ret))))⟩

def RB.slices_BinarySearchFunc_api_Place_api_Place_int_1 : RCode :=
  (.seq (.seq (.region [⟨some 15, none, .mov (.t 9)⟩,
    ⟨some 16, none, .mov (.t 10)⟩,
    ⟨some 17, none, .bin .lss (.t 15) (.t 16)⟩]
    [0, 1, 2, 8, 9, 10, 17])
  (.cond (.t 17)
    .skip
    (.exit 0)))
  (.block 1
    (.seq (.region [⟨some 18, none, .mov (.t 9)⟩,
      ⟨some 19, none, .mov (.t 10)⟩,
      ⟨some 20, none, .bin .add (.t 18) (.t 19)⟩,
      ⟨some 21, none, .conv .u64 (.t 20)⟩,
      ⟨some 22, none, .bin .shr (.t 21) (.c (u64 1#64))⟩,
      ⟨some 23, none, .conv .i64 (.t 22)⟩,
      ⟨some 11, none, .mov (.t 23)⟩]
      [0, 1, 2, 8, 9, 10, 11])
    (.seq (.region [⟨some 24, none, .mov (.t 2)⟩,
      ⟨some 25, none, .mov (.t 0)⟩,
      ⟨some 26, none, .mov (.t 11)⟩,
      ⟨some 27, none, .idxS 4 (.t 25) (.t 26)⟩,
      ⟨some 28, none, .load true 4 (.t 27)⟩,
      ⟨some 29, none, .mov (.t 1)⟩,
      ⟨some 30, none, .callv (.t 24) [.t 28, .t 29]⟩,
      ⟨some 31, none, .bin .lss (.t 30) (.c (.int .i64 0))⟩]
      [0, 1, 2, 8, 9, 10, 11, 31])
    (.cond (.t 31)
      (.region [⟨some 32, none, .mov (.t 11)⟩,
        ⟨some 33, none, .bin .add (.t 32) (.c (.int .i64 1))⟩,
        ⟨some 9, none, .mov (.t 33)⟩]
        [0, 1, 2, 8, 9, 10])
      (.region [⟨some 34, none, .mov (.t 11)⟩,
        ⟨some 10, none, .mov (.t 34)⟩]
        [0, 1, 2, 8, 9, 10])))) [0, 1, 2, 8, 9, 10]))
def RC.slices_BinarySearchFunc_api_Place_api_Place_int : RFn := ⟨3, [.slot 6, .slot 7],
  (.seq (.region [⟨some 6, none, .mov (.c (.int .i64 0))⟩,
    ⟨some 7, none, .mov (.c (.bool false))⟩]
    [0, 1, 2])
  (.seq (.region [⟨some 12, none, .mov (.t 0)⟩,
    ⟨some 13, none, .len (.t 12)⟩,
    ⟨some 8, none, .mov (.t 13)⟩]
    [0, 1, 2, 8])
  (.seq (.region [⟨some 14, none, .mov (.t 8)⟩,
    ⟨some 9, none, .mov (.c (.int .i64 0))⟩,
    ⟨some 10, none, .mov (.t 14)⟩]
    [0, 1, 2, 8, 9, 10])
  (.seq (.block 0
    (.loop [0, 1, 2, 8, 9, 10] RB.slices_BinarySearchFunc_api_Place_api_Place_int_1) [0, 1, 2, 8, 9])
  (.seq (.region [⟨some 35, none, .mov (.t 9)⟩,
    ⟨some 36, none, .mov (.t 9)⟩,
    ⟨some 37, none, .mov (.t 8)⟩,
    ⟨some 38, none, .bin .lss (.t 36) (.t 37)⟩,
    ⟨some 39, none, .mov (.t 38)⟩,
    ⟨some 40, some (39, true), .mov (.t 2)⟩,
    ⟨some 41, some (39, true), .mov (.t 0)⟩,
    ⟨some 42, some (39, true), .mov (.t 9)⟩,
    ⟨some 43, some (39, true), .idxS 4 (.t 41) (.t 42)⟩,
    ⟨some 44, some (39, true), .load true 4 (.t 43)⟩,
    ⟨some 45, some (39, true), .mov (.t 1)⟩,
    ⟨some 46, some (39, true), .callv (.t 40) [.t 44, .t 45]⟩,
    ⟨some 47, some (39, true), .bin .eql (.t 46) (.c (.int .i64 0))⟩,
    ⟨some 48, none, .pick (.t 39) (.t 47) (.c (.bool false))⟩,
    ⟨some 6, none, .mov (.t 35)⟩,
    ⟨some 7, none, .mov (.t 48)⟩]
    [6, 7])
  .ret)))))⟩

def RC.plan_find_1 : RFn := ⟨2, [.slot 4],
  (.seq (.region [⟨some 2, none, .box (.t 0)⟩,
    ⟨some 4, none, .mov (.c (.int .i64 0))⟩]
    [1, 2])
  (.seq (.region [⟨some 5, none, .fieldAddr 0 (.t 2)⟩,
    ⟨some 6, none, .load false 1 (.t 5)⟩,
    ⟨some 7, none, .mov (.t 1)⟩,
    ⟨some 8, none, .call F.cmp_Compare_int [.t 6, .t 7]⟩,
    ⟨some 4, none, .mov (.t 8)⟩]
    [4])
  .ret))⟩

def RC.cmp_Compare_int : RFn := ⟨2, [.slot 4],
  (.seq (.region [⟨some 4, none, .mov (.c (.int .i64 0))⟩]
    [0, 1])
  (.seq (.region [⟨some 7, none, .mov (.t 0)⟩,
    ⟨some 8, none, .call F.cmp_isNaN_int [.t 7]⟩,
    ⟨some 5, none, .mov (.t 8)⟩]
    [0, 1, 5])
  (.seq (.region [⟨some 9, none, .mov (.t 1)⟩,
    ⟨some 10, none, .call F.cmp_isNaN_int [.t 9]⟩,
    ⟨some 6, none, .mov (.t 10)⟩]
    [0, 1, 5, 6])
  (.seq (.seq (.region [⟨some 11, none, .mov (.t 5)⟩]
    [0, 1, 6, 11])
  (.cond (.t 11)
    (.seq (.seq (.region [⟨some 12, none, .mov (.t 6)⟩]
      [12])
    (.cond (.t 12)
      (.seq (.region [⟨some 4, none, .mov (.c (.int .i64 0))⟩]
        [4])
      .ret)
      .skip))
    (.seq (.region [⟨some 4, none, .mov (.c (.int .i64 (-1)))⟩]
      [4])
    .ret))
    .skip))
  (.seq (.seq (.region [⟨some 13, none, .mov (.t 6)⟩]
    [0, 1, 13])
  (.cond (.t 13)
    (.seq (.region [⟨some 4, none, .mov (.c (.int .i64 1))⟩]
      [4])
    .ret)
    .skip))
  (.seq (.seq (.region [⟨some 14, none, .mov (.t 0)⟩,
    ⟨some 15, none, .mov (.t 1)⟩,
    ⟨some 16, none, .bin .lss (.t 14) (.t 15)⟩]
    [0, 1, 16])
  (.cond (.t 16)
    (.seq (.region [⟨some 4, none, .mov (.c (.int .i64 (-1)))⟩]
      [4])
    .ret)
    .skip))
  (.seq (.seq (.region [⟨some 17, none, .mov (.t 0)⟩,
    ⟨some 18, none, .mov (.t 1)⟩,
    ⟨some 19, none, .bin .gtr (.t 17) (.t 18)⟩]
    [19])
  (.cond (.t 19)
    (.seq (.region [⟨some 4, none, .mov (.c (.int .i64 1))⟩]
      [4])
    .ret)
    .skip))
  (.seq (.region [⟨some 4, none, .mov (.c (.int .i64 0))⟩]
    [4])
  .ret))))))))⟩

def RC.mask_All : RFn := ⟨1, [.slot 2],
  (.seq (.region [⟨some 2, none, .mov (.c (u64 0#64))⟩]
    [0])
  (.seq (.region [⟨some 3, none, .mov (.t 0)⟩,
    ⟨some 4, none, .call F.mask_frame [.t 3]⟩,
    ⟨some 0, none, .mov (.t 4)⟩]
    [0])
  (.seq (.seq (.region [⟨some 5, none, .mov (.t 0)⟩,
    ⟨some 6, none, .bin .eql (.t 5) (.c (.int .i64 64))⟩]
    [0, 6])
  (.cond (.t 6)
    (.seq (.region [⟨some 2, none, .mov (.c (u64 18446744073709551615#64))⟩]
      [2])
    .ret)
    .skip))
  (.seq (.region [⟨some 7, none, .mov (.t 0)⟩,
    ⟨some 8, none, .bin .shl (.c (u64 1#64)) (.t 7)⟩,
    ⟨some 9, none, .bin .sub (.t 8) (.c (u64 1#64))⟩,
    ⟨some 2, none, .mov (.t 9)⟩]
    [2])
  .ret))))⟩

def RC.math_bits_OnesCount64 : RFn := ⟨1, [.slot 2],
  (.seq (.region [⟨some 2, none, .mov (.c (.int .i64 0))⟩]
    [0])
  (.seq (.region [⟨some 3, none, .mov (.t 0)⟩,
    ⟨some 4, none, .bin .shr (.t 3) (.c (u64 1#64))⟩,
    ⟨some 5, none, .bin .and (.t 4) (.c (u64 6148914691236517205#64))⟩,
    ⟨some 6, none, .mov (.t 0)⟩,
    ⟨some 7, none, .bin .and (.t 6) (.c (u64 6148914691236517205#64))⟩,
    ⟨some 8, none, .bin .add (.t 5) (.t 7)⟩,
    ⟨some 0, none, .mov (.t 8)⟩]
    [0])
  (.seq (.region [⟨some 9, none, .mov (.t 0)⟩,
    ⟨some 10, none, .bin .shr (.t 9) (.c (u64 2#64))⟩,
    ⟨some 11, none, .bin .and (.t 10) (.c (u64 3689348814741910323#64))⟩,
    ⟨some 12, none, .mov (.t 0)⟩,
    ⟨some 13, none, .bin .and (.t 12) (.c (u64 3689348814741910323#64))⟩,
    ⟨some 14, none, .bin .add (.t 11) (.t 13)⟩,
    ⟨some 0, none, .mov (.t 14)⟩]
    [0])
  (.seq (.region [⟨some 15, none, .mov (.t 0)⟩,
    ⟨some 16, none, .bin .shr (.t 15) (.c (u64 4#64))⟩,
    ⟨some 17, none, .mov (.t 0)⟩,
    ⟨some 18, none, .bin .add (.t 16) (.t 17)⟩,
    ⟨some 19, none, .bin .and (.t 18) (.c (u64 1085102592571150095#64))⟩,
    ⟨some 0, none, .mov (.t 19)⟩]
    [0])
  (.seq (.region [⟨some 20, none, .mov (.t 0)⟩,
    ⟨some 21, none, .mov (.t 0)⟩,
    ⟨some 22, none, .bin .shr (.t 21) (.c (u64 8#64))⟩,
    ⟨some 23, none, .bin .add (.t 20) (.t 22)⟩,
    ⟨some 0, none, .mov (.t 23)⟩]
    [0])
  (.seq (.region [⟨some 24, none, .mov (.t 0)⟩,
    ⟨some 25, none, .mov (.t 0)⟩,
    ⟨some 26, none, .bin .shr (.t 25) (.c (u64 16#64))⟩,
    ⟨some 27, none, .bin .add (.t 24) (.t 26)⟩,
    ⟨some 0, none, .mov (.t 27)⟩]
    [0])
  (.seq (.region [⟨some 28, none, .mov (.t 0)⟩,
    ⟨some 29, none, .mov (.t 0)⟩,
    ⟨some 30, none, .bin .shr (.t 29) (.c (u64 32#64))⟩,
    ⟨some 31, none, .bin .add (.t 28) (.t 30)⟩,
    ⟨some 0, none, .mov (.t 31)⟩]
    [0])
  (.seq (.region [⟨some 32, none, .mov (.t 0)⟩,
    ⟨some 33, none, .conv .i64 (.t 32)⟩,
    ⟨some 34, none, .bin .and (.t 33) (.c (.int .i64 127))⟩,
    ⟨some 2, none, .mov (.t 34)⟩]
    [2])
  .ret))))))))⟩

def RB.maps_Keys_map_int_api_Place_int_api_Place_1_1 : RCode :=
  (.seq (.region [⟨some 6, none, .stop⟩,
    ⟨some 7, none, .ext 0 (.t 6)⟩]
    [0, 7])
  (.seq (.cond (.t 7)
    .skip
    (.exit 0))
  (.block 1
    (.seq (.region [⟨some 8, none, .stop⟩,
      ⟨some 9, none, .ext 0 (.t 8)⟩,
      ⟨some 3, none, .mov (.t 9)⟩]
      [0, 3])
    (.seq (.region [⟨some 10, none, .mov (.t 0)⟩,
      ⟨some 11, none, .mov (.t 3)⟩,
      ⟨some 12, none, .callv (.t 10) [.t 11]⟩,
      ⟨some 13, none, .un .not (.t 12)⟩]
      [0, 13])
    (.cond (.t 13)
      .ret
      .skip))) [0])))
def RC.maps_Keys_map_int_api_Place_int_api_Place_1 : RFn := ⟨2, [],
  (.seq (.region [⟨some 4, none, .load false 1 (.t 1)⟩,
    ⟨some 5, none, .stop⟩]
    [0])
  (.block 0
    (.loop [0] RB.maps_Keys_map_int_api_Place_int_api_Place_1_1) []))⟩

def RB.slices_pdqsortOrdered_int_1 : RCode :=
  (.block 1
    (.seq (.region [⟨some 19, none, .mov (.t 2)⟩,
      ⟨some 20, none, .mov (.t 1)⟩,
      ⟨some 21, none, .bin .sub (.t 19) (.t 20)⟩,
      ⟨some 10, none, .mov (.t 21)⟩]
      [0, 1, 2, 3, 8, 9, 10])
    (.seq (.seq (.region [⟨some 22, none, .mov (.t 10)⟩,
      ⟨some 23, none, .bin .leq (.t 22) (.c (.int .i64 12))⟩]
      [0, 1, 2, 3, 8, 9, 10, 23])
    (.cond (.t 23)
      (.seq (.region [⟨some 24, none, .mov (.t 0)⟩,
        ⟨some 25, none, .mov (.t 1)⟩,
        ⟨some 26, none, .mov (.t 2)⟩,
        ⟨some 27, none, .call F.slices_insertionSortOrdered_int [.t 24, .t 25, .t 26]⟩]
        [])
      .ret)
      .skip))
    (.seq (.seq (.region [⟨some 28, none, .mov (.t 3)⟩,
      ⟨some 29, none, .bin .eql (.t 28) (.c (.int .i64 0))⟩]
      [0, 1, 2, 3, 8, 9, 10, 29])
    (.cond (.t 29)
      (.seq (.region [⟨some 30, none, .mov (.t 0)⟩,
        ⟨some 31, none, .mov (.t 1)⟩,
        ⟨some 32, none, .mov (.t 2)⟩,
        ⟨some 33, none, .call F.slices_heapSortOrdered_int [.t 30, .t 31, .t 32]⟩]
        [])
      .ret)
      .skip))
    (.seq (.seq (.region [⟨some 34, none, .mov (.t 8)⟩,
      ⟨some 35, none, .un .not (.t 34)⟩]
      [0, 1, 2, 3, 8, 9, 10, 35])
    (.cond (.t 35)
      (.seq (.region [⟨some 36, none, .mov (.t 0)⟩,
        ⟨some 37, none, .mov (.t 1)⟩,
        ⟨some 38, none, .mov (.t 2)⟩,
        ⟨some 39, none, .call F.slices_breakPatternsOrdered_int [.t 36, .t 37, .t 38]⟩]
        [0, 1, 2, 3, 8, 9, 10])
      (.region [⟨some 40, none, .mov (.t 3)⟩,
        ⟨some 41, none, .bin .sub (.t 40) (.c (.int .i64 1))⟩,
        ⟨some 3, none, .mov (.t 41)⟩]
        [0, 1, 2, 3, 8, 9, 10]))
      .skip))
    (.seq (.region [⟨some 43, none, .mov (.t 0)⟩,
      ⟨some 44, none, .mov (.t 1)⟩,
      ⟨some 45, none, .mov (.t 2)⟩,
      ⟨some 46, none, .call F.slices_choosePivotOrdered_int [.t 43, .t 44, .t 45]⟩,
      ⟨some 42, none, .mov (.t 46)⟩,
      ⟨some 47, none, .ext 0 (.t 42)⟩,
      ⟨some 48, none, .ext 1 (.t 42)⟩,
      ⟨some 11, none, .mov (.t 47)⟩,
      ⟨some 12, none, .mov (.t 48)⟩]
      [0, 1, 2, 3, 8, 9, 10, 11, 12])
    (.seq (.seq (.region [⟨some 49, none, .mov (.t 12)⟩,
      ⟨some 50, none, .bin .eql (.t 49) (.c (.int .i64 2))⟩]
      [0, 1, 2, 3, 8, 9, 10, 11, 12, 50])
    (.cond (.t 50)
      (.seq (.region [⟨some 51, none, .mov (.t 0)⟩,
        ⟨some 52, none, .mov (.t 1)⟩,
        ⟨some 53, none, .mov (.t 2)⟩,
        ⟨some 54, none, .call F.slices_reverseRangeOrdered_int [.t 51, .t 52, .t 53]⟩]
        [0, 1, 2, 3, 8, 9, 10, 11])
      (.seq (.region [⟨some 55, none, .mov (.t 2)⟩,
        ⟨some 56, none, .bin .sub (.t 55) (.c (.int .i64 1))⟩,
        ⟨some 57, none, .mov (.t 11)⟩,
        ⟨some 58, none, .mov (.t 1)⟩,
        ⟨some 59, none, .bin .sub (.t 57) (.t 58)⟩,
        ⟨some 60, none, .bin .sub (.t 56) (.t 59)⟩,
        ⟨some 11, none, .mov (.t 60)⟩]
        [0, 1, 2, 3, 8, 9, 10, 11])
      (.region [⟨some 12, none, .mov (.c (.int .i64 1))⟩]
        [0, 1, 2, 3, 8, 9, 10, 11, 12])))
      .skip))
    (.seq (.seq (.region [⟨some 61, none, .mov (.t 8)⟩,
      ⟨some 62, none, .mov (.t 61)⟩,
      ⟨some 63, some (62, true), .mov (.t 9)⟩,
      ⟨some 64, none, .pick (.t 62) (.t 63) (.c (.bool false))⟩,
      ⟨some 65, none, .mov (.t 64)⟩,
      ⟨some 66, some (65, true), .mov (.t 12)⟩,
      ⟨some 67, some (65, true), .bin .eql (.t 66) (.c (.int .i64 1))⟩,
      ⟨some 68, none, .pick (.t 65) (.t 67) (.c (.bool false))⟩]
      [0, 1, 2, 3, 8, 9, 10, 11, 68])
    (.cond (.t 68)
      (.seq (.region [⟨some 69, none, .mov (.t 0)⟩,
        ⟨some 70, none, .mov (.t 1)⟩,
        ⟨some 71, none, .mov (.t 2)⟩,
        ⟨some 72, none, .call F.slices_partialInsertionSortOrdered_int [.t 69, .t 70, .t 71]⟩]
        [0, 1, 2, 3, 8, 9, 10, 11, 72])
      (.cond (.t 72)
        .ret
        .skip))
      .skip))
    (.seq (.seq (.drawn [⟨some 73, none, .mov (.t 1)⟩,
      ⟨some 74, none, .bin .gtr (.t 73) (.c (.int .i64 0))⟩,
      ⟨some 75, none, .mov (.t 74)⟩,
      ⟨some 76, some (75, true), .mov (.t 0)⟩,
      ⟨some 77, some (75, true), .mov (.t 1)⟩,
      ⟨some 78, some (75, true), .bin .sub (.t 77) (.c (.int .i64 1))⟩,
      ⟨some 79, some (75, true), .idxS 1 (.t 76) (.t 78)⟩,
      ⟨some 80, some (75, true), .load false 1 (.t 79)⟩,
      ⟨some 81, some (75, true), .mov (.t 0)⟩,
      ⟨some 82, some (75, true), .mov (.t 11)⟩,
      ⟨some 83, some (75, true), .idxS 1 (.t 81) (.t 82)⟩,
      ⟨some 84, some (75, true), .load false 1 (.t 83)⟩,
      ⟨some 85, some (75, true), .call F.cmp_Less_int [.t 80, .t 84]⟩,
      ⟨some 86, some (75, true), .un .not (.t 85)⟩,
      ⟨some 87, none, .pick (.t 75) (.t 86) (.c (.bool false))⟩]
      [[], [0], [1], [2], [2], [4, 2], [3, 5, 2], [6, 2], [2], [2], [8, 9, 2], [10, 2], [7, 11, 2, 2], [12, 2], [2, 13]]
      [(0, []), (1, []), (2, []), (3, []), (4, []), (5, []), (6, []), (8, []), (9, []), (10, []), (7, []), (11, []), (12, []), (13, []), (14, [])]
      [[], [0], [0, 1], [0, 1, 2], [0, 1, 2], [0, 1, 2, 4], [0, 1, 2, 3, 4, 5], [0, 1, 2, 3, 4, 5, 6], [0, 1, 2], [0, 1, 2], [0, 1, 2, 8, 9], [0, 1, 2, 8, 9, 10], [0, 1, 2, 3, 4, 5, 6, 7, 8, 9, 10, 11], [0, 1, 2, 3, 4, 5, 6, 7, 8, 9, 10, 11, 12], [0, 1, 2, 3, 4, 5, 6, 7, 8, 9, 10, 11, 12, 13]]
      [0, 1, 2, 3, 8, 9, 10, 11, 87])
    (.cond (.t 87)
      (.seq (.region [⟨some 88, none, .mov (.t 0)⟩,
        ⟨some 89, none, .mov (.t 1)⟩,
        ⟨some 90, none, .mov (.t 2)⟩,
        ⟨some 91, none, .mov (.t 11)⟩,
        ⟨some 92, none, .call F.slices_partitionEqualOrdered_int [.t 88, .t 89, .t 90, .t 91]⟩,
        ⟨some 13, none, .mov (.t 92)⟩]
        [0, 2, 3, 8, 9, 13])
      (.seq (.region [⟨some 93, none, .mov (.t 13)⟩,
        ⟨some 1, none, .mov (.t 93)⟩]
        [0, 1, 2, 3, 8, 9])
      (.exit 1)))
      .skip))
    (.seq (.region [⟨some 95, none, .mov (.t 0)⟩,
      ⟨some 96, none, .mov (.t 1)⟩,
      ⟨some 97, none, .mov (.t 2)⟩,
      ⟨some 98, none, .mov (.t 11)⟩,
      ⟨some 99, none, .call F.slices_partitionOrdered_int [.t 95, .t 96, .t 97, .t 98]⟩,
      ⟨some 94, none, .mov (.t 99)⟩,
      ⟨some 100, none, .ext 0 (.t 94)⟩,
      ⟨some 101, none, .ext 1 (.t 94)⟩,
      ⟨some 14, none, .mov (.t 100)⟩,
      ⟨some 15, none, .mov (.t 101)⟩]
      [0, 1, 2, 3, 10, 14, 15])
    (.seq (.region [⟨some 102, none, .mov (.t 15)⟩,
      ⟨some 9, none, .mov (.t 102)⟩]
      [0, 1, 2, 3, 9, 10, 14])
    (.seq (.region [⟨some 103, none, .mov (.t 14)⟩,
      ⟨some 104, none, .mov (.t 1)⟩,
      ⟨some 105, none, .bin .sub (.t 103) (.t 104)⟩,
      ⟨some 106, none, .mov (.t 2)⟩,
      ⟨some 107, none, .mov (.t 14)⟩,
      ⟨some 108, none, .bin .sub (.t 106) (.t 107)⟩,
      ⟨some 16, none, .mov (.t 105)⟩,
      ⟨some 17, none, .mov (.t 108)⟩]
      [0, 1, 2, 3, 9, 10, 14, 16, 17])
    (.seq (.region [⟨some 109, none, .mov (.t 10)⟩,
      ⟨some 110, none, .bin .quo (.t 109) (.c (.int .i64 8))⟩,
      ⟨some 18, none, .mov (.t 110)⟩]
      [0, 1, 2, 3, 9, 14, 16, 17, 18])
    (.seq (.region [⟨some 111, none, .mov (.t 16)⟩,
      ⟨some 112, none, .mov (.t 17)⟩,
      ⟨some 113, none, .bin .lss (.t 111) (.t 112)⟩]
      [0, 1, 2, 3, 9, 14, 16, 17, 18, 113])
    (.cond (.t 113)
      (.seq (.region [⟨some 114, none, .mov (.t 16)⟩,
        ⟨some 115, none, .mov (.t 18)⟩,
        ⟨some 116, none, .bin .geq (.t 114) (.t 115)⟩,
        ⟨some 8, none, .mov (.t 116)⟩]
        [0, 1, 2, 3, 8, 9, 14])
      (.seq (.region [⟨some 117, none, .mov (.t 0)⟩,
        ⟨some 118, none, .mov (.t 1)⟩,
        ⟨some 119, none, .mov (.t 14)⟩,
        ⟨some 120, none, .mov (.t 3)⟩,
        ⟨some 121, none, .call F.slices_pdqsortOrdered_int [.t 117, .t 118, .t 119, .t 120]⟩]
        [0, 2, 3, 8, 9, 14])
      (.region [⟨some 122, none, .mov (.t 14)⟩,
        ⟨some 123, none, .bin .add (.t 122) (.c (.int .i64 1))⟩,
        ⟨some 1, none, .mov (.t 123)⟩]
        [0, 1, 2, 3, 8, 9])))
      (.seq (.region [⟨some 124, none, .mov (.t 17)⟩,
        ⟨some 125, none, .mov (.t 18)⟩,
        ⟨some 126, none, .bin .geq (.t 124) (.t 125)⟩,
        ⟨some 8, none, .mov (.t 126)⟩]
        [0, 1, 2, 3, 8, 9, 14])
      (.seq (.region [⟨some 127, none, .mov (.t 0)⟩,
        ⟨some 128, none, .mov (.t 14)⟩,
        ⟨some 129, none, .bin .add (.t 128) (.c (.int .i64 1))⟩,
        ⟨some 130, none, .mov (.t 2)⟩,
        ⟨some 131, none, .mov (.t 3)⟩,
        ⟨some 132, none, .call F.slices_pdqsortOrdered_int [.t 127, .t 129, .t 130, .t 131]⟩]
        [0, 1, 3, 8, 9, 14])
      (.region [⟨some 133, none, .mov (.t 14)⟩,
        ⟨some 2, none, .mov (.t 133)⟩]
        [0, 1, 2, 3, 8, 9]))))))))))))))))) [0, 1, 2, 3, 8, 9])
def RC.slices_pdqsortOrdered_int : RFn := ⟨4, [],
  (.seq (.region [⟨some 8, none, .mov (.c (.bool true))⟩]
    [0, 1, 2, 3, 8])
  (.seq (.region [⟨some 9, none, .mov (.c (.bool true))⟩]
    [0, 1, 2, 3, 8, 9])
  (.block 0
    (.loop [0, 1, 2, 3, 8, 9] RB.slices_pdqsortOrdered_int_1) [])))⟩

def RC.math_bits_Len : RFn := ⟨1, [.slot 2],
  (.seq (.region [⟨some 2, none, .mov (.c (.int .i64 0))⟩]
    [0])
  (.seq (.cond (.c (.bool false))
    (.seq (.region [⟨some 3, none, .mov (.t 0)⟩,
      ⟨some 4, none, .conv .u32 (.t 3)⟩,
      ⟨some 5, none, .call F.math_bits_Len32 [.t 4]⟩,
      ⟨some 2, none, .mov (.t 5)⟩]
      [2])
    .ret)
    .skip)
  (.seq (.region [⟨some 6, none, .mov (.t 0)⟩,
    ⟨some 7, none, .call F.math_bits_Len64 [.t 6]⟩,
    ⟨some 2, none, .mov (.t 7)⟩]
    [2])
  .ret)))⟩

def RB.slices_IndexFunc_int_int_1 : RCode :=
  (.seq (.region [⟨some 9, none, .bin .lss (.t 8) (.t 7)⟩]
    [0, 1, 7, 8, 9])
  (.seq (.cond (.t 9)
    .skip
    (.exit 0))
  (.seq (.block 1
    (.seq (.region [⟨some 10, none, .mov (.t 8)⟩,
      ⟨some 5, none, .mov (.t 10)⟩]
      [0, 1, 5, 7, 8])
    (.seq (.region [⟨some 11, none, .mov (.t 1)⟩,
      ⟨some 12, none, .mov (.t 0)⟩,
      ⟨some 13, none, .mov (.t 5)⟩,
      ⟨some 14, none, .idxS 1 (.t 12) (.t 13)⟩,
      ⟨some 15, none, .load false 1 (.t 14)⟩,
      ⟨some 16, none, .callv (.t 11) [.t 15]⟩]
      [0, 1, 5, 7, 8, 16])
    (.cond (.t 16)
      (.seq (.region [⟨some 17, none, .mov (.t 5)⟩,
        ⟨some 4, none, .mov (.t 17)⟩]
        [4])
      .ret)
      .skip))) [0, 1, 7, 8])
  (.region [⟨some 18, none, .bin .add (.t 8) (.c (.int .i64 1))⟩,
    ⟨some 8, none, .mov (.t 18)⟩]
    [0, 1, 7, 8]))))
def RC.slices_IndexFunc_int_int : RFn := ⟨2, [.slot 4],
  (.seq (.region [⟨some 4, none, .mov (.c (.int .i64 0))⟩]
    [0, 1])
  (.seq (.seq (.region [⟨some 6, none, .mov (.t 0)⟩,
    ⟨some 7, none, .len (.t 6)⟩,
    ⟨some 8, none, .mov (.c (.int .i64 0))⟩]
    [0, 1, 7, 8])
  (.block 0
    (.loop [0, 1, 7, 8] RB.slices_IndexFunc_int_int_1) []))
  (.seq (.region [⟨some 4, none, .mov (.c (.int .i64 (-1)))⟩]
    [4])
  .ret)))⟩

def RC.cmp_isNaN_int : RFn := ⟨1, [.slot 2],
  (.seq (.region [⟨some 2, none, .mov (.c (.bool false))⟩]
    [0])
  (.seq (.region [⟨some 3, none, .mov (.t 0)⟩,
    ⟨some 4, none, .mov (.t 0)⟩,
    ⟨some 5, none, .bin .neq (.t 3) (.t 4)⟩,
    ⟨some 2, none, .mov (.t 5)⟩]
    [2])
  .ret))⟩

def RC.mask_frame : RFn := ⟨1, [.slot 2],
  (.seq (.region [⟨some 2, none, .mov (.c (.int .i64 0))⟩]
    [0])
  (.seq (.region [⟨some 3, none, .mov (.t 0)⟩,
    ⟨some 4, none, .minmax true [.t 3, .c (.int .i64 0)]⟩,
    ⟨some 5, none, .minmax false [.t 4, .c (.int .i64 64)]⟩,
    ⟨some 2, none, .mov (.t 5)⟩]
    [2])
  .ret))⟩

def RB.slices_insertionSortOrdered_int_1 : RCode :=
  (.seq (.seq (.drawn [⟨some 16, none, .mov (.t 7)⟩,
    ⟨some 17, none, .mov (.t 1)⟩,
    ⟨some 18, none, .bin .gtr (.t 16) (.t 17)⟩,
    ⟨some 19, none, .mov (.t 18)⟩,
    ⟨some 20, some (19, true), .mov (.t 0)⟩,
    ⟨some 21, some (19, true), .mov (.t 7)⟩,
    ⟨some 22, some (19, true), .idxS 1 (.t 20) (.t 21)⟩,
    ⟨some 23, some (19, true), .load false 1 (.t 22)⟩,
    ⟨some 24, some (19, true), .mov (.t 0)⟩,
    ⟨some 25, some (19, true), .mov (.t 7)⟩,
    ⟨some 26, some (19, true), .bin .sub (.t 25) (.c (.int .i64 1))⟩,
    ⟨some 27, some (19, true), .idxS 1 (.t 24) (.t 26)⟩,
    ⟨some 28, some (19, true), .load false 1 (.t 27)⟩,
    ⟨some 29, some (19, true), .call F.cmp_Less_int [.t 23, .t 28]⟩,
    ⟨some 30, none, .pick (.t 19) (.t 29) (.c (.bool false))⟩]
    [[], [], [0, 1], [2], [3], [3], [4, 5, 3], [6, 3], [3], [3], [9, 3], [8, 10, 3], [11, 3], [7, 12, 3, 3], [3, 13]]
    [(0, []), (1, []), (2, []), (3, []), (4, []), (5, []), (6, []), (8, []), (9, []), (10, []), (11, []), (7, []), (12, []), (13, []), (14, [])]
    [[], [], [0, 1], [0, 1, 2], [0, 1, 2, 3], [0, 1, 2, 3], [0, 1, 2, 3, 4, 5], [0, 1, 2, 3, 4, 5, 6], [0, 1, 2, 3], [0, 1, 2, 3], [0, 1, 2, 3, 9], [0, 1, 2, 3, 8, 9, 10], [0, 1, 2, 3, 8, 9, 10, 11], [0, 1, 2, 3, 4, 5, 6, 7, 8, 9, 10, 11, 12], [0, 1, 2, 3, 4, 5, 6, 7, 8, 9, 10, 11, 12, 13]]
    [0, 1, 2, 6, 7, 30])
  (.cond (.t 30)
    .skip
    (.exit 2)))
  (.seq (.block 3
    (.drawn [⟨some 33, none, .mov (.t 0)⟩,
      ⟨some 34, none, .mov (.t 7)⟩,
      ⟨some 35, none, .mov (.t 0)⟩,
      ⟨some 36, none, .mov (.t 7)⟩,
      ⟨some 37, none, .bin .sub (.t 36) (.c (.int .i64 1))⟩,
      ⟨some 38, none, .mov (.t 0)⟩,
      ⟨some 39, none, .mov (.t 7)⟩,
      ⟨some 40, none, .bin .sub (.t 39) (.c (.int .i64 1))⟩,
      ⟨some 41, none, .idxS 1 (.t 38) (.t 40)⟩,
      ⟨some 42, none, .load false 1 (.t 41)⟩,
      ⟨some 43, none, .mov (.t 0)⟩,
      ⟨some 44, none, .mov (.t 7)⟩,
      ⟨some 45, none, .idxS 1 (.t 43) (.t 44)⟩,
      ⟨some 46, none, .load false 1 (.t 45)⟩,
      ⟨some 47, none, .idxS 1 (.t 33) (.t 34)⟩,
      ⟨none, none, .store 1 (.t 47) (.t 42)⟩,
      ⟨some 48, none, .idxS 1 (.t 35) (.t 37)⟩,
      ⟨none, none, .store 1 (.t 48) (.t 46)⟩]
      [[], [], [], [], [3], [], [], [6], [5, 7], [8], [], [], [10, 11], [12], [0, 1, 0, 1, 5, 6, 7, 8, 9, 13], [14, 9, 0, 1, 5, 6, 7, 8, 9, 13], [2, 4, 0, 1, 2, 3, 4, 5, 6, 7, 8, 9, 10, 11, 12, 13, 14, 15], [16, 13, 15, 0, 1, 2, 3, 4, 5, 6, 7, 8, 9, 10, 11, 12, 13, 14, 15]]
      [(0, []), (1, []), (2, []), (3, []), (4, []), (5, []), (6, []), (7, []), (8, []), (10, []), (11, []), (12, []), (9, []), (13, []), (14, []), (15, []), (16, []), (17, [])]
      [[], [], [], [], [3], [], [], [6], [5, 6, 7], [5, 6, 7, 8], [], [], [10, 11], [10, 11, 12], [0, 1, 5, 6, 7, 8, 9, 10, 11, 12, 13], [0, 1, 5, 6, 7, 8, 9, 10, 11, 12, 13, 14], [0, 1, 2, 3, 4, 5, 6, 7, 8, 9, 10, 11, 12, 13, 14, 15], [0, 1, 2, 3, 4, 5, 6, 7, 8, 9, 10, 11, 12, 13, 14, 15, 16]]
      [0, 1, 2, 6, 7]) [0, 1, 2, 6, 7])
  (.region [⟨some 31, none, .mov (.t 7)⟩,
    ⟨some 32, none, .bin .sub (.t 31) (.c (.int .i64 1))⟩,
    ⟨some 7, none, .mov (.t 32)⟩]
    [0, 1, 2, 6, 7])))
def RB.slices_insertionSortOrdered_int_2 : RCode :=
  (.seq (.seq (.region [⟨some 10, none, .mov (.t 6)⟩,
    ⟨some 11, none, .mov (.t 2)⟩,
    ⟨some 12, none, .bin .lss (.t 10) (.t 11)⟩]
    [0, 1, 2, 6, 12])
  (.cond (.t 12)
    .skip
    (.exit 0)))
  (.seq (.block 1
    (.seq (.region [⟨some 15, none, .mov (.t 6)⟩,
      ⟨some 7, none, .mov (.t 15)⟩]
      [0, 1, 2, 6, 7])
    (.block 2
      (.loop [0, 1, 2, 6, 7] RB.slices_insertionSortOrdered_int_1) [0, 1, 2, 6])) [0, 1, 2, 6])
  (.region [⟨some 13, none, .mov (.t 6)⟩,
    ⟨some 14, none, .bin .add (.t 13) (.c (.int .i64 1))⟩,
    ⟨some 6, none, .mov (.t 14)⟩]
    [0, 1, 2, 6])))
def RC.slices_insertionSortOrdered_int : RFn := ⟨3, [],
  (.seq (.region [⟨some 8, none, .mov (.t 1)⟩,
    ⟨some 9, none, .bin .add (.t 8) (.c (.int .i64 1))⟩,
    ⟨some 6, none, .mov (.t 9)⟩]
    [0, 1, 2, 6])
  (.block 0
    (.loop [0, 1, 2, 6] RB.slices_insertionSortOrdered_int_2) []))⟩

def RB.slices_heapSortOrdered_int_1 : RCode :=
  (.seq (.seq (.region [⟨some 29, none, .mov (.t 10)⟩,
    ⟨some 30, none, .bin .geq (.t 29) (.c (.int .i64 0))⟩]
    [0, 6, 7, 10, 30])
  (.cond (.t 30)
    .skip
    (.exit 2)))
  (.seq (.block 3
    (.seq (.drawn [⟨some 33, none, .mov (.t 0)⟩,
      ⟨some 34, none, .mov (.t 6)⟩,
      ⟨some 35, none, .mov (.t 0)⟩,
      ⟨some 36, none, .mov (.t 6)⟩,
      ⟨some 37, none, .mov (.t 10)⟩,
      ⟨some 38, none, .bin .add (.t 36) (.t 37)⟩,
      ⟨some 39, none, .mov (.t 0)⟩,
      ⟨some 40, none, .mov (.t 6)⟩,
      ⟨some 41, none, .mov (.t 10)⟩,
      ⟨some 42, none, .bin .add (.t 40) (.t 41)⟩,
      ⟨some 43, none, .idxS 1 (.t 39) (.t 42)⟩,
      ⟨some 44, none, .load false 1 (.t 43)⟩,
      ⟨some 45, none, .mov (.t 0)⟩,
      ⟨some 46, none, .mov (.t 6)⟩,
      ⟨some 47, none, .idxS 1 (.t 45) (.t 46)⟩,
      ⟨some 48, none, .load false 1 (.t 47)⟩,
      ⟨some 49, none, .idxS 1 (.t 33) (.t 34)⟩,
      ⟨none, none, .store 1 (.t 49) (.t 44)⟩,
      ⟨some 50, none, .idxS 1 (.t 35) (.t 38)⟩,
      ⟨none, none, .store 1 (.t 50) (.t 48)⟩]
      [[], [], [], [], [], [3, 4], [], [], [], [7, 8], [6, 9], [10], [], [], [12, 13], [14], [0, 1, 0, 1, 6, 7, 8, 9, 10, 11, 15], [16, 11, 0, 1, 6, 7, 8, 9, 10, 11, 15], [2, 5, 0, 1, 2, 3, 4, 5, 6, 7, 8, 9, 10, 11, 12, 13, 14, 15, 16, 17], [18, 15, 17, 0, 1, 2, 3, 4, 5, 6, 7, 8, 9, 10, 11, 12, 13, 14, 15, 16, 17]]
      [(0, []), (1, []), (2, []), (3, []), (4, []), (5, []), (6, []), (7, []), (8, []), (9, []), (10, []), (12, []), (13, []), (14, []), (11, []), (15, []), (16, []), (17, []), (18, []), (19, [])]
      [[], [], [], [], [], [3, 4], [], [], [], [7, 8], [6, 7, 8, 9], [6, 7, 8, 9, 10], [], [], [12, 13], [12, 13, 14], [0, 1, 6, 7, 8, 9, 10, 11, 12, 13, 14, 15], [0, 1, 6, 7, 8, 9, 10, 11, 12, 13, 14, 15, 16], [0, 1, 2, 3, 4, 5, 6, 7, 8, 9, 10, 11, 12, 13, 14, 15, 16, 17], [0, 1, 2, 3, 4, 5, 6, 7, 8, 9, 10, 11, 12, 13, 14, 15, 16, 17, 18]]
      [0, 6, 7, 10])
    (.region [⟨some 51, none, .mov (.t 0)⟩,
      ⟨some 52, none, .mov (.t 7)⟩,
      ⟨some 53, none, .mov (.t 10)⟩,
      ⟨some 54, none, .mov (.t 6)⟩,
      ⟨some 55, none, .call F.slices_siftDownOrdered_int [.t 51, .t 52, .t 53, .t 54]⟩]
      [0, 6, 7, 10])) [0, 6, 7, 10])
  (.region [⟨some 31, none, .mov (.t 10)⟩,
    ⟨some 32, none, .bin .sub (.t 31) (.c (.int .i64 1))⟩,
    ⟨some 10, none, .mov (.t 32)⟩]
    [0, 6, 7, 10])))
def RB.slices_heapSortOrdered_int_2 : RCode :=
  (.seq (.seq (.region [⟨some 18, none, .mov (.t 9)⟩,
    ⟨some 19, none, .bin .geq (.t 18) (.c (.int .i64 0))⟩]
    [0, 6, 7, 8, 9, 19])
  (.cond (.t 19)
    .skip
    (.exit 0)))
  (.seq (.block 1
    (.region [⟨some 22, none, .mov (.t 0)⟩,
      ⟨some 23, none, .mov (.t 9)⟩,
      ⟨some 24, none, .mov (.t 8)⟩,
      ⟨some 25, none, .mov (.t 6)⟩,
      ⟨some 26, none, .call F.slices_siftDownOrdered_int [.t 22, .t 23, .t 24, .t 25]⟩]
      [0, 6, 7, 8, 9]) [0, 6, 7, 8, 9])
  (.region [⟨some 20, none, .mov (.t 9)⟩,
    ⟨some 21, none, .bin .sub (.t 20) (.c (.int .i64 1))⟩,
    ⟨some 9, none, .mov (.t 21)⟩]
    [0, 6, 7, 8, 9])))
def RC.slices_heapSortOrdered_int : RFn := ⟨3, [],
  (.seq (.region [⟨some 11, none, .mov (.t 1)⟩,
    ⟨some 6, none, .mov (.t 11)⟩]
    [0, 1, 2, 6])
  (.seq (.region [⟨some 7, none, .mov (.c (.int .i64 0))⟩]
    [0, 1, 2, 6, 7])
  (.seq (.region [⟨some 12, none, .mov (.t 2)⟩,
    ⟨some 13, none, .mov (.t 1)⟩,
    ⟨some 14, none, .bin .sub (.t 12) (.t 13)⟩,
    ⟨some 8, none, .mov (.t 14)⟩]
    [0, 6, 7, 8])
  (.seq (.seq (.region [⟨some 15, none, .mov (.t 8)⟩,
    ⟨some 16, none, .bin .sub (.t 15) (.c (.int .i64 1))⟩,
    ⟨some 17, none, .bin .quo (.t 16) (.c (.int .i64 2))⟩,
    ⟨some 9, none, .mov (.t 17)⟩]
    [0, 6, 7, 8, 9])
  (.block 0
    (.loop [0, 6, 7, 8, 9] RB.slices_heapSortOrdered_int_2) [0, 6, 7, 8]))
  (.seq (.region [⟨some 27, none, .mov (.t 8)⟩,
    ⟨some 28, none, .bin .sub (.t 27) (.c (.int .i64 1))⟩,
    ⟨some 10, none, .mov (.t 28)⟩]
    [0, 6, 7, 10])
  (.block 2
    (.loop [0, 6, 7, 10] RB.slices_heapSortOrdered_int_1) []))))))⟩

def RB.slices_breakPatternsOrdered_int_1 : RCode :=
  (.seq (.seq (.region [⟨some 26, none, .mov (.t 9)⟩,
    ⟨some 27, none, .mov (.t 1)⟩,
    ⟨some 28, none, .mov (.t 6)⟩,
    ⟨some 29, none, .bin .quo (.t 28) (.c (.int .i64 4))⟩,
    ⟨some 30, none, .bin .mul (.t 29) (.c (.int .i64 2))⟩,
    ⟨some 31, none, .bin .add (.t 27) (.t 30)⟩,
    ⟨some 32, none, .bin .add (.t 31) (.c (.int .i64 1))⟩,
    ⟨some 33, none, .bin .leq (.t 26) (.t 32)⟩]
    [0, 1, 6, 7, 8, 9, 33])
  (.cond (.t 33)
    .skip
    (.exit 0)))
  (.seq (.block 1
    (.seq (.region [⟨some 36, none, .call F.slices_xorshift_Next [.t 7]⟩,
      ⟨some 37, none, .mov (.t 8)⟩,
      ⟨some 38, none, .bin .sub (.t 37) (.c (u64 1#64))⟩,
      ⟨some 39, none, .bin .and (.t 36) (.t 38)⟩,
      ⟨some 40, none, .conv .i64 (.t 39)⟩,
      ⟨some 10, none, .mov (.t 40)⟩]
      [0, 1, 6, 7, 8, 9, 10])
    (.seq (.seq (.region [⟨some 41, none, .mov (.t 10)⟩,
      ⟨some 42, none, .mov (.t 6)⟩,
      ⟨some 43, none, .bin .geq (.t 41) (.t 42)⟩]
      [0, 1, 6, 7, 8, 9, 10, 43])
    (.cond (.t 43)
      (.region [⟨some 44, none, .mov (.t 10)⟩,
        ⟨some 45, none, .mov (.t 6)⟩,
        ⟨some 46, none, .bin .sub (.t 44) (.t 45)⟩,
        ⟨some 10, none, .mov (.t 46)⟩]
        [0, 1, 6, 7, 8, 9, 10])
      .skip))
    (.drawn [⟨some 47, none, .mov (.t 0)⟩,
      ⟨some 48, none, .mov (.t 9)⟩,
      ⟨some 49, none, .mov (.t 0)⟩,
      ⟨some 50, none, .mov (.t 1)⟩,
      ⟨some 51, none, .mov (.t 10)⟩,
      ⟨some 52, none, .bin .add (.t 50) (.t 51)⟩,
      ⟨some 53, none, .mov (.t 0)⟩,
      ⟨some 54, none, .mov (.t 1)⟩,
      ⟨some 55, none, .mov (.t 10)⟩,
      ⟨some 56, none, .bin .add (.t 54) (.t 55)⟩,
      ⟨some 57, none, .idxS 1 (.t 53) (.t 56)⟩,
      ⟨some 58, none, .load false 1 (.t 57)⟩,
      ⟨some 59, none, .mov (.t 0)⟩,
      ⟨some 60, none, .mov (.t 9)⟩,
      ⟨some 61, none, .idxS 1 (.t 59) (.t 60)⟩,
      ⟨some 62, none, .load false 1 (.t 61)⟩,
      ⟨some 63, none, .idxS 1 (.t 47) (.t 48)⟩,
      ⟨none, none, .store 1 (.t 63) (.t 58)⟩,
      ⟨some 64, none, .idxS 1 (.t 49) (.t 52)⟩,
      ⟨none, none, .store 1 (.t 64) (.t 62)⟩]
      [[], [], [], [], [], [3, 4], [], [], [], [7, 8], [6, 9], [10], [], [], [12, 13], [14], [0, 1, 0, 1, 6, 7, 8, 9, 10, 11, 15], [16, 11, 0, 1, 6, 7, 8, 9, 10, 11, 15], [2, 5, 0, 1, 2, 3, 4, 5, 6, 7, 8, 9, 10, 11, 12, 13, 14, 15, 16, 17], [18, 15, 17, 0, 1, 2, 3, 4, 5, 6, 7, 8, 9, 10, 11, 12, 13, 14, 15, 16, 17]]
      [(0, []), (1, []), (2, []), (3, []), (4, []), (5, []), (6, []), (7, []), (8, []), (9, []), (10, []), (12, []), (13, []), (14, []), (11, []), (15, []), (16, []), (17, []), (18, []), (19, [])]
      [[], [], [], [], [], [3, 4], [], [], [], [7, 8], [6, 7, 8, 9], [6, 7, 8, 9, 10], [], [], [12, 13], [12, 13, 14], [0, 1, 6, 7, 8, 9, 10, 11, 12, 13, 14, 15], [0, 1, 6, 7, 8, 9, 10, 11, 12, 13, 14, 15, 16], [0, 1, 2, 3, 4, 5, 6, 7, 8, 9, 10, 11, 12, 13, 14, 15, 16, 17], [0, 1, 2, 3, 4, 5, 6, 7, 8, 9, 10, 11, 12, 13, 14, 15, 16, 17, 18]]
      [0, 1, 6, 7, 8, 9]))) [0, 1, 6, 7, 8, 9])
  (.region [⟨some 34, none, .mov (.t 9)⟩,
    ⟨some 35, none, .bin .add (.t 34) (.c (.int .i64 1))⟩,
    ⟨some 9, none, .mov (.t 35)⟩]
    [0, 1, 6, 7, 8, 9])))
def RC.slices_breakPatternsOrdered_int : RFn := ⟨3, [],
  (.seq (.region [⟨some 11, none, .mov (.t 2)⟩,
    ⟨some 12, none, .mov (.t 1)⟩,
    ⟨some 13, none, .bin .sub (.t 11) (.t 12)⟩,
    ⟨some 6, none, .mov (.t 13)⟩]
    [0, 1, 6])
  (.seq (.region [⟨some 14, none, .mov (.t 6)⟩,
    ⟨some 15, none, .bin .geq (.t 14) (.c (.int .i64 8))⟩]
    [0, 1, 6, 15])
  (.cond (.t 15)
    (.seq (.region [⟨some 16, none, .mov (.t 6)⟩,
      ⟨some 17, none, .conv .u64 (.t 16)⟩,
      ⟨some 7, none, .alloc [(u64 0#64)]⟩,
      ⟨none, none, .store 1 (.t 7) (.t 17)⟩]
      [0, 1, 6, 7])
    (.seq (.region [⟨some 18, none, .mov (.t 6)⟩,
      ⟨some 19, none, .call F.slices_nextPowerOfTwo [.t 18]⟩,
      ⟨some 8, none, .mov (.t 19)⟩]
      [0, 1, 6, 7, 8])
    (.seq (.region [⟨some 20, none, .mov (.t 1)⟩,
      ⟨some 21, none, .mov (.t 6)⟩,
      ⟨some 22, none, .bin .quo (.t 21) (.c (.int .i64 4))⟩,
      ⟨some 23, none, .bin .mul (.t 22) (.c (.int .i64 2))⟩,
      ⟨some 24, none, .bin .add (.t 20) (.t 23)⟩,
      ⟨some 25, none, .bin .sub (.t 24) (.c (.int .i64 1))⟩,
      ⟨some 9, none, .mov (.t 25)⟩]
      [0, 1, 6, 7, 8, 9])
    (.block 0
      (.loop [0, 1, 6, 7, 8, 9] RB.slices_breakPatternsOrdered_int_1) []))))
    .skip)))⟩

def RC.slices_choosePivotOrdered_int : RFn := ⟨3, [.slot 6, .slot 7],
  (.seq (.region [⟨some 6, none, .mov (.c (.int .i64 0))⟩,
    ⟨some 7, none, .mov (.c (.int .i64 0))⟩]
    [0, 1, 2])
  (.seq (.region [⟨some 13, none, .mov (.t 2)⟩,
    ⟨some 14, none, .mov (.t 1)⟩,
    ⟨some 15, none, .bin .sub (.t 13) (.t 14)⟩,
    ⟨some 8, none, .mov (.t 15)⟩]
    [0, 1, 8])
  (.seq (.region [⟨some 9, none, .alloc [(.int .i64 0)]⟩]
    [0, 1, 8, 9])
  (.seq (.region [⟨some 16, none, .mov (.t 1)⟩,
    ⟨some 17, none, .mov (.t 8)⟩,
    ⟨some 18, none, .bin .quo (.t 17) (.c (.int .i64 4))⟩,
    ⟨some 19, none, .bin .mul (.t 18) (.c (.int .i64 1))⟩,
    ⟨some 20, none, .bin .add (.t 16) (.t 19)⟩,
    ⟨some 10, none, .mov (.t 20)⟩]
    [0, 1, 8, 9, 10])
  (.seq (.region [⟨some 21, none, .mov (.t 1)⟩,
    ⟨some 22, none, .mov (.t 8)⟩,
    ⟨some 23, none, .bin .quo (.t 22) (.c (.int .i64 4))⟩,
    ⟨some 24, none, .bin .mul (.t 23) (.c (.int .i64 2))⟩,
    ⟨some 25, none, .bin .add (.t 21) (.t 24)⟩,
    ⟨some 11, none, .mov (.t 25)⟩]
    [0, 1, 8, 9, 10, 11])
  (.seq (.region [⟨some 26, none, .mov (.t 1)⟩,
    ⟨some 27, none, .mov (.t 8)⟩,
    ⟨some 28, none, .bin .quo (.t 27) (.c (.int .i64 4))⟩,
    ⟨some 29, none, .bin .mul (.t 28) (.c (.int .i64 3))⟩,
    ⟨some 30, none, .bin .add (.t 26) (.t 29)⟩,
    ⟨some 12, none, .mov (.t 30)⟩]
    [0, 8, 9, 10, 11, 12])
  (.seq (.seq (.region [⟨some 31, none, .mov (.t 8)⟩,
    ⟨some 32, none, .bin .geq (.t 31) (.c (.int .i64 8))⟩]
    [0, 8, 9, 10, 11, 12, 32])
  (.cond (.t 32)
    (.seq (.seq (.region [⟨some 33, none, .mov (.t 8)⟩,
      ⟨some 34, none, .bin .geq (.t 33) (.c (.int .i64 50))⟩]
      [0, 9, 10, 11, 12, 34])
    (.cond (.t 34)
      (.seq (.region [⟨some 35, none, .mov (.t 0)⟩,
        ⟨some 36, none, .mov (.t 10)⟩,
        ⟨some 37, none, .call F.slices_medianAdjacentOrdered_int [.t 35, .t 36, .t 9]⟩,
        ⟨some 10, none, .mov (.t 37)⟩]
        [0, 9, 10, 11, 12])
      (.seq (.region [⟨some 38, none, .mov (.t 0)⟩,
        ⟨some 39, none, .mov (.t 11)⟩,
        ⟨some 40, none, .call F.slices_medianAdjacentOrdered_int [.t 38, .t 39, .t 9]⟩,
        ⟨some 11, none, .mov (.t 40)⟩]
        [0, 9, 10, 11, 12])
      (.region [⟨some 41, none, .mov (.t 0)⟩,
        ⟨some 42, none, .mov (.t 12)⟩,
        ⟨some 43, none, .call F.slices_medianAdjacentOrdered_int [.t 41, .t 42, .t 9]⟩,
        ⟨some 12, none, .mov (.t 43)⟩]
        [0, 9, 10, 11, 12])))
      .skip))
    (.region [⟨some 44, none, .mov (.t 0)⟩,
      ⟨some 45, none, .mov (.t 10)⟩,
      ⟨some 46, none, .mov (.t 11)⟩,
      ⟨some 47, none, .mov (.t 12)⟩,
      ⟨some 48, none, .call F.slices_medianOrdered_int [.t 44, .t 45, .t 46, .t 47, .t 9]⟩,
      ⟨some 11, none, .mov (.t 48)⟩]
      [9, 11]))
    .skip))
  (.seq (.region [⟨some 49, none, .load false 1 (.t 9)⟩]
    [11, 49])
  (.block 0
    (.seq (.region [⟨some 52, none, .bin .eql (.t 49) (.c (.int .i64 0))⟩,
      ⟨some 51, none, .mov (.t 52)⟩]
      [11, 49, 51])
    (.cond (.t 51)
      (.seq (.region [⟨some 53, none, .mov (.t 11)⟩,
        ⟨some 6, none, .mov (.t 53)⟩,
        ⟨some 7, none, .mov (.c (.int .i64 1))⟩]
        [6, 7])
      .ret)
      (.seq (.region [⟨some 55, none, .bin .eql (.t 49) (.c (.int .i64 12))⟩,
        ⟨some 54, none, .mov (.t 55)⟩]
        [11, 54])
      (.cond (.t 54)
        (.seq (.region [⟨some 56, none, .mov (.t 11)⟩,
          ⟨some 6, none, .mov (.t 56)⟩,
          ⟨some 7, none, .mov (.c (.int .i64 2))⟩]
          [6, 7])
        .ret)
        (.seq (.region [⟨some 50, none, .mov (.t 11)⟩,
          ⟨some 6, none, .mov (.t 50)⟩,
          ⟨some 7, none, .mov (.c (.int .i64 0))⟩]
          [6, 7])
        .ret))))) [6, 7])))))))))⟩

def RB.slices_reverseRangeOrdered_int_1 : RCode :=
  (.seq (.seq (.region [⟨some 11, none, .mov (.t 6)⟩,
    ⟨some 12, none, .mov (.t 7)⟩,
    ⟨some 13, none, .bin .lss (.t 11) (.t 12)⟩]
    [0, 6, 7, 13])
  (.cond (.t 13)
    .skip
    (.exit 0)))
  (.block 1
    (.seq (.drawn [⟨some 14, none, .mov (.t 0)⟩,
      ⟨some 15, none, .mov (.t 6)⟩,
      ⟨some 16, none, .mov (.t 0)⟩,
      ⟨some 17, none, .mov (.t 7)⟩,
      ⟨some 18, none, .mov (.t 0)⟩,
      ⟨some 19, none, .mov (.t 7)⟩,
      ⟨some 20, none, .idxS 1 (.t 18) (.t 19)⟩,
      ⟨some 21, none, .load false 1 (.t 20)⟩,
      ⟨some 22, none, .mov (.t 0)⟩,
      ⟨some 23, none, .mov (.t 6)⟩,
      ⟨some 24, none, .idxS 1 (.t 22) (.t 23)⟩,
      ⟨some 25, none, .load false 1 (.t 24)⟩,
      ⟨some 26, none, .idxS 1 (.t 14) (.t 15)⟩,
      ⟨none, none, .store 1 (.t 26) (.t 21)⟩,
      ⟨some 27, none, .idxS 1 (.t 16) (.t 17)⟩,
      ⟨none, none, .store 1 (.t 27) (.t 25)⟩]
      [[], [], [], [], [], [], [4, 5], [6], [], [], [8, 9], [10], [0, 1, 0, 1, 4, 5, 6, 7, 11], [12, 7, 0, 1, 4, 5, 6, 7, 11], [2, 3, 0, 1, 2, 3, 4, 5, 6, 7, 8, 9, 10, 11, 12, 13], [14, 11, 13, 0, 1, 2, 3, 4, 5, 6, 7, 8, 9, 10, 11, 12, 13]]
      [(0, []), (1, []), (2, []), (3, []), (4, []), (5, []), (6, []), (8, []), (9, []), (10, []), (7, []), (11, []), (12, []), (13, []), (14, []), (15, [])]
      [[], [], [], [], [], [], [4, 5], [4, 5, 6], [], [], [8, 9], [8, 9, 10], [0, 1, 4, 5, 6, 7, 8, 9, 10, 11], [0, 1, 4, 5, 6, 7, 8, 9, 10, 11, 12], [0, 1, 2, 3, 4, 5, 6, 7, 8, 9, 10, 11, 12, 13], [0, 1, 2, 3, 4, 5, 6, 7, 8, 9, 10, 11, 12, 13, 14]]
      [0, 6, 7])
    (.seq (.region [⟨some 28, none, .mov (.t 6)⟩,
      ⟨some 29, none, .bin .add (.t 28) (.c (.int .i64 1))⟩,
      ⟨some 6, none, .mov (.t 29)⟩]
      [0, 6, 7])
    (.region [⟨some 30, none, .mov (.t 7)⟩,
      ⟨some 31, none, .bin .sub (.t 30) (.c (.int .i64 1))⟩,
      ⟨some 7, none, .mov (.t 31)⟩]
      [0, 6, 7]))) [0, 6, 7]))
def RC.slices_reverseRangeOrdered_int : RFn := ⟨3, [],
  (.seq (.region [⟨some 8, none, .mov (.t 1)⟩,
    ⟨some 6, none, .mov (.t 8)⟩]
    [0, 2, 6])
  (.seq (.region [⟨some 9, none, .mov (.t 2)⟩,
    ⟨some 10, none, .bin .sub (.t 9) (.c (.int .i64 1))⟩,
    ⟨some 7, none, .mov (.t 10)⟩]
    [0, 6, 7])
  (.block 0
    (.loop [0, 6, 7] RB.slices_reverseRangeOrdered_int_1) [])))⟩

def RB.slices_partialInsertionSortOrdered_int_1 : RCode :=
  (.seq (.seq (.region [⟨some 101, none, .mov (.t 10)⟩,
    ⟨some 102, none, .mov (.t 2)⟩,
    ⟨some 103, none, .bin .lss (.t 101) (.t 102)⟩]
    [0, 1, 2, 7, 8, 10, 103])
  (.cond (.t 103)
    .skip
    (.exit 6)))
  (.seq (.block 7
    (.seq (.seq (.drawn [⟨some 106, none, .mov (.t 0)⟩,
      ⟨some 107, none, .mov (.t 10)⟩,
      ⟨some 108, none, .idxS 1 (.t 106) (.t 107)⟩,
      ⟨some 109, none, .load false 1 (.t 108)⟩,
      ⟨some 110, none, .mov (.t 0)⟩,
      ⟨some 111, none, .mov (.t 10)⟩,
      ⟨some 112, none, .bin .sub (.t 111) (.c (.int .i64 1))⟩,
      ⟨some 113, none, .idxS 1 (.t 110) (.t 112)⟩,
      ⟨some 114, none, .load false 1 (.t 113)⟩,
      ⟨some 115, none, .call F.cmp_Less_int [.t 109, .t 114]⟩,
      ⟨some 116, none, .un .not (.t 115)⟩]
      [[], [], [0, 1], [2], [], [], [5], [4, 6], [7], [3, 8], [9]]
      [(0, []), (1, []), (2, []), (4, []), (5, []), (6, []), (7, []), (3, []), (8, []), (9, []), (10, [])]
      [[], [], [0, 1], [0, 1, 2], [], [], [5], [4, 5, 6], [4, 5, 6, 7], [0, 1, 2, 3, 4, 5, 6, 7, 8], [0, 1, 2, 3, 4, 5, 6, 7, 8, 9]]
      [0, 1, 2, 7, 8, 10, 116])
    (.cond (.t 116)
      (.exit 6)
      .skip))
    (.drawn [⟨some 117, none, .mov (.t 0)⟩,
      ⟨some 118, none, .mov (.t 10)⟩,
      ⟨some 119, none, .mov (.t 0)⟩,
      ⟨some 120, none, .mov (.t 10)⟩,
      ⟨some 121, none, .bin .sub (.t 120) (.c (.int .i64 1))⟩,
      ⟨some 122, none, .mov (.t 0)⟩,
      ⟨some 123, none, .mov (.t 10)⟩,
      ⟨some 124, none, .bin .sub (.t 123) (.c (.int .i64 1))⟩,
      ⟨some 125, none, .idxS 1 (.t 122) (.t 124)⟩,
      ⟨some 126, none, .load false 1 (.t 125)⟩,
      ⟨some 127, none, .mov (.t 0)⟩,
      ⟨some 128, none, .mov (.t 10)⟩,
      ⟨some 129, none, .idxS 1 (.t 127) (.t 128)⟩,
      ⟨some 130, none, .load false 1 (.t 129)⟩,
      ⟨some 131, none, .idxS 1 (.t 117) (.t 118)⟩,
      ⟨none, none, .store 1 (.t 131) (.t 126)⟩,
      ⟨some 132, none, .idxS 1 (.t 119) (.t 121)⟩,
      ⟨none, none, .store 1 (.t 132) (.t 130)⟩]
      [[], [], [], [], [3], [], [], [6], [5, 7], [8], [], [], [10, 11], [12], [0, 1, 0, 1, 5, 6, 7, 8, 9, 13], [14, 9, 0, 1, 5, 6, 7, 8, 9, 13], [2, 4, 0, 1, 2, 3, 4, 5, 6, 7, 8, 9, 10, 11, 12, 13, 14, 15], [16, 13, 15, 0, 1, 2, 3, 4, 5, 6, 7, 8, 9, 10, 11, 12, 13, 14, 15]]
      [(0, []), (1, []), (2, []), (3, []), (4, []), (5, []), (6, []), (7, []), (8, []), (10, []), (11, []), (12, []), (9, []), (13, []), (14, []), (15, []), (16, []), (17, [])]
      [[], [], [], [], [3], [], [], [6], [5, 6, 7], [5, 6, 7, 8], [], [], [10, 11], [10, 11, 12], [0, 1, 5, 6, 7, 8, 9, 10, 11, 12, 13], [0, 1, 5, 6, 7, 8, 9, 10, 11, 12, 13, 14], [0, 1, 2, 3, 4, 5, 6, 7, 8, 9, 10, 11, 12, 13, 14, 15], [0, 1, 2, 3, 4, 5, 6, 7, 8, 9, 10, 11, 12, 13, 14, 15, 16]]
      [0, 1, 2, 7, 8, 10])) [0, 1, 2, 7, 8, 10])
  (.region [⟨some 104, none, .mov (.t 10)⟩,
    ⟨some 105, none, .bin .add (.t 104) (.c (.int .i64 1))⟩,
    ⟨some 10, none, .mov (.t 105)⟩]
    [0, 1, 2, 7, 8, 10])))
def RB.slices_partialInsertionSortOrdered_int_2 : RCode :=
  (.seq (.seq (.region [⟨some 64, none, .mov (.t 9)⟩,
    ⟨some 65, none, .bin .geq (.t 64) (.c (.int .i64 1))⟩]
    [0, 1, 2, 7, 8, 9, 65])
  (.cond (.t 65)
    .skip
    (.exit 4)))
  (.seq (.block 5
    (.seq (.seq (.drawn [⟨some 68, none, .mov (.t 0)⟩,
      ⟨some 69, none, .mov (.t 9)⟩,
      ⟨some 70, none, .idxS 1 (.t 68) (.t 69)⟩,
      ⟨some 71, none, .load false 1 (.t 70)⟩,
      ⟨some 72, none, .mov (.t 0)⟩,
      ⟨some 73, none, .mov (.t 9)⟩,
      ⟨some 74, none, .bin .sub (.t 73) (.c (.int .i64 1))⟩,
      ⟨some 75, none, .idxS 1 (.t 72) (.t 74)⟩,
      ⟨some 76, none, .load false 1 (.t 75)⟩,
      ⟨some 77, none, .call F.cmp_Less_int [.t 71, .t 76]⟩,
      ⟨some 78, none, .un .not (.t 77)⟩]
      [[], [], [0, 1], [2], [], [], [5], [4, 6], [7], [3, 8], [9]]
      [(0, []), (1, []), (2, []), (4, []), (5, []), (6, []), (7, []), (3, []), (8, []), (9, []), (10, [])]
      [[], [], [0, 1], [0, 1, 2], [], [], [5], [4, 5, 6], [4, 5, 6, 7], [0, 1, 2, 3, 4, 5, 6, 7, 8], [0, 1, 2, 3, 4, 5, 6, 7, 8, 9]]
      [0, 1, 2, 7, 8, 9, 78])
    (.cond (.t 78)
      (.exit 4)
      .skip))
    (.drawn [⟨some 79, none, .mov (.t 0)⟩,
      ⟨some 80, none, .mov (.t 9)⟩,
      ⟨some 81, none, .mov (.t 0)⟩,
      ⟨some 82, none, .mov (.t 9)⟩,
      ⟨some 83, none, .bin .sub (.t 82) (.c (.int .i64 1))⟩,
      ⟨some 84, none, .mov (.t 0)⟩,
      ⟨some 85, none, .mov (.t 9)⟩,
      ⟨some 86, none, .bin .sub (.t 85) (.c (.int .i64 1))⟩,
      ⟨some 87, none, .idxS 1 (.t 84) (.t 86)⟩,
      ⟨some 88, none, .load false 1 (.t 87)⟩,
      ⟨some 89, none, .mov (.t 0)⟩,
      ⟨some 90, none, .mov (.t 9)⟩,
      ⟨some 91, none, .idxS 1 (.t 89) (.t 90)⟩,
      ⟨some 92, none, .load false 1 (.t 91)⟩,
      ⟨some 93, none, .idxS 1 (.t 79) (.t 80)⟩,
      ⟨none, none, .store 1 (.t 93) (.t 88)⟩,
      ⟨some 94, none, .idxS 1 (.t 81) (.t 83)⟩,
      ⟨none, none, .store 1 (.t 94) (.t 92)⟩]
      [[], [], [], [], [3], [], [], [6], [5, 7], [8], [], [], [10, 11], [12], [0, 1, 0, 1, 5, 6, 7, 8, 9, 13], [14, 9, 0, 1, 5, 6, 7, 8, 9, 13], [2, 4, 0, 1, 2, 3, 4, 5, 6, 7, 8, 9, 10, 11, 12, 13, 14, 15], [16, 13, 15, 0, 1, 2, 3, 4, 5, 6, 7, 8, 9, 10, 11, 12, 13, 14, 15]]
      [(0, []), (1, []), (2, []), (3, []), (4, []), (5, []), (6, []), (7, []), (8, []), (10, []), (11, []), (12, []), (9, []), (13, []), (14, []), (15, []), (16, []), (17, [])]
      [[], [], [], [], [3], [], [], [6], [5, 6, 7], [5, 6, 7, 8], [], [], [10, 11], [10, 11, 12], [0, 1, 5, 6, 7, 8, 9, 10, 11, 12, 13], [0, 1, 5, 6, 7, 8, 9, 10, 11, 12, 13, 14], [0, 1, 2, 3, 4, 5, 6, 7, 8, 9, 10, 11, 12, 13, 14, 15], [0, 1, 2, 3, 4, 5, 6, 7, 8, 9, 10, 11, 12, 13, 14, 15, 16]]
      [0, 1, 2, 7, 8, 9])) [0, 1, 2, 7, 8, 9])
  (.region [⟨some 66, none, .mov (.t 9)⟩,
    ⟨some 67, none, .bin .sub (.t 66) (.c (.int .i64 1))⟩,
    ⟨some 9, none, .mov (.t 67)⟩]
    [0, 1, 2, 7, 8, 9])))
def RB.slices_partialInsertionSortOrdered_int_3 : RCode :=
  (.seq (.seq (.drawn [⟨some 17, none, .mov (.t 7)⟩,
    ⟨some 18, none, .mov (.t 2)⟩,
    ⟨some 19, none, .bin .lss (.t 17) (.t 18)⟩,
    ⟨some 20, none, .mov (.t 19)⟩,
    ⟨some 21, some (20, true), .mov (.t 0)⟩,
    ⟨some 22, some (20, true), .mov (.t 7)⟩,
    ⟨some 23, some (20, true), .idxS 1 (.t 21) (.t 22)⟩,
    ⟨some 24, some (20, true), .load false 1 (.t 23)⟩,
    ⟨some 25, some (20, true), .mov (.t 0)⟩,
    ⟨some 26, some (20, true), .mov (.t 7)⟩,
    ⟨some 27, some (20, true), .bin .sub (.t 26) (.c (.int .i64 1))⟩,
    ⟨some 28, some (20, true), .idxS 1 (.t 25) (.t 27)⟩,
    ⟨some 29, some (20, true), .load false 1 (.t 28)⟩,
    ⟨some 30, some (20, true), .call F.cmp_Less_int [.t 24, .t 29]⟩,
    ⟨some 31, some (20, true), .un .not (.t 30)⟩,
    ⟨some 32, none, .pick (.t 20) (.t 31) (.c (.bool false))⟩]
    [[], [], [0, 1], [2], [3], [3], [4, 5, 3], [6, 3], [3], [3], [9, 3], [8, 10, 3], [11, 3], [7, 12, 3, 3], [13, 3], [3, 14]]
    [(0, []), (1, []), (2, []), (3, []), (4, []), (5, []), (6, []), (8, []), (9, []), (10, []), (11, []), (7, []), (12, []), (13, []), (14, []), (15, [])]
    [[], [], [0, 1], [0, 1, 2], [0, 1, 2, 3], [0, 1, 2, 3], [0, 1, 2, 3, 4, 5], [0, 1, 2, 3, 4, 5, 6], [0, 1, 2, 3], [0, 1, 2, 3], [0, 1, 2, 3, 9], [0, 1, 2, 3, 8, 9, 10], [0, 1, 2, 3, 8, 9, 10, 11], [0, 1, 2, 3, 4, 5, 6, 7, 8, 9, 10, 11, 12], [0, 1, 2, 3, 4, 5, 6, 7, 8, 9, 10, 11, 12, 13], [0, 1, 2, 3, 4, 5, 6, 7, 8, 9, 10, 11, 12, 13, 14]]
    [0, 1, 2, 7, 8, 32])
  (.cond (.t 32)
    .skip
    (.exit 2)))
  (.block 3
    (.region [⟨some 33, none, .mov (.t 7)⟩,
      ⟨some 34, none, .bin .add (.t 33) (.c (.int .i64 1))⟩,
      ⟨some 7, none, .mov (.t 34)⟩]
      [0, 1, 2, 7, 8]) [0, 1, 2, 7, 8]))
def RB.slices_partialInsertionSortOrdered_int_4 : RCode :=
  (.seq (.seq (.region [⟨some 13, none, .mov (.t 8)⟩,
    ⟨some 14, none, .bin .lss (.t 13) (.c (.int .i64 5))⟩]
    [0, 1, 2, 7, 8, 14])
  (.cond (.t 14)
    .skip
    (.exit 0)))
  (.seq (.block 1
    (.seq (.block 2
      (.loop [0, 1, 2, 7, 8] RB.slices_partialInsertionSortOrdered_int_3) [0, 1, 2, 7, 8])
    (.seq (.seq (.region [⟨some 35, none, .mov (.t 7)⟩,
      ⟨some 36, none, .mov (.t 2)⟩,
      ⟨some 37, none, .bin .eql (.t 35) (.t 36)⟩]
      [0, 1, 2, 7, 8, 37])
    (.cond (.t 37)
      (.seq (.region [⟨some 6, none, .mov (.c (.bool true))⟩]
        [6])
      .ret)
      .skip))
    (.seq (.seq (.region [⟨some 38, none, .mov (.t 2)⟩,
      ⟨some 39, none, .mov (.t 1)⟩,
      ⟨some 40, none, .bin .sub (.t 38) (.t 39)⟩,
      ⟨some 41, none, .bin .lss (.t 40) (.c (.int .i64 50))⟩]
      [0, 1, 2, 7, 8, 41])
    (.cond (.t 41)
      (.seq (.region [⟨some 6, none, .mov (.c (.bool false))⟩]
        [6])
      .ret)
      .skip))
    (.seq (.drawn [⟨some 42, none, .mov (.t 0)⟩,
      ⟨some 43, none, .mov (.t 7)⟩,
      ⟨some 44, none, .mov (.t 0)⟩,
      ⟨some 45, none, .mov (.t 7)⟩,
      ⟨some 46, none, .bin .sub (.t 45) (.c (.int .i64 1))⟩,
      ⟨some 47, none, .mov (.t 0)⟩,
      ⟨some 48, none, .mov (.t 7)⟩,
      ⟨some 49, none, .bin .sub (.t 48) (.c (.int .i64 1))⟩,
      ⟨some 50, none, .idxS 1 (.t 47) (.t 49)⟩,
      ⟨some 51, none, .load false 1 (.t 50)⟩,
      ⟨some 52, none, .mov (.t 0)⟩,
      ⟨some 53, none, .mov (.t 7)⟩,
      ⟨some 54, none, .idxS 1 (.t 52) (.t 53)⟩,
      ⟨some 55, none, .load false 1 (.t 54)⟩,
      ⟨some 56, none, .idxS 1 (.t 42) (.t 43)⟩,
      ⟨none, none, .store 1 (.t 56) (.t 51)⟩,
      ⟨some 57, none, .idxS 1 (.t 44) (.t 46)⟩,
      ⟨none, none, .store 1 (.t 57) (.t 55)⟩]
      [[], [], [], [], [3], [], [], [6], [5, 7], [8], [], [], [10, 11], [12], [0, 1, 0, 1, 5, 6, 7, 8, 9, 13], [14, 9, 0, 1, 5, 6, 7, 8, 9, 13], [2, 4, 0, 1, 2, 3, 4, 5, 6, 7, 8, 9, 10, 11, 12, 13, 14, 15], [16, 13, 15, 0, 1, 2, 3, 4, 5, 6, 7, 8, 9, 10, 11, 12, 13, 14, 15]]
      [(0, []), (1, []), (2, []), (3, []), (4, []), (5, []), (6, []), (7, []), (8, []), (10, []), (11, []), (12, []), (9, []), (13, []), (14, []), (15, []), (16, []), (17, [])]
      [[], [], [], [], [3], [], [], [6], [5, 6, 7], [5, 6, 7, 8], [], [], [10, 11], [10, 11, 12], [0, 1, 5, 6, 7, 8, 9, 10, 11, 12, 13], [0, 1, 5, 6, 7, 8, 9, 10, 11, 12, 13, 14], [0, 1, 2, 3, 4, 5, 6, 7, 8, 9, 10, 11, 12, 13, 14, 15], [0, 1, 2, 3, 4, 5, 6, 7, 8, 9, 10, 11, 12, 13, 14, 15, 16]]
      [0, 1, 2, 7, 8])
    (.seq (.seq (.region [⟨some 58, none, .mov (.t 7)⟩,
      ⟨some 59, none, .mov (.t 1)⟩,
      ⟨some 60, none, .bin .sub (.t 58) (.t 59)⟩,
      ⟨some 61, none, .bin .geq (.t 60) (.c (.int .i64 2))⟩]
      [0, 1, 2, 7, 8, 61])
    (.cond (.t 61)
      (.seq (.region [⟨some 62, none, .mov (.t 7)⟩,
        ⟨some 63, none, .bin .sub (.t 62) (.c (.int .i64 1))⟩,
        ⟨some 9, none, .mov (.t 63)⟩]
        [0, 1, 2, 7, 8, 9])
      (.block 4
        (.loop [0, 1, 2, 7, 8, 9] RB.slices_partialInsertionSortOrdered_int_2) [0, 1, 2, 7, 8]))
      .skip))
    (.seq (.region [⟨some 95, none, .mov (.t 2)⟩,
      ⟨some 96, none, .mov (.t 7)⟩,
      ⟨some 97, none, .bin .sub (.t 95) (.t 96)⟩,
      ⟨some 98, none, .bin .geq (.t 97) (.c (.int .i64 2))⟩]
      [0, 1, 2, 7, 8, 98])
    (.cond (.t 98)
      (.seq (.region [⟨some 99, none, .mov (.t 7)⟩,
        ⟨some 100, none, .bin .add (.t 99) (.c (.int .i64 1))⟩,
        ⟨some 10, none, .mov (.t 100)⟩]
        [0, 1, 2, 7, 8, 10])
      (.block 6
        (.loop [0, 1, 2, 7, 8, 10] RB.slices_partialInsertionSortOrdered_int_1) [0, 1, 2, 7, 8]))
      .skip))))))) [0, 1, 2, 7, 8])
  (.region [⟨some 15, none, .mov (.t 8)⟩,
    ⟨some 16, none, .bin .add (.t 15) (.c (.int .i64 1))⟩,
    ⟨some 8, none, .mov (.t 16)⟩]
    [0, 1, 2, 7, 8])))
def RC.slices_partialInsertionSortOrdered_int : RFn := ⟨3, [.slot 6],
  (.seq (.region [⟨some 6, none, .mov (.c (.bool false))⟩]
    [0, 1, 2])
  (.seq (.region [⟨some 11, none, .mov (.t 1)⟩,
    ⟨some 12, none, .bin .add (.t 11) (.c (.int .i64 1))⟩,
    ⟨some 7, none, .mov (.t 12)⟩]
    [0, 1, 2, 7])
  (.seq (.seq (.region [⟨some 8, none, .mov (.c (.int .i64 0))⟩]
    [0, 1, 2, 7, 8])
  (.block 0
    (.loop [0, 1, 2, 7, 8] RB.slices_partialInsertionSortOrdered_int_4) []))
  (.seq (.region [⟨some 6, none, .mov (.c (.bool false))⟩]
    [6])
  .ret))))⟩

def RC.cmp_Less_int : RFn := ⟨2, [.slot 4],
  (.seq (.region [⟨some 4, none, .mov (.c (.bool false))⟩]
    [0, 1])
  (.seq (.region [⟨some 5, none, .mov (.t 0)⟩,
    ⟨some 6, none, .call F.cmp_isNaN_int [.t 5]⟩,
    ⟨some 7, none, .mov (.t 6)⟩,
    ⟨some 8, some (7, true), .mov (.t 1)⟩,
    ⟨some 9, some (7, true), .call F.cmp_isNaN_int [.t 8]⟩,
    ⟨some 10, some (7, true), .un .not (.t 9)⟩,
    ⟨some 11, none, .pick (.t 7) (.t 10) (.c (.bool false))⟩,
    ⟨some 12, none, .mov (.t 11)⟩,
    ⟨some 13, some (12, false), .mov (.t 0)⟩,
    ⟨some 14, some (12, false), .mov (.t 1)⟩,
    ⟨some 15, some (12, false), .bin .lss (.t 13) (.t 14)⟩,
    ⟨some 16, none, .pick (.t 12) (.c (.bool true)) (.t 15)⟩,
    ⟨some 4, none, .mov (.t 16)⟩]
    [4])
  .ret))⟩

def RB.slices_partitionEqualOrdered_int_1 : RCode :=
  (.seq (.seq (.drawn [⟨some 46, none, .mov (.t 9)⟩,
    ⟨some 47, none, .mov (.t 10)⟩,
    ⟨some 48, none, .bin .leq (.t 46) (.t 47)⟩,
    ⟨some 49, none, .mov (.t 48)⟩,
    ⟨some 50, some (49, true), .mov (.t 0)⟩,
    ⟨some 51, some (49, true), .mov (.t 1)⟩,
    ⟨some 52, some (49, true), .idxS 1 (.t 50) (.t 51)⟩,
    ⟨some 53, some (49, true), .load false 1 (.t 52)⟩,
    ⟨some 54, some (49, true), .mov (.t 0)⟩,
    ⟨some 55, some (49, true), .mov (.t 10)⟩,
    ⟨some 56, some (49, true), .idxS 1 (.t 54) (.t 55)⟩,
    ⟨some 57, some (49, true), .load false 1 (.t 56)⟩,
    ⟨some 58, some (49, true), .call F.cmp_Less_int [.t 53, .t 57]⟩,
    ⟨some 59, none, .pick (.t 49) (.t 58) (.c (.bool false))⟩]
    [[], [], [0, 1], [2], [3], [3], [4, 5, 3], [6, 3], [3], [3], [8, 9, 3], [10, 3], [7, 11, 3, 3], [3, 12]]
    [(0, []), (1, []), (2, []), (3, []), (4, []), (5, []), (6, []), (8, []), (9, []), (10, []), (7, []), (11, []), (12, []), (13, [])]
    [[], [], [0, 1], [0, 1, 2], [0, 1, 2, 3], [0, 1, 2, 3], [0, 1, 2, 3, 4, 5], [0, 1, 2, 3, 4, 5, 6], [0, 1, 2, 3], [0, 1, 2, 3], [0, 1, 2, 3, 8, 9], [0, 1, 2, 3, 8, 9, 10], [0, 1, 2, 3, 4, 5, 6, 7, 8, 9, 10, 11], [0, 1, 2, 3, 4, 5, 6, 7, 8, 9, 10, 11, 12]]
    [0, 1, 9, 10, 59])
  (.cond (.t 59)
    .skip
    (.exit 4)))
  (.block 5
    (.region [⟨some 60, none, .mov (.t 10)⟩,
      ⟨some 61, none, .bin .sub (.t 60) (.c (.int .i64 1))⟩,
      ⟨some 10, none, .mov (.t 61)⟩]
      [0, 1, 9, 10]) [0, 1, 9, 10]))
def RB.slices_partitionEqualOrdered_int_2 : RCode :=
  (.seq (.seq (.drawn [⟨some 29, none, .mov (.t 9)⟩,
    ⟨some 30, none, .mov (.t 10)⟩,
    ⟨some 31, none, .bin .leq (.t 29) (.t 30)⟩,
    ⟨some 32, none, .mov (.t 31)⟩,
    ⟨some 33, some (32, true), .mov (.t 0)⟩,
    ⟨some 34, some (32, true), .mov (.t 1)⟩,
    ⟨some 35, some (32, true), .idxS 1 (.t 33) (.t 34)⟩,
    ⟨some 36, some (32, true), .load false 1 (.t 35)⟩,
    ⟨some 37, some (32, true), .mov (.t 0)⟩,
    ⟨some 38, some (32, true), .mov (.t 9)⟩,
    ⟨some 39, some (32, true), .idxS 1 (.t 37) (.t 38)⟩,
    ⟨some 40, some (32, true), .load false 1 (.t 39)⟩,
    ⟨some 41, some (32, true), .call F.cmp_Less_int [.t 36, .t 40]⟩,
    ⟨some 42, some (32, true), .un .not (.t 41)⟩,
    ⟨some 43, none, .pick (.t 32) (.t 42) (.c (.bool false))⟩]
    [[], [], [0, 1], [2], [3], [3], [4, 5, 3], [6, 3], [3], [3], [8, 9, 3], [10, 3], [7, 11, 3, 3], [12, 3], [3, 13]]
    [(0, []), (1, []), (2, []), (3, []), (4, []), (5, []), (6, []), (8, []), (9, []), (10, []), (7, []), (11, []), (12, []), (13, []), (14, [])]
    [[], [], [0, 1], [0, 1, 2], [0, 1, 2, 3], [0, 1, 2, 3], [0, 1, 2, 3, 4, 5], [0, 1, 2, 3, 4, 5, 6], [0, 1, 2, 3], [0, 1, 2, 3], [0, 1, 2, 3, 8, 9], [0, 1, 2, 3, 8, 9, 10], [0, 1, 2, 3, 4, 5, 6, 7, 8, 9, 10, 11], [0, 1, 2, 3, 4, 5, 6, 7, 8, 9, 10, 11, 12], [0, 1, 2, 3, 4, 5, 6, 7, 8, 9, 10, 11, 12, 13]]
    [0, 1, 9, 10, 43])
  (.cond (.t 43)
    .skip
    (.exit 2)))
  (.block 3
    (.region [⟨some 44, none, .mov (.t 9)⟩,
      ⟨some 45, none, .bin .add (.t 44) (.c (.int .i64 1))⟩,
      ⟨some 9, none, .mov (.t 45)⟩]
      [0, 1, 9, 10]) [0, 1, 9, 10]))
def RB.slices_partitionEqualOrdered_int_3 : RCode :=
  (.block 1
    (.seq (.block 2
      (.loop [0, 1, 9, 10] RB.slices_partitionEqualOrdered_int_2) [0, 1, 9, 10])
    (.seq (.block 4
      (.loop [0, 1, 9, 10] RB.slices_partitionEqualOrdered_int_1) [0, 1, 9, 10])
    (.seq (.seq (.region [⟨some 62, none, .mov (.t 9)⟩,
      ⟨some 63, none, .mov (.t 10)⟩,
      ⟨some 64, none, .bin .gtr (.t 62) (.t 63)⟩]
      [0, 1, 9, 10, 64])
    (.cond (.t 64)
      (.exit 0)
      .skip))
    (.seq (.drawn [⟨some 65, none, .mov (.t 0)⟩,
      ⟨some 66, none, .mov (.t 9)⟩,
      ⟨some 67, none, .mov (.t 0)⟩,
      ⟨some 68, none, .mov (.t 10)⟩,
      ⟨some 69, none, .mov (.t 0)⟩,
      ⟨some 70, none, .mov (.t 10)⟩,
      ⟨some 71, none, .idxS 1 (.t 69) (.t 70)⟩,
      ⟨some 72, none, .load false 1 (.t 71)⟩,
      ⟨some 73, none, .mov (.t 0)⟩,
      ⟨some 74, none, .mov (.t 9)⟩,
      ⟨some 75, none, .idxS 1 (.t 73) (.t 74)⟩,
      ⟨some 76, none, .load false 1 (.t 75)⟩,
      ⟨some 77, none, .idxS 1 (.t 65) (.t 66)⟩,
      ⟨none, none, .store 1 (.t 77) (.t 72)⟩,
      ⟨some 78, none, .idxS 1 (.t 67) (.t 68)⟩,
      ⟨none, none, .store 1 (.t 78) (.t 76)⟩]
      [[], [], [], [], [], [], [4, 5], [6], [], [], [8, 9], [10], [0, 1, 0, 1, 4, 5, 6, 7, 11], [12, 7, 0, 1, 4, 5, 6, 7, 11], [2, 3, 0, 1, 2, 3, 4, 5, 6, 7, 8, 9, 10, 11, 12, 13], [14, 11, 13, 0, 1, 2, 3, 4, 5, 6, 7, 8, 9, 10, 11, 12, 13]]
      [(0, []), (1, []), (2, []), (3, []), (4, []), (5, []), (6, []), (8, []), (9, []), (10, []), (7, []), (11, []), (12, []), (13, []), (14, []), (15, [])]
      [[], [], [], [], [], [], [4, 5], [4, 5, 6], [], [], [8, 9], [8, 9, 10], [0, 1, 4, 5, 6, 7, 8, 9, 10, 11], [0, 1, 4, 5, 6, 7, 8, 9, 10, 11, 12], [0, 1, 2, 3, 4, 5, 6, 7, 8, 9, 10, 11, 12, 13], [0, 1, 2, 3, 4, 5, 6, 7, 8, 9, 10, 11, 12, 13, 14]]
      [0, 1, 9, 10])
    (.seq (.region [⟨some 79, none, .mov (.t 9)⟩,
      ⟨some 80, none, .bin .add (.t 79) (.c (.int .i64 1))⟩,
      ⟨some 9, none, .mov (.t 80)⟩]
      [0, 1, 9, 10])
    (.region [⟨some 81, none, .mov (.t 10)⟩,
      ⟨some 82, none, .bin .sub (.t 81) (.c (.int .i64 1))⟩,
      ⟨some 10, none, .mov (.t 82)⟩]
      [0, 1, 9, 10])))))) [0, 1, 9, 10])
def RC.slices_partitionEqualOrdered_int : RFn := ⟨4, [.slot 8],
  (.seq (.region [⟨some 8, none, .mov (.c (.int .i64 0))⟩]
    [0, 1, 2, 3])
  (.seq (.drawn [⟨some 11, none, .mov (.t 0)⟩,
    ⟨some 12, none, .mov (.t 1)⟩,
    ⟨some 13, none, .mov (.t 0)⟩,
    ⟨some 14, none, .mov (.t 3)⟩,
    ⟨some 15, none, .mov (.t 0)⟩,
    ⟨some 16, none, .mov (.t 3)⟩,
    ⟨some 17, none, .idxS 1 (.t 15) (.t 16)⟩,
    ⟨some 18, none, .load false 1 (.t 17)⟩,
    ⟨some 19, none, .mov (.t 0)⟩,
    ⟨some 20, none, .mov (.t 1)⟩,
    ⟨some 21, none, .idxS 1 (.t 19) (.t 20)⟩,
    ⟨some 22, none, .load false 1 (.t 21)⟩,
    ⟨some 23, none, .idxS 1 (.t 11) (.t 12)⟩,
    ⟨none, none, .store 1 (.t 23) (.t 18)⟩,
    ⟨some 24, none, .idxS 1 (.t 13) (.t 14)⟩,
    ⟨none, none, .store 1 (.t 24) (.t 22)⟩]
    [[], [], [], [], [], [], [4, 5], [6], [], [], [8, 9], [10], [0, 1, 0, 1, 4, 5, 6, 7, 11], [12, 7, 0, 1, 4, 5, 6, 7, 11], [2, 3, 0, 1, 2, 3, 4, 5, 6, 7, 8, 9, 10, 11, 12, 13], [14, 11, 13, 0, 1, 2, 3, 4, 5, 6, 7, 8, 9, 10, 11, 12, 13]]
    [(0, []), (1, []), (2, []), (3, []), (4, []), (5, []), (6, []), (8, []), (9, []), (10, []), (7, []), (11, []), (12, []), (13, []), (14, []), (15, [])]
    [[], [], [], [], [], [], [4, 5], [4, 5, 6], [], [], [8, 9], [8, 9, 10], [0, 1, 4, 5, 6, 7, 8, 9, 10, 11], [0, 1, 4, 5, 6, 7, 8, 9, 10, 11, 12], [0, 1, 2, 3, 4, 5, 6, 7, 8, 9, 10, 11, 12, 13], [0, 1, 2, 3, 4, 5, 6, 7, 8, 9, 10, 11, 12, 13, 14]]
    [0, 1, 2])
  (.seq (.region [⟨some 25, none, .mov (.t 1)⟩,
    ⟨some 26, none, .bin .add (.t 25) (.c (.int .i64 1))⟩,
    ⟨some 27, none, .mov (.t 2)⟩,
    ⟨some 28, none, .bin .sub (.t 27) (.c (.int .i64 1))⟩,
    ⟨some 9, none, .mov (.t 26)⟩,
    ⟨some 10, none, .mov (.t 28)⟩]
    [0, 1, 9, 10])
  (.seq (.block 0
    (.loop [0, 1, 9, 10] RB.slices_partitionEqualOrdered_int_3) [9])
  (.seq (.region [⟨some 83, none, .mov (.t 9)⟩,
    ⟨some 8, none, .mov (.t 83)⟩]
    [8])
  .ret)))))⟩

def RB.slices_partitionOrdered_int_1 : RCode :=
  (.seq (.seq (.drawn [⟨some 115, none, .mov (.t 10)⟩,
    ⟨some 116, none, .mov (.t 11)⟩,
    ⟨some 117, none, .bin .leq (.t 115) (.t 116)⟩,
    ⟨some 118, none, .mov (.t 117)⟩,
    ⟨some 119, some (118, true), .mov (.t 0)⟩,
    ⟨some 120, some (118, true), .mov (.t 11)⟩,
    ⟨some 121, some (118, true), .idxS 1 (.t 119) (.t 120)⟩,
    ⟨some 122, some (118, true), .load false 1 (.t 121)⟩,
    ⟨some 123, some (118, true), .mov (.t 0)⟩,
    ⟨some 124, some (118, true), .mov (.t 1)⟩,
    ⟨some 125, some (118, true), .idxS 1 (.t 123) (.t 124)⟩,
    ⟨some 126, some (118, true), .load false 1 (.t 125)⟩,
    ⟨some 127, some (118, true), .call F.cmp_Less_int [.t 122, .t 126]⟩,
    ⟨some 128, some (118, true), .un .not (.t 127)⟩,
    ⟨some 129, none, .pick (.t 118) (.t 128) (.c (.bool false))⟩]
    [[], [], [0, 1], [2], [3], [3], [4, 5, 3], [6, 3], [3], [3], [8, 9, 3], [10, 3], [7, 11, 3, 3], [12, 3], [3, 13]]
    [(0, []), (1, []), (2, []), (3, []), (4, []), (5, []), (6, []), (8, []), (9, []), (10, []), (7, []), (11, []), (12, []), (13, []), (14, [])]
    [[], [], [0, 1], [0, 1, 2], [0, 1, 2, 3], [0, 1, 2, 3], [0, 1, 2, 3, 4, 5], [0, 1, 2, 3, 4, 5, 6], [0, 1, 2, 3], [0, 1, 2, 3], [0, 1, 2, 3, 8, 9], [0, 1, 2, 3, 8, 9, 10], [0, 1, 2, 3, 4, 5, 6, 7, 8, 9, 10, 11], [0, 1, 2, 3, 4, 5, 6, 7, 8, 9, 10, 11, 12], [0, 1, 2, 3, 4, 5, 6, 7, 8, 9, 10, 11, 12, 13]]
    [0, 1, 10, 11, 129])
  (.cond (.t 129)
    .skip
    (.exit 8)))
  (.block 9
    (.region [⟨some 130, none, .mov (.t 11)⟩,
      ⟨some 131, none, .bin .sub (.t 130) (.c (.int .i64 1))⟩,
      ⟨some 11, none, .mov (.t 131)⟩]
      [0, 1, 10, 11]) [0, 1, 10, 11]))
def RB.slices_partitionOrdered_int_2 : RCode :=
  (.seq (.seq (.drawn [⟨some 99, none, .mov (.t 10)⟩,
    ⟨some 100, none, .mov (.t 11)⟩,
    ⟨some 101, none, .bin .leq (.t 99) (.t 100)⟩,
    ⟨some 102, none, .mov (.t 101)⟩,
    ⟨some 103, some (102, true), .mov (.t 0)⟩,
    ⟨some 104, some (102, true), .mov (.t 10)⟩,
    ⟨some 105, some (102, true), .idxS 1 (.t 103) (.t 104)⟩,
    ⟨some 106, some (102, true), .load false 1 (.t 105)⟩,
    ⟨some 107, some (102, true), .mov (.t 0)⟩,
    ⟨some 108, some (102, true), .mov (.t 1)⟩,
    ⟨some 109, some (102, true), .idxS 1 (.t 107) (.t 108)⟩,
    ⟨some 110, some (102, true), .load false 1 (.t 109)⟩,
    ⟨some 111, some (102, true), .call F.cmp_Less_int [.t 106, .t 110]⟩,
    ⟨some 112, none, .pick (.t 102) (.t 111) (.c (.bool false))⟩]
    [[], [], [0, 1], [2], [3], [3], [4, 5, 3], [6, 3], [3], [3], [8, 9, 3], [10, 3], [7, 11, 3, 3], [3, 12]]
    [(0, []), (1, []), (2, []), (3, []), (4, []), (5, []), (6, []), (8, []), (9, []), (10, []), (7, []), (11, []), (12, []), (13, [])]
    [[], [], [0, 1], [0, 1, 2], [0, 1, 2, 3], [0, 1, 2, 3], [0, 1, 2, 3, 4, 5], [0, 1, 2, 3, 4, 5, 6], [0, 1, 2, 3], [0, 1, 2, 3], [0, 1, 2, 3, 8, 9], [0, 1, 2, 3, 8, 9, 10], [0, 1, 2, 3, 4, 5, 6, 7, 8, 9, 10, 11], [0, 1, 2, 3, 4, 5, 6, 7, 8, 9, 10, 11, 12]]
    [0, 1, 10, 11, 112])
  (.cond (.t 112)
    .skip
    (.exit 6)))
  (.block 7
    (.region [⟨some 113, none, .mov (.t 10)⟩,
      ⟨some 114, none, .bin .add (.t 113) (.c (.int .i64 1))⟩,
      ⟨some 10, none, .mov (.t 114)⟩]
      [0, 1, 10, 11]) [0, 1, 10, 11]))
def RB.slices_partitionOrdered_int_3 : RCode :=
  (.block 5
    (.seq (.block 6
      (.loop [0, 1, 10, 11] RB.slices_partitionOrdered_int_2) [0, 1, 10, 11])
    (.seq (.block 8
      (.loop [0, 1, 10, 11] RB.slices_partitionOrdered_int_1) [0, 1, 10, 11])
    (.seq (.seq (.region [⟨some 132, none, .mov (.t 10)⟩,
      ⟨some 133, none, .mov (.t 11)⟩,
      ⟨some 134, none, .bin .gtr (.t 132) (.t 133)⟩]
      [0, 1, 10, 11, 134])
    (.cond (.t 134)
      (.exit 4)
      .skip))
    (.seq (.drawn [⟨some 135, none, .mov (.t 0)⟩,
      ⟨some 136, none, .mov (.t 10)⟩,
      ⟨some 137, none, .mov (.t 0)⟩,
      ⟨some 138, none, .mov (.t 11)⟩,
      ⟨some 139, none, .mov (.t 0)⟩,
      ⟨some 140, none, .mov (.t 11)⟩,
      ⟨some 141, none, .idxS 1 (.t 139) (.t 140)⟩,
      ⟨some 142, none, .load false 1 (.t 141)⟩,
      ⟨some 143, none, .mov (.t 0)⟩,
      ⟨some 144, none, .mov (.t 10)⟩,
      ⟨some 145, none, .idxS 1 (.t 143) (.t 144)⟩,
      ⟨some 146, none, .load false 1 (.t 145)⟩,
      ⟨some 147, none, .idxS 1 (.t 135) (.t 136)⟩,
      ⟨none, none, .store 1 (.t 147) (.t 142)⟩,
      ⟨some 148, none, .idxS 1 (.t 137) (.t 138)⟩,
      ⟨none, none, .store 1 (.t 148) (.t 146)⟩]
      [[], [], [], [], [], [], [4, 5], [6], [], [], [8, 9], [10], [0, 1, 0, 1, 4, 5, 6, 7, 11], [12, 7, 0, 1, 4, 5, 6, 7, 11], [2, 3, 0, 1, 2, 3, 4, 5, 6, 7, 8, 9, 10, 11, 12, 13], [14, 11, 13, 0, 1, 2, 3, 4, 5, 6, 7, 8, 9, 10, 11, 12, 13]]
      [(0, []), (1, []), (2, []), (3, []), (4, []), (5, []), (6, []), (8, []), (9, []), (10, []), (7, []), (11, []), (12, []), (13, []), (14, []), (15, [])]
      [[], [], [], [], [], [], [4, 5], [4, 5, 6], [], [], [8, 9], [8, 9, 10], [0, 1, 4, 5, 6, 7, 8, 9, 10, 11], [0, 1, 4, 5, 6, 7, 8, 9, 10, 11, 12], [0, 1, 2, 3, 4, 5, 6, 7, 8, 9, 10, 11, 12, 13], [0, 1, 2, 3, 4, 5, 6, 7, 8, 9, 10, 11, 12, 13, 14]]
      [0, 1, 10, 11])
    (.seq (.region [⟨some 149, none, .mov (.t 10)⟩,
      ⟨some 150, none, .bin .add (.t 149) (.c (.int .i64 1))⟩,
      ⟨some 10, none, .mov (.t 150)⟩]
      [0, 1, 10, 11])
    (.region [⟨some 151, none, .mov (.t 11)⟩,
      ⟨some 152, none, .bin .sub (.t 151) (.c (.int .i64 1))⟩,
      ⟨some 11, none, .mov (.t 152)⟩]
      [0, 1, 10, 11])))))) [0, 1, 10, 11])
def RB.slices_partitionOrdered_int_4 : RCode :=
  (.seq (.seq (.drawn [⟨some 46, none, .mov (.t 10)⟩,
    ⟨some 47, none, .mov (.t 11)⟩,
    ⟨some 48, none, .bin .leq (.t 46) (.t 47)⟩,
    ⟨some 49, none, .mov (.t 48)⟩,
    ⟨some 50, some (49, true), .mov (.t 0)⟩,
    ⟨some 51, some (49, true), .mov (.t 11)⟩,
    ⟨some 52, some (49, true), .idxS 1 (.t 50) (.t 51)⟩,
    ⟨some 53, some (49, true), .load false 1 (.t 52)⟩,
    ⟨some 54, some (49, true), .mov (.t 0)⟩,
    ⟨some 55, some (49, true), .mov (.t 1)⟩,
    ⟨some 56, some (49, true), .idxS 1 (.t 54) (.t 55)⟩,
    ⟨some 57, some (49, true), .load false 1 (.t 56)⟩,
    ⟨some 58, some (49, true), .call F.cmp_Less_int [.t 53, .t 57]⟩,
    ⟨some 59, some (49, true), .un .not (.t 58)⟩,
    ⟨some 60, none, .pick (.t 49) (.t 59) (.c (.bool false))⟩]
    [[], [], [0, 1], [2], [3], [3], [4, 5, 3], [6, 3], [3], [3], [8, 9, 3], [10, 3], [7, 11, 3, 3], [12, 3], [3, 13]]
    [(0, []), (1, []), (2, []), (3, []), (4, []), (5, []), (6, []), (8, []), (9, []), (10, []), (7, []), (11, []), (12, []), (13, []), (14, [])]
    [[], [], [0, 1], [0, 1, 2], [0, 1, 2, 3], [0, 1, 2, 3], [0, 1, 2, 3, 4, 5], [0, 1, 2, 3, 4, 5, 6], [0, 1, 2, 3], [0, 1, 2, 3], [0, 1, 2, 3, 8, 9], [0, 1, 2, 3, 8, 9, 10], [0, 1, 2, 3, 4, 5, 6, 7, 8, 9, 10, 11], [0, 1, 2, 3, 4, 5, 6, 7, 8, 9, 10, 11, 12], [0, 1, 2, 3, 4, 5, 6, 7, 8, 9, 10, 11, 12, 13]]
    [0, 1, 10, 11, 60])
  (.cond (.t 60)
    .skip
    (.exit 2)))
  (.block 3
    (.region [⟨some 61, none, .mov (.t 11)⟩,
      ⟨some 62, none, .bin .sub (.t 61) (.c (.int .i64 1))⟩,
      ⟨some 11, none, .mov (.t 62)⟩]
      [0, 1, 10, 11]) [0, 1, 10, 11]))
def RB.slices_partitionOrdered_int_5 : RCode :=
  (.seq (.seq (.drawn [⟨some 30, none, .mov (.t 10)⟩,
    ⟨some 31, none, .mov (.t 11)⟩,
    ⟨some 32, none, .bin .leq (.t 30) (.t 31)⟩,
    ⟨some 33, none, .mov (.t 32)⟩,
    ⟨some 34, some (33, true), .mov (.t 0)⟩,
    ⟨some 35, some (33, true), .mov (.t 10)⟩,
    ⟨some 36, some (33, true), .idxS 1 (.t 34) (.t 35)⟩,
    ⟨some 37, some (33, true), .load false 1 (.t 36)⟩,
    ⟨some 38, some (33, true), .mov (.t 0)⟩,
    ⟨some 39, some (33, true), .mov (.t 1)⟩,
    ⟨some 40, some (33, true), .idxS 1 (.t 38) (.t 39)⟩,
    ⟨some 41, some (33, true), .load false 1 (.t 40)⟩,
    ⟨some 42, some (33, true), .call F.cmp_Less_int [.t 37, .t 41]⟩,
    ⟨some 43, none, .pick (.t 33) (.t 42) (.c (.bool false))⟩]
    [[], [], [0, 1], [2], [3], [3], [4, 5, 3], [6, 3], [3], [3], [8, 9, 3], [10, 3], [7, 11, 3, 3], [3, 12]]
    [(0, []), (1, []), (2, []), (3, []), (4, []), (5, []), (6, []), (8, []), (9, []), (10, []), (7, []), (11, []), (12, []), (13, [])]
    [[], [], [0, 1], [0, 1, 2], [0, 1, 2, 3], [0, 1, 2, 3], [0, 1, 2, 3, 4, 5], [0, 1, 2, 3, 4, 5, 6], [0, 1, 2, 3], [0, 1, 2, 3], [0, 1, 2, 3, 8, 9], [0, 1, 2, 3, 8, 9, 10], [0, 1, 2, 3, 4, 5, 6, 7, 8, 9, 10, 11], [0, 1, 2, 3, 4, 5, 6, 7, 8, 9, 10, 11, 12]]
    [0, 1, 10, 11, 43])
  (.cond (.t 43)
    .skip
    (.exit 0)))
  (.block 1
    (.region [⟨some 44, none, .mov (.t 10)⟩,
      ⟨some 45, none, .bin .add (.t 44) (.c (.int .i64 1))⟩,
      ⟨some 10, none, .mov (.t 45)⟩]
      [0, 1, 10, 11]) [0, 1, 10, 11]))
def RC.slices_partitionOrdered_int : RFn := ⟨4, [.slot 8, .slot 9],
  (.seq (.region [⟨some 8, none, .mov (.c (.int .i64 0))⟩,
    ⟨some 9, none, .mov (.c (.bool false))⟩]
    [0, 1, 2, 3])
  (.seq (.drawn [⟨some 12, none, .mov (.t 0)⟩,
    ⟨some 13, none, .mov (.t 1)⟩,
    ⟨some 14, none, .mov (.t 0)⟩,
    ⟨some 15, none, .mov (.t 3)⟩,
    ⟨some 16, none, .mov (.t 0)⟩,
    ⟨some 17, none, .mov (.t 3)⟩,
    ⟨some 18, none, .idxS 1 (.t 16) (.t 17)⟩,
    ⟨some 19, none, .load false 1 (.t 18)⟩,
    ⟨some 20, none, .mov (.t 0)⟩,
    ⟨some 21, none, .mov (.t 1)⟩,
    ⟨some 22, none, .idxS 1 (.t 20) (.t 21)⟩,
    ⟨some 23, none, .load false 1 (.t 22)⟩,
    ⟨some 24, none, .idxS 1 (.t 12) (.t 13)⟩,
    ⟨none, none, .store 1 (.t 24) (.t 19)⟩,
    ⟨some 25, none, .idxS 1 (.t 14) (.t 15)⟩,
    ⟨none, none, .store 1 (.t 25) (.t 23)⟩]
    [[], [], [], [], [], [], [4, 5], [6], [], [], [8, 9], [10], [0, 1, 0, 1, 4, 5, 6, 7, 11], [12, 7, 0, 1, 4, 5, 6, 7, 11], [2, 3, 0, 1, 2, 3, 4, 5, 6, 7, 8, 9, 10, 11, 12, 13], [14, 11, 13, 0, 1, 2, 3, 4, 5, 6, 7, 8, 9, 10, 11, 12, 13]]
    [(0, []), (1, []), (2, []), (3, []), (4, []), (5, []), (6, []), (8, []), (9, []), (10, []), (7, []), (11, []), (12, []), (13, []), (14, []), (15, [])]
    [[], [], [], [], [], [], [4, 5], [4, 5, 6], [], [], [8, 9], [8, 9, 10], [0, 1, 4, 5, 6, 7, 8, 9, 10, 11], [0, 1, 4, 5, 6, 7, 8, 9, 10, 11, 12], [0, 1, 2, 3, 4, 5, 6, 7, 8, 9, 10, 11, 12, 13], [0, 1, 2, 3, 4, 5, 6, 7, 8, 9, 10, 11, 12, 13, 14]]
    [0, 1, 2])
  (.seq (.region [⟨some 26, none, .mov (.t 1)⟩,
    ⟨some 27, none, .bin .add (.t 26) (.c (.int .i64 1))⟩,
    ⟨some 28, none, .mov (.t 2)⟩,
    ⟨some 29, none, .bin .sub (.t 28) (.c (.int .i64 1))⟩,
    ⟨some 10, none, .mov (.t 27)⟩,
    ⟨some 11, none, .mov (.t 29)⟩]
    [0, 1, 10, 11])
  (.seq (.block 0
    (.loop [0, 1, 10, 11] RB.slices_partitionOrdered_int_5) [0, 1, 10, 11])
  (.seq (.block 2
    (.loop [0, 1, 10, 11] RB.slices_partitionOrdered_int_4) [0, 1, 10, 11])
  (.seq (.seq (.region [⟨some 63, none, .mov (.t 10)⟩,
    ⟨some 64, none, .mov (.t 11)⟩,
    ⟨some 65, none, .bin .gtr (.t 63) (.t 64)⟩]
    [0, 1, 10, 11, 65])
  (.cond (.t 65)
    (.seq (.drawn [⟨some 66, none, .mov (.t 0)⟩,
      ⟨some 67, none, .mov (.t 11)⟩,
      ⟨some 68, none, .mov (.t 0)⟩,
      ⟨some 69, none, .mov (.t 1)⟩,
      ⟨some 70, none, .mov (.t 0)⟩,
      ⟨some 71, none, .mov (.t 1)⟩,
      ⟨some 72, none, .idxS 1 (.t 70) (.t 71)⟩,
      ⟨some 73, none, .load false 1 (.t 72)⟩,
      ⟨some 74, none, .mov (.t 0)⟩,
      ⟨some 75, none, .mov (.t 11)⟩,
      ⟨some 76, none, .idxS 1 (.t 74) (.t 75)⟩,
      ⟨some 77, none, .load false 1 (.t 76)⟩,
      ⟨some 78, none, .idxS 1 (.t 66) (.t 67)⟩,
      ⟨none, none, .store 1 (.t 78) (.t 73)⟩,
      ⟨some 79, none, .idxS 1 (.t 68) (.t 69)⟩,
      ⟨none, none, .store 1 (.t 79) (.t 77)⟩]
      [[], [], [], [], [], [], [4, 5], [6], [], [], [8, 9], [10], [0, 1, 0, 1, 4, 5, 6, 7, 11], [12, 7, 0, 1, 4, 5, 6, 7, 11], [2, 3, 0, 1, 2, 3, 4, 5, 6, 7, 8, 9, 10, 11, 12, 13], [14, 11, 13, 0, 1, 2, 3, 4, 5, 6, 7, 8, 9, 10, 11, 12, 13]]
      [(0, []), (1, []), (2, []), (3, []), (4, []), (5, []), (6, []), (8, []), (9, []), (10, []), (7, []), (11, []), (12, []), (13, []), (14, []), (15, [])]
      [[], [], [], [], [], [], [4, 5], [4, 5, 6], [], [], [8, 9], [8, 9, 10], [0, 1, 4, 5, 6, 7, 8, 9, 10, 11], [0, 1, 4, 5, 6, 7, 8, 9, 10, 11, 12], [0, 1, 2, 3, 4, 5, 6, 7, 8, 9, 10, 11, 12, 13], [0, 1, 2, 3, 4, 5, 6, 7, 8, 9, 10, 11, 12, 13, 14]]
      [11])
    (.seq (.region [⟨some 80, none, .mov (.t 11)⟩,
      ⟨some 8, none, .mov (.t 80)⟩,
      ⟨some 9, none, .mov (.c (.bool true))⟩]
      [8, 9])
    .ret))
    .skip))
  (.seq (.drawn [⟨some 81, none, .mov (.t 0)⟩,
    ⟨some 82, none, .mov (.t 10)⟩,
    ⟨some 83, none, .mov (.t 0)⟩,
    ⟨some 84, none, .mov (.t 11)⟩,
    ⟨some 85, none, .mov (.t 0)⟩,
    ⟨some 86, none, .mov (.t 11)⟩,
    ⟨some 87, none, .idxS 1 (.t 85) (.t 86)⟩,
    ⟨some 88, none, .load false 1 (.t 87)⟩,
    ⟨some 89, none, .mov (.t 0)⟩,
    ⟨some 90, none, .mov (.t 10)⟩,
    ⟨some 91, none, .idxS 1 (.t 89) (.t 90)⟩,
    ⟨some 92, none, .load false 1 (.t 91)⟩,
    ⟨some 93, none, .idxS 1 (.t 81) (.t 82)⟩,
    ⟨none, none, .store 1 (.t 93) (.t 88)⟩,
    ⟨some 94, none, .idxS 1 (.t 83) (.t 84)⟩,
    ⟨none, none, .store 1 (.t 94) (.t 92)⟩]
    [[], [], [], [], [], [], [4, 5], [6], [], [], [8, 9], [10], [0, 1, 0, 1, 4, 5, 6, 7, 11], [12, 7, 0, 1, 4, 5, 6, 7, 11], [2, 3, 0, 1, 2, 3, 4, 5, 6, 7, 8, 9, 10, 11, 12, 13], [14, 11, 13, 0, 1, 2, 3, 4, 5, 6, 7, 8, 9, 10, 11, 12, 13]]
    [(0, []), (1, []), (2, []), (3, []), (4, []), (5, []), (6, []), (8, []), (9, []), (10, []), (7, []), (11, []), (12, []), (13, []), (14, []), (15, [])]
    [[], [], [], [], [], [], [4, 5], [4, 5, 6], [], [], [8, 9], [8, 9, 10], [0, 1, 4, 5, 6, 7, 8, 9, 10, 11], [0, 1, 4, 5, 6, 7, 8, 9, 10, 11, 12], [0, 1, 2, 3, 4, 5, 6, 7, 8, 9, 10, 11, 12, 13], [0, 1, 2, 3, 4, 5, 6, 7, 8, 9, 10, 11, 12, 13, 14]]
    [0, 1, 10, 11])
  (.seq (.region [⟨some 95, none, .mov (.t 10)⟩,
    ⟨some 96, none, .bin .add (.t 95) (.c (.int .i64 1))⟩,
    ⟨some 10, none, .mov (.t 96)⟩]
    [0, 1, 10, 11])
  (.seq (.region [⟨some 97, none, .mov (.t 11)⟩,
    ⟨some 98, none, .bin .sub (.t 97) (.c (.int .i64 1))⟩,
    ⟨some 11, none, .mov (.t 98)⟩]
    [0, 1, 10, 11])
  (.seq (.block 4
    (.loop [0, 1, 10, 11] RB.slices_partitionOrdered_int_3) [0, 1, 11])
  (.seq (.drawn [⟨some 153, none, .mov (.t 0)⟩,
    ⟨some 154, none, .mov (.t 11)⟩,
    ⟨some 155, none, .mov (.t 0)⟩,
    ⟨some 156, none, .mov (.t 1)⟩,
    ⟨some 157, none, .mov (.t 0)⟩,
    ⟨some 158, none, .mov (.t 1)⟩,
    ⟨some 159, none, .idxS 1 (.t 157) (.t 158)⟩,
    ⟨some 160, none, .load false 1 (.t 159)⟩,
    ⟨some 161, none, .mov (.t 0)⟩,
    ⟨some 162, none, .mov (.t 11)⟩,
    ⟨some 163, none, .idxS 1 (.t 161) (.t 162)⟩,
    ⟨some 164, none, .load false 1 (.t 163)⟩,
    ⟨some 165, none, .idxS 1 (.t 153) (.t 154)⟩,
    ⟨none, none, .store 1 (.t 165) (.t 160)⟩,
    ⟨some 166, none, .idxS 1 (.t 155) (.t 156)⟩,
    ⟨none, none, .store 1 (.t 166) (.t 164)⟩]
    [[], [], [], [], [], [], [4, 5], [6], [], [], [8, 9], [10], [0, 1, 0, 1, 4, 5, 6, 7, 11], [12, 7, 0, 1, 4, 5, 6, 7, 11], [2, 3, 0, 1, 2, 3, 4, 5, 6, 7, 8, 9, 10, 11, 12, 13], [14, 11, 13, 0, 1, 2, 3, 4, 5, 6, 7, 8, 9, 10, 11, 12, 13]]
    [(0, []), (1, []), (2, []), (3, []), (4, []), (5, []), (6, []), (8, []), (9, []), (10, []), (7, []), (11, []), (12, []), (13, []), (14, []), (15, [])]
    [[], [], [], [], [], [], [4, 5], [4, 5, 6], [], [], [8, 9], [8, 9, 10], [0, 1, 4, 5, 6, 7, 8, 9, 10, 11], [0, 1, 4, 5, 6, 7, 8, 9, 10, 11, 12], [0, 1, 2, 3, 4, 5, 6, 7, 8, 9, 10, 11, 12, 13], [0, 1, 2, 3, 4, 5, 6, 7, 8, 9, 10, 11, 12, 13, 14]]
    [11])
  (.seq (.region [⟨some 167, none, .mov (.t 11)⟩,
    ⟨some 8, none, .mov (.t 167)⟩,
    ⟨some 9, none, .mov (.c (.bool false))⟩]
    [8, 9])
  .ret))))))))))))⟩

def RC.math_bits_Len32 : RFn := ⟨1, [.slot 2],
  (.seq (.region [⟨some 2, none, .mov (.c (.int .i64 0))⟩]
    [0, 2])
  (.seq (.seq (.region [⟨some 3, none, .mov (.t 0)⟩,
    ⟨some 4, none, .bin .geq (.t 3) (.c (u32 65536#32))⟩]
    [0, 2, 4])
  (.cond (.t 4)
    (.seq (.region [⟨some 5, none, .mov (.t 0)⟩,
      ⟨some 6, none, .bin .shr (.t 5) (.c (u64 16#64))⟩,
      ⟨some 0, none, .mov (.t 6)⟩]
      [0])
    (.region [⟨some 2, none, .mov (.c (.int .i64 16))⟩]
      [0, 2]))
    .skip))
  (.seq (.seq (.region [⟨some 7, none, .mov (.t 0)⟩,
    ⟨some 8, none, .bin .geq (.t 7) (.c (u32 256#32))⟩]
    [0, 2, 8])
  (.cond (.t 8)
    (.seq (.region [⟨some 9, none, .mov (.t 0)⟩,
      ⟨some 10, none, .bin .shr (.t 9) (.c (u64 8#64))⟩,
      ⟨some 0, none, .mov (.t 10)⟩]
      [0, 2])
    (.region [⟨some 11, none, .mov (.t 2)⟩,
      ⟨some 12, none, .bin .add (.t 11) (.c (.int .i64 8))⟩,
      ⟨some 2, none, .mov (.t 12)⟩]
      [0, 2]))
    .skip))
  (.seq (.region [⟨some 13, none, .mov (.t 2)⟩,
    ⟨some 14, none, .mov (.t 0)⟩,
    ⟨some 15, none, .conv .u8 (.t 14)⟩,
    ⟨some 16, none, .idxStr (.c (.string lenTab)) (.t 15)⟩,
    ⟨some 17, none, .conv .i64 (.t 16)⟩,
    ⟨some 18, none, .bin .add (.t 13) (.t 17)⟩,
    ⟨some 2, none, .mov (.t 18)⟩]
    [2])
  .ret))))⟩

def RC.math_bits_Len64 : RFn := ⟨1, [.slot 2],
  (.seq (.region [⟨some 2, none, .mov (.c (.int .i64 0))⟩]
    [0, 2])
  (.seq (.seq (.region [⟨some 3, none, .mov (.t 0)⟩,
    ⟨some 4, none, .bin .geq (.t 3) (.c (u64 4294967296#64))⟩]
    [0, 2, 4])
  (.cond (.t 4)
    (.seq (.region [⟨some 5, none, .mov (.t 0)⟩,
      ⟨some 6, none, .bin .shr (.t 5) (.c (u64 32#64))⟩,
      ⟨some 0, none, .mov (.t 6)⟩]
      [0])
    (.region [⟨some 2, none, .mov (.c (.int .i64 32))⟩]
      [0, 2]))
    .skip))
  (.seq (.seq (.region [⟨some 7, none, .mov (.t 0)⟩,
    ⟨some 8, none, .bin .geq (.t 7) (.c (u64 65536#64))⟩]
    [0, 2, 8])
  (.cond (.t 8)
    (.seq (.region [⟨some 9, none, .mov (.t 0)⟩,
      ⟨some 10, none, .bin .shr (.t 9) (.c (u64 16#64))⟩,
      ⟨some 0, none, .mov (.t 10)⟩]
      [0, 2])
    (.region [⟨some 11, none, .mov (.t 2)⟩,
      ⟨some 12, none, .bin .add (.t 11) (.c (.int .i64 16))⟩,
      ⟨some 2, none, .mov (.t 12)⟩]
      [0, 2]))
    .skip))
  (.seq (.seq (.region [⟨some 13, none, .mov (.t 0)⟩,
    ⟨some 14, none, .bin .geq (.t 13) (.c (u64 256#64))⟩]
    [0, 2, 14])
  (.cond (.t 14)
    (.seq (.region [⟨some 15, none, .mov (.t 0)⟩,
      ⟨some 16, none, .bin .shr (.t 15) (.c (u64 8#64))⟩,
      ⟨some 0, none, .mov (.t 16)⟩]
      [0, 2])
    (.region [⟨some 17, none, .mov (.t 2)⟩,
      ⟨some 18, none, .bin .add (.t 17) (.c (.int .i64 8))⟩,
      ⟨some 2, none, .mov (.t 18)⟩]
      [0, 2]))
    .skip))
  (.seq (.region [⟨some 19, none, .mov (.t 2)⟩,
    ⟨some 20, none, .mov (.t 0)⟩,
    ⟨some 21, none, .conv .u8 (.t 20)⟩,
    ⟨some 22, none, .idxStr (.c (.string lenTab)) (.t 21)⟩,
    ⟨some 23, none, .conv .i64 (.t 22)⟩,
    ⟨some 24, none, .bin .add (.t 19) (.t 23)⟩,
    ⟨some 2, none, .mov (.t 24)⟩]
    [2])
  .ret)))))⟩

def RB.slices_siftDownOrdered_int_1 : RCode :=
  (.block 1
    (.seq (.region [⟨some 11, none, .mov (.t 8)⟩,
      ⟨some 12, none, .bin .mul (.c (.int .i64 2)) (.t 11)⟩,
      ⟨some 13, none, .bin .add (.t 12) (.c (.int .i64 1))⟩,
      ⟨some 9, none, .mov (.t 13)⟩]
      [0, 2, 3, 8, 9])
    (.seq (.seq (.region [⟨some 14, none, .mov (.t 9)⟩,
      ⟨some 15, none, .mov (.t 2)⟩,
      ⟨some 16, none, .bin .geq (.t 14) (.t 15)⟩]
      [0, 2, 3, 8, 9, 16])
    (.cond (.t 16)
      (.exit 0)
      .skip))
    (.seq (.seq (.drawn [⟨some 17, none, .mov (.t 9)⟩,
      ⟨some 18, none, .bin .add (.t 17) (.c (.int .i64 1))⟩,
      ⟨some 19, none, .mov (.t 2)⟩,
      ⟨some 20, none, .bin .lss (.t 18) (.t 19)⟩,
      ⟨some 21, none, .mov (.t 20)⟩,
      ⟨some 22, some (21, true), .mov (.t 0)⟩,
      ⟨some 23, some (21, true), .mov (.t 3)⟩,
      ⟨some 24, some (21, true), .mov (.t 9)⟩,
      ⟨some 25, some (21, true), .bin .add (.t 23) (.t 24)⟩,
      ⟨some 26, some (21, true), .idxS 1 (.t 22) (.t 25)⟩,
      ⟨some 27, some (21, true), .load false 1 (.t 26)⟩,
      ⟨some 28, some (21, true), .mov (.t 0)⟩,
      ⟨some 29, some (21, true), .mov (.t 3)⟩,
      ⟨some 30, some (21, true), .mov (.t 9)⟩,
      ⟨some 31, some (21, true), .bin .add (.t 29) (.t 30)⟩,
      ⟨some 32, some (21, true), .bin .add (.t 31) (.c (.int .i64 1))⟩,
      ⟨some 33, some (21, true), .idxS 1 (.t 28) (.t 32)⟩,
      ⟨some 34, some (21, true), .load false 1 (.t 33)⟩,
      ⟨some 35, some (21, true), .call F.cmp_Less_int [.t 27, .t 34]⟩,
      ⟨some 36, none, .pick (.t 21) (.t 35) (.c (.bool false))⟩]
      [[], [0], [], [1, 2], [3], [4], [4], [4], [6, 7, 4], [5, 8, 4], [9, 4], [4], [4], [4], [12, 13, 4], [14, 4], [11, 15, 4], [16, 4], [10, 17, 4, 4], [4, 18]]
      [(0, []), (1, []), (2, []), (3, []), (4, []), (5, []), (6, []), (7, []), (8, []), (9, []), (11, []), (12, []), (13, []), (14, []), (15, []), (16, []), (10, []), (17, []), (18, []), (19, [])]
      [[], [0], [], [0, 1, 2], [0, 1, 2, 3], [0, 1, 2, 3, 4], [0, 1, 2, 3, 4], [0, 1, 2, 3, 4], [0, 1, 2, 3, 4, 6, 7], [0, 1, 2, 3, 4, 5, 6, 7, 8], [0, 1, 2, 3, 4, 5, 6, 7, 8, 9], [0, 1, 2, 3, 4], [0, 1, 2, 3, 4], [0, 1, 2, 3, 4], [0, 1, 2, 3, 4, 12, 13], [0, 1, 2, 3, 4, 12, 13, 14], [0, 1, 2, 3, 4, 11, 12, 13, 14, 15], [0, 1, 2, 3, 4, 11, 12, 13, 14, 15, 16], [0, 1, 2, 3, 4, 5, 6, 7, 8, 9, 10, 11, 12, 13, 14, 15, 16, 17], [0, 1, 2, 3, 4, 5, 6, 7, 8, 9, 10, 11, 12, 13, 14, 15, 16, 17, 18]]
      [0, 2, 3, 8, 9, 36])
    (.cond (.t 36)
      (.region [⟨some 37, none, .mov (.t 9)⟩,
        ⟨some 38, none, .bin .add (.t 37) (.c (.int .i64 1))⟩,
        ⟨some 9, none, .mov (.t 38)⟩]
        [0, 2, 3, 8, 9])
      .skip))
    (.seq (.seq (.drawn [⟨some 39, none, .mov (.t 0)⟩,
      ⟨some 40, none, .mov (.t 3)⟩,
      ⟨some 41, none, .mov (.t 8)⟩,
      ⟨some 42, none, .bin .add (.t 40) (.t 41)⟩,
      ⟨some 43, none, .idxS 1 (.t 39) (.t 42)⟩,
      ⟨some 44, none, .load false 1 (.t 43)⟩,
      ⟨some 45, none, .mov (.t 0)⟩,
      ⟨some 46, none, .mov (.t 3)⟩,
      ⟨some 47, none, .mov (.t 9)⟩,
      ⟨some 48, none, .bin .add (.t 46) (.t 47)⟩,
      ⟨some 49, none, .idxS 1 (.t 45) (.t 48)⟩,
      ⟨some 50, none, .load false 1 (.t 49)⟩,
      ⟨some 51, none, .call F.cmp_Less_int [.t 44, .t 50]⟩,
      ⟨some 52, none, .un .not (.t 51)⟩]
      [[], [], [], [1, 2], [0, 3], [4], [], [], [], [7, 8], [6, 9], [10], [5, 11], [12]]
      [(0, []), (1, []), (2, []), (3, []), (4, []), (6, []), (7, []), (8, []), (9, []), (10, []), (5, []), (11, []), (12, []), (13, [])]
      [[], [], [], [1, 2], [0, 1, 2, 3], [0, 1, 2, 3, 4], [], [], [], [7, 8], [6, 7, 8, 9], [6, 7, 8, 9, 10], [0, 1, 2, 3, 4, 5, 6, 7, 8, 9, 10, 11], [0, 1, 2, 3, 4, 5, 6, 7, 8, 9, 10, 11, 12]]
      [0, 2, 3, 8, 9, 52])
    (.cond (.t 52)
      .ret
      .skip))
    (.seq (.drawn [⟨some 53, none, .mov (.t 0)⟩,
      ⟨some 54, none, .mov (.t 3)⟩,
      ⟨some 55, none, .mov (.t 8)⟩,
      ⟨some 56, none, .bin .add (.t 54) (.t 55)⟩,
      ⟨some 57, none, .mov (.t 0)⟩,
      ⟨some 58, none, .mov (.t 3)⟩,
      ⟨some 59, none, .mov (.t 9)⟩,
      ⟨some 60, none, .bin .add (.t 58) (.t 59)⟩,
      ⟨some 61, none, .mov (.t 0)⟩,
      ⟨some 62, none, .mov (.t 3)⟩,
      ⟨some 63, none, .mov (.t 9)⟩,
      ⟨some 64, none, .bin .add (.t 62) (.t 63)⟩,
      ⟨some 65, none, .idxS 1 (.t 61) (.t 64)⟩,
      ⟨some 66, none, .load false 1 (.t 65)⟩,
      ⟨some 67, none, .mov (.t 0)⟩,
      ⟨some 68, none, .mov (.t 3)⟩,
      ⟨some 69, none, .mov (.t 8)⟩,
      ⟨some 70, none, .bin .add (.t 68) (.t 69)⟩,
      ⟨some 71, none, .idxS 1 (.t 67) (.t 70)⟩,
      ⟨some 72, none, .load false 1 (.t 71)⟩,
      ⟨some 73, none, .idxS 1 (.t 53) (.t 56)⟩,
      ⟨none, none, .store 1 (.t 73) (.t 66)⟩,
      ⟨some 74, none, .idxS 1 (.t 57) (.t 60)⟩,
      ⟨none, none, .store 1 (.t 74) (.t 72)⟩]
      [[], [], [], [1, 2], [], [], [], [5, 6], [], [], [], [9, 10], [8, 11], [12], [], [], [], [15, 16], [14, 17], [18], [0, 3, 0, 1, 2, 3, 8, 9, 10, 11, 12, 13, 19], [20, 13, 0, 1, 2, 3, 8, 9, 10, 11, 12, 13, 19], [4, 7, 0, 1, 2, 3, 4, 5, 6, 7, 8, 9, 10, 11, 12, 13, 14, 15, 16, 17, 18, 19, 20, 21], [22, 19, 21, 0, 1, 2, 3, 4, 5, 6, 7, 8, 9, 10, 11, 12, 13, 14, 15, 16, 17, 18, 19, 20, 21]]
      [(0, []), (1, []), (2, []), (3, []), (4, []), (5, []), (6, []), (7, []), (8, []), (9, []), (10, []), (11, []), (12, []), (14, []), (15, []), (16, []), (17, []), (18, []), (13, []), (19, []), (20, []), (21, []), (22, []), (23, [])]
      [[], [], [], [1, 2], [], [], [], [5, 6], [], [], [], [9, 10], [8, 9, 10, 11], [8, 9, 10, 11, 12], [], [], [], [15, 16], [14, 15, 16, 17], [14, 15, 16, 17, 18], [0, 1, 2, 3, 8, 9, 10, 11, 12, 13, 14, 15, 16, 17, 18, 19], [0, 1, 2, 3, 8, 9, 10, 11, 12, 13, 14, 15, 16, 17, 18, 19, 20], [0, 1, 2, 3, 4, 5, 6, 7, 8, 9, 10, 11, 12, 13, 14, 15, 16, 17, 18, 19, 20, 21], [0, 1, 2, 3, 4, 5, 6, 7, 8, 9, 10, 11, 12, 13, 14, 15, 16, 17, 18, 19, 20, 21, 22]]
      [0, 2, 3, 9])
    (.region [⟨some 75, none, .mov (.t 9)⟩,
      ⟨some 8, none, .mov (.t 75)⟩]
      [0, 2, 3, 8])))))) [0, 2, 3, 8])
def RC.slices_siftDownOrdered_int : RFn := ⟨4, [],
  (.seq (.region [⟨some 10, none, .mov (.t 1)⟩,
    ⟨some 8, none, .mov (.t 10)⟩]
    [0, 2, 3, 8])
  (.block 0
    (.loop [0, 2, 3, 8] RB.slices_siftDownOrdered_int_1) []))⟩

def RC.slices_nextPowerOfTwo : RFn := ⟨1, [.slot 2],
  (.seq (.region [⟨some 2, none, .mov (.c (u64 0#64))⟩]
    [0])
  (.seq (.region [⟨some 3, none, .mov (.t 0)⟩,
    ⟨some 4, none, .conv .u64 (.t 3)⟩,
    ⟨some 5, none, .call F.math_bits_Len [.t 4]⟩,
    ⟨some 6, none, .bin .shl (.c (u64 1#64)) (.t 5)⟩,
    ⟨some 2, none, .mov (.t 6)⟩]
    [2])
  .ret))⟩

def RC.slices_xorshift_Next : RFn := ⟨1, [.slot 2],
  (.seq (.region [⟨some 2, none, .mov (.c (u64 0#64))⟩]
    [0])
  (.seq (.drawn [⟨some 3, none, .mov (.t 0)⟩,
    ⟨some 4, none, .nilchk (.t 3)⟩,
    ⟨some 5, none, .load false 1 (.t 4)⟩,
    ⟨some 6, none, .mov (.t 0)⟩,
    ⟨some 7, none, .nilchk (.t 6)⟩,
    ⟨some 8, none, .load false 1 (.t 7)⟩,
    ⟨some 9, none, .bin .shl (.t 8) (.c (u64 13#64))⟩,
    ⟨some 10, none, .bin .xor (.t 5) (.t 9)⟩,
    ⟨some 11, none, .nilchk (.t 3)⟩,
    ⟨none, none, .store 1 (.t 11) (.t 10)⟩]
    [[], [0], [1], [], [3], [4], [5], [2, 6], [0, 0, 1, 2, 3, 4, 5, 6, 7], [8, 7, 0, 1, 2, 3, 4, 5, 6, 7]]
    [(0, []), (1, []), (3, []), (4, []), (2, []), (5, []), (6, []), (7, []), (8, []), (9, [])]
    [[], [0], [0, 1], [], [3], [3, 4], [3, 4, 5], [0, 1, 2, 3, 4, 5, 6], [0, 1, 2, 3, 4, 5, 6, 7], [0, 1, 2, 3, 4, 5, 6, 7, 8]]
    [0])
  (.seq (.drawn [⟨some 12, none, .mov (.t 0)⟩,
    ⟨some 13, none, .nilchk (.t 12)⟩,
    ⟨some 14, none, .load false 1 (.t 13)⟩,
    ⟨some 15, none, .mov (.t 0)⟩,
    ⟨some 16, none, .nilchk (.t 15)⟩,
    ⟨some 17, none, .load false 1 (.t 16)⟩,
    ⟨some 18, none, .bin .shr (.t 17) (.c (u64 7#64))⟩,
    ⟨some 19, none, .bin .xor (.t 14) (.t 18)⟩,
    ⟨some 20, none, .nilchk (.t 12)⟩,
    ⟨none, none, .store 1 (.t 20) (.t 19)⟩]
    [[], [0], [1], [], [3], [4], [5], [2, 6], [0, 0, 1, 2, 3, 4, 5, 6, 7], [8, 7, 0, 1, 2, 3, 4, 5, 6, 7]]
    [(0, []), (1, []), (3, []), (4, []), (2, []), (5, []), (6, []), (7, []), (8, []), (9, [])]
    [[], [0], [0, 1], [], [3], [3, 4], [3, 4, 5], [0, 1, 2, 3, 4, 5, 6], [0, 1, 2, 3, 4, 5, 6, 7], [0, 1, 2, 3, 4, 5, 6, 7, 8]]
    [0])
  (.seq (.drawn [⟨some 21, none, .mov (.t 0)⟩,
    ⟨some 22, none, .nilchk (.t 21)⟩,
    ⟨some 23, none, .load false 1 (.t 22)⟩,
    ⟨some 24, none, .mov (.t 0)⟩,
    ⟨some 25, none, .nilchk (.t 24)⟩,
    ⟨some 26, none, .load false 1 (.t 25)⟩,
    ⟨some 27, none, .bin .shl (.t 26) (.c (u64 17#64))⟩,
    ⟨some 28, none, .bin .xor (.t 23) (.t 27)⟩,
    ⟨some 29, none, .nilchk (.t 21)⟩,
    ⟨none, none, .store 1 (.t 29) (.t 28)⟩]
    [[], [0], [1], [], [3], [4], [5], [2, 6], [0, 0, 1, 2, 3, 4, 5, 6, 7], [8, 7, 0, 1, 2, 3, 4, 5, 6, 7]]
    [(0, []), (1, []), (3, []), (4, []), (2, []), (5, []), (6, []), (7, []), (8, []), (9, [])]
    [[], [0], [0, 1], [], [3], [3, 4], [3, 4, 5], [0, 1, 2, 3, 4, 5, 6], [0, 1, 2, 3, 4, 5, 6, 7], [0, 1, 2, 3, 4, 5, 6, 7, 8]]
    [0])
  (.seq (.region [⟨some 30, none, .mov (.t 0)⟩,
    ⟨some 31, none, .nilchk (.t 30)⟩,
    ⟨some 32, none, .load false 1 (.t 31)⟩,
    ⟨some 2, none, .mov (.t 32)⟩]
    [2])
  .ret)))))⟩

def RC.slices_medianAdjacentOrdered_int : RFn := ⟨3, [.slot 6],
  (.seq (.region [⟨some 6, none, .mov (.c (.int .i64 0))⟩]
    [0, 1, 2])
  (.seq (.region [⟨some 7, none, .mov (.t 0)⟩,
    ⟨some 8, none, .mov (.t 1)⟩,
    ⟨some 9, none, .bin .sub (.t 8) (.c (.int .i64 1))⟩,
    ⟨some 10, none, .mov (.t 1)⟩,
    ⟨some 11, none, .mov (.t 1)⟩,
    ⟨some 12, none, .bin .add (.t 11) (.c (.int .i64 1))⟩,
    ⟨some 13, none, .mov (.t 2)⟩,
    ⟨some 14, none, .call F.slices_medianOrdered_int [.t 7, .t 9, .t 10, .t 12, .t 13]⟩,
    ⟨some 6, none, .mov (.t 14)⟩]
    [6])
  .ret))⟩

def RC.slices_medianOrdered_int : RFn := ⟨5, [.slot 10],
  (.seq (.region [⟨some 10, none, .mov (.c (.int .i64 0))⟩]
    [0, 1, 2, 3, 4])
  (.seq (.region [⟨some 12, none, .mov (.t 0)⟩,
    ⟨some 13, none, .mov (.t 1)⟩,
    ⟨some 14, none, .mov (.t 2)⟩,
    ⟨some 15, none, .mov (.t 4)⟩,
    ⟨some 16, none, .call F.slices_order2Ordered_int [.t 12, .t 13, .t 14, .t 15]⟩,
    ⟨some 11, none, .mov (.t 16)⟩,
    ⟨some 17, none, .ext 0 (.t 11)⟩,
    ⟨some 18, none, .ext 1 (.t 11)⟩,
    ⟨some 1, none, .mov (.t 17)⟩,
    ⟨some 2, none, .mov (.t 18)⟩]
    [0, 1, 2, 3, 4])
  (.seq (.region [⟨some 20, none, .mov (.t 0)⟩,
    ⟨some 21, none, .mov (.t 2)⟩,
    ⟨some 22, none, .mov (.t 3)⟩,
    ⟨some 23, none, .mov (.t 4)⟩,
    ⟨some 24, none, .call F.slices_order2Ordered_int [.t 20, .t 21, .t 22, .t 23]⟩,
    ⟨some 19, none, .mov (.t 24)⟩,
    ⟨some 25, none, .ext 0 (.t 19)⟩,
    ⟨some 26, none, .ext 1 (.t 19)⟩,
    ⟨some 2, none, .mov (.t 25)⟩,
    ⟨some 3, none, .mov (.t 26)⟩]
    [0, 1, 2, 4])
  (.seq (.region [⟨some 28, none, .mov (.t 0)⟩,
    ⟨some 29, none, .mov (.t 1)⟩,
    ⟨some 30, none, .mov (.t 2)⟩,
    ⟨some 31, none, .mov (.t 4)⟩,
    ⟨some 32, none, .call F.slices_order2Ordered_int [.t 28, .t 29, .t 30, .t 31]⟩,
    ⟨some 27, none, .mov (.t 32)⟩,
    ⟨some 33, none, .ext 0 (.t 27)⟩,
    ⟨some 34, none, .ext 1 (.t 27)⟩,
    ⟨some 1, none, .mov (.t 33)⟩,
    ⟨some 2, none, .mov (.t 34)⟩]
    [2])
  (.seq (.region [⟨some 35, none, .mov (.t 2)⟩,
    ⟨some 10, none, .mov (.t 35)⟩]
    [10])
  .ret)))))⟩

def RC.slices_order2Ordered_int : RFn := ⟨4, [.slot 8, .slot 9],
  (.seq (.region [⟨some 8, none, .mov (.c (.int .i64 0))⟩,
    ⟨some 9, none, .mov (.c (.int .i64 0))⟩]
    [0, 1, 2, 3])
  (.seq (.seq (.drawn [⟨some 10, none, .mov (.t 0)⟩,
    ⟨some 11, none, .mov (.t 2)⟩,
    ⟨some 12, none, .idxS 1 (.t 10) (.t 11)⟩,
    ⟨some 13, none, .load false 1 (.t 12)⟩,
    ⟨some 14, none, .mov (.t 0)⟩,
    ⟨some 15, none, .mov (.t 1)⟩,
    ⟨some 16, none, .idxS 1 (.t 14) (.t 15)⟩,
    ⟨some 17, none, .load false 1 (.t 16)⟩,
    ⟨some 18, none, .call F.cmp_Less_int [.t 13, .t 17]⟩]
    [[], [], [0, 1], [2], [], [], [4, 5], [6], [3, 7]]
    [(0, []), (1, []), (2, []), (4, []), (5, []), (6, []), (3, []), (7, []), (8, [])]
    [[], [], [0, 1], [0, 1, 2], [], [], [4, 5], [4, 5, 6], [0, 1, 2, 3, 4, 5, 6, 7]]
    [1, 2, 3, 18])
  (.cond (.t 18)
    (.seq (.region [⟨some 19, none, .mov (.t 3)⟩,
      ⟨some 20, none, .nilchk (.t 19)⟩,
      ⟨some 21, none, .load false 1 (.t 20)⟩,
      ⟨some 22, none, .bin .add (.t 21) (.c (.int .i64 1))⟩,
      ⟨some 23, none, .nilchk (.t 19)⟩,
      ⟨none, none, .store 1 (.t 23) (.t 22)⟩]
      [1, 2])
    (.seq (.region [⟨some 24, none, .mov (.t 2)⟩,
      ⟨some 25, none, .mov (.t 1)⟩,
      ⟨some 8, none, .mov (.t 24)⟩,
      ⟨some 9, none, .mov (.t 25)⟩]
      [8, 9])
    .ret))
    .skip))
  (.seq (.region [⟨some 26, none, .mov (.t 1)⟩,
    ⟨some 27, none, .mov (.t 2)⟩,
    ⟨some 8, none, .mov (.t 26)⟩,
    ⟨some 9, none, .mov (.t 27)⟩]
    [8, 9])
  .ret)))⟩

def tab0 : List (Nat × FEnt) := [(F.law26_StageNobody, .rc RC.law26_StageNobody),
  (F.stage_New, .rc RC.stage_New),
  (F.stage_Stage_Staged, .rc RC.stage_Stage_Staged),
  (F.stage_Stage_Active, .rc RC.stage_Stage_Active),
  (F.stage_Stage_Set, .rc RC.stage_Stage_Set),
  (F.ref16_Same, .rc RC.ref16_Same),
  (F.stage_Stage_Turn, .rc RC.stage_Stage_Turn),
  (F.law26_awake, .rc RC.law26_awake),
  (F.law26_one, .rc RC.law26_one),
  (F.stage_Stage_Cut, .rc RC.stage_Stage_Cut),
  (F.stage_Stage_Fresh, .rc RC.stage_Stage_Fresh),
  (F.stage_Stage_Turns, .rc RC.stage_Stage_Turns),
  (F.plan_Check, .rc RC.plan_Check),
  (F.stage_Stage_none, .rc RC.stage_Stage_none),
  (F.stage_own, .rc RC.stage_own),
  (F.ref16_SamePlace, .rc RC.ref16_SamePlace),
  (F.diff_Moved, .rc RC.diff_Moved),
  (F.plan_Find, .rc RC.plan_Find),
  (F.plan_Drop, .rc RC.plan_Drop),
  (F.plan_Same, .rc RC.plan_Same),
  (F.plan_place, .rc RC.plan_place),
  (F.plan_apart, .rc RC.plan_apart),
  (F.plan_Splits, .rc RC.plan_Splits),
  (F.plan_Cores, .rc RC.plan_Cores),
  (F.plan_left, .rc RC.plan_left),
  (F.diff_some, .rc RC.diff_some),
  (F.diff_Moved_1, .rc RC.diff_Moved_1),
  (F.diff_moved, .rc RC.diff_moved),
  (F.plan_find, .rc RC.plan_find),
  (F.slices_Clone_api_Piece_api_Piece, .rc RC.slices_Clone_api_Piece_api_Piece),
  (F.plan_clone, .rc RC.plan_clone),
  (F.slices_Delete_api_Place_api_Place, .rc RC.slices_Delete_api_Place_api_Place),
  (F.slices_EqualFunc_api_Place_api_Place_api_Place_api_Place, .rc RC.slices_EqualFunc_api_Place_api_Place_api_Place_api_Place),
  (F.plan_SamePlace, .rc RC.plan_SamePlace),
  (F.order_Kind, .rc RC.order_Kind),
  (F.plan_split, .rc RC.plan_split),
  (F.plan_pieces, .rc RC.plan_pieces),
  (F.plan_has, .rc RC.plan_has),
  (F.mask_Count, .rc RC.mask_Count),
  (F.plan_Windows, .rc RC.plan_Windows),
  (F.plan_Wholes, .rc RC.plan_Wholes),
  (F.diff_places, .rc RC.diff_places),
  (F.maps_Keys_map_int_api_Place_int_api_Place, .rc RC.maps_Keys_map_int_api_Place_int_api_Place),
  (F.slices_Sort_int_int, .rc RC.slices_Sort_int_int),
  (F.slices_DeleteFunc_int_int, .rc RC.slices_DeleteFunc_int_int),
  (F.slices_Compact_int_int, .rc RC.slices_Compact_int_int),
  (F.diff_some_1, .rc RC.diff_some_1),
  (F.slices_Equal_api_Piece_api_Piece, .rc RC.slices_Equal_api_Piece_api_Piece),
  (F.slices_BinarySearchFunc_api_Place_api_Place_int, .rc RC.slices_BinarySearchFunc_api_Place_api_Place_int),
  (F.plan_find_1, .rc RC.plan_find_1),
  (F.cmp_Compare_int, .rc RC.cmp_Compare_int),
  (F.mask_All, .rc RC.mask_All),
  (F.math_bits_OnesCount64, .rc RC.math_bits_OnesCount64),
  (F.maps_Keys_map_int_api_Place_int_api_Place_1, .rc RC.maps_Keys_map_int_api_Place_int_api_Place_1),
  (F.slices_pdqsortOrdered_int, .rc RC.slices_pdqsortOrdered_int),
  (F.math_bits_Len, .rc RC.math_bits_Len),
  (F.slices_IndexFunc_int_int, .rc RC.slices_IndexFunc_int_int),
  (F.cmp_isNaN_int, .rc RC.cmp_isNaN_int),
  (F.mask_frame, .rc RC.mask_frame),
  (F.slices_insertionSortOrdered_int, .rc RC.slices_insertionSortOrdered_int),
  (F.slices_heapSortOrdered_int, .rc RC.slices_heapSortOrdered_int),
  (F.slices_breakPatternsOrdered_int, .rc RC.slices_breakPatternsOrdered_int),
  (F.slices_choosePivotOrdered_int, .rc RC.slices_choosePivotOrdered_int),
  (F.slices_reverseRangeOrdered_int, .rc RC.slices_reverseRangeOrdered_int),
  (F.slices_partialInsertionSortOrdered_int, .rc RC.slices_partialInsertionSortOrdered_int),
  (F.cmp_Less_int, .rc RC.cmp_Less_int),
  (F.slices_partitionEqualOrdered_int, .rc RC.slices_partitionEqualOrdered_int),
  (F.slices_partitionOrdered_int, .rc RC.slices_partitionOrdered_int),
  (F.math_bits_Len32, .rc RC.math_bits_Len32),
  (F.math_bits_Len64, .rc RC.math_bits_Len64),
  (F.slices_siftDownOrdered_int, .rc RC.slices_siftDownOrdered_int),
  (F.slices_nextPowerOfTwo, .rc RC.slices_nextPowerOfTwo),
  (F.slices_xorshift_Next, .rc RC.slices_xorshift_Next),
  (F.slices_medianAdjacentOrdered_int, .rc RC.slices_medianAdjacentOrdered_int),
  (F.slices_medianOrdered_int, .rc RC.slices_medianOrdered_int),
  (F.slices_order2Ordered_int, .rc RC.slices_order2Ordered_int),
  (F.slices_Sorted_int, .ext X.sk)]
/-- What each number stands for. -/
def R0 : Nat → Option FEnt := lookF tab0
/-- The same, with the examples as known. -/
def tab : List (Nat × FEnt) := (F.law26_awake, .ext X.ok) :: tab0
def R : Nat → Option FEnt := lookF tab
theorem R.law26_awake : R F.law26_awake = some (.ext X.ok) := by with_unfolding_all rfl
theorem R.law26_StageNobody : R F.law26_StageNobody = some (.rc RC.law26_StageNobody) := by with_unfolding_all rfl
theorem R.stage_New : R F.stage_New = some (.rc RC.stage_New) := by with_unfolding_all rfl
theorem R.stage_Stage_Staged : R F.stage_Stage_Staged = some (.rc RC.stage_Stage_Staged) := by with_unfolding_all rfl
theorem R.stage_Stage_Active : R F.stage_Stage_Active = some (.rc RC.stage_Stage_Active) := by with_unfolding_all rfl
theorem R.stage_Stage_Set : R F.stage_Stage_Set = some (.rc RC.stage_Stage_Set) := by with_unfolding_all rfl
theorem R.ref16_Same : R F.ref16_Same = some (.rc RC.ref16_Same) := by with_unfolding_all rfl
theorem R.stage_Stage_Turn : R F.stage_Stage_Turn = some (.rc RC.stage_Stage_Turn) := by with_unfolding_all rfl
theorem R.law26_one : R F.law26_one = some (.rc RC.law26_one) := by with_unfolding_all rfl
theorem R.stage_Stage_Cut : R F.stage_Stage_Cut = some (.rc RC.stage_Stage_Cut) := by with_unfolding_all rfl
theorem R.stage_Stage_Fresh : R F.stage_Stage_Fresh = some (.rc RC.stage_Stage_Fresh) := by with_unfolding_all rfl
theorem R.stage_Stage_Turns : R F.stage_Stage_Turns = some (.rc RC.stage_Stage_Turns) := by with_unfolding_all rfl
theorem R.plan_Check : R F.plan_Check = some (.rc RC.plan_Check) := by with_unfolding_all rfl
theorem R.stage_Stage_none : R F.stage_Stage_none = some (.rc RC.stage_Stage_none) := by with_unfolding_all rfl
theorem R.stage_own : R F.stage_own = some (.rc RC.stage_own) := by with_unfolding_all rfl
theorem R.ref16_SamePlace : R F.ref16_SamePlace = some (.rc RC.ref16_SamePlace) := by with_unfolding_all rfl
theorem R.diff_Moved : R F.diff_Moved = some (.rc RC.diff_Moved) := by with_unfolding_all rfl
theorem R.plan_Find : R F.plan_Find = some (.rc RC.plan_Find) := by with_unfolding_all rfl
theorem R.plan_Drop : R F.plan_Drop = some (.rc RC.plan_Drop) := by with_unfolding_all rfl
theorem R.plan_Same : R F.plan_Same = some (.rc RC.plan_Same) := by with_unfolding_all rfl
theorem R.plan_place : R F.plan_place = some (.rc RC.plan_place) := by with_unfolding_all rfl
theorem R.plan_apart : R F.plan_apart = some (.rc RC.plan_apart) := by with_unfolding_all rfl
theorem R.plan_Splits : R F.plan_Splits = some (.rc RC.plan_Splits) := by with_unfolding_all rfl
theorem R.plan_Cores : R F.plan_Cores = some (.rc RC.plan_Cores) := by with_unfolding_all rfl
theorem R.plan_left : R F.plan_left = some (.rc RC.plan_left) := by with_unfolding_all rfl
theorem R.diff_some : R F.diff_some = some (.rc RC.diff_some) := by with_unfolding_all rfl
theorem R.diff_Moved_1 : R F.diff_Moved_1 = some (.rc RC.diff_Moved_1) := by with_unfolding_all rfl
theorem R.diff_moved : R F.diff_moved = some (.rc RC.diff_moved) := by with_unfolding_all rfl
theorem R.plan_find : R F.plan_find = some (.rc RC.plan_find) := by with_unfolding_all rfl
theorem R.slices_Clone_api_Piece_api_Piece : R F.slices_Clone_api_Piece_api_Piece = some (.rc RC.slices_Clone_api_Piece_api_Piece) := by with_unfolding_all rfl
theorem R.plan_clone : R F.plan_clone = some (.rc RC.plan_clone) := by with_unfolding_all rfl
theorem R.slices_Delete_api_Place_api_Place : R F.slices_Delete_api_Place_api_Place = some (.rc RC.slices_Delete_api_Place_api_Place) := by with_unfolding_all rfl
theorem R.slices_EqualFunc_api_Place_api_Place_api_Place_api_Place : R F.slices_EqualFunc_api_Place_api_Place_api_Place_api_Place = some (.rc RC.slices_EqualFunc_api_Place_api_Place_api_Place_api_Place) := by with_unfolding_all rfl
theorem R.plan_SamePlace : R F.plan_SamePlace = some (.rc RC.plan_SamePlace) := by with_unfolding_all rfl
theorem R.order_Kind : R F.order_Kind = some (.rc RC.order_Kind) := by with_unfolding_all rfl
theorem R.plan_split : R F.plan_split = some (.rc RC.plan_split) := by with_unfolding_all rfl
theorem R.plan_pieces : R F.plan_pieces = some (.rc RC.plan_pieces) := by with_unfolding_all rfl
theorem R.plan_has : R F.plan_has = some (.rc RC.plan_has) := by with_unfolding_all rfl
theorem R.mask_Count : R F.mask_Count = some (.rc RC.mask_Count) := by with_unfolding_all rfl
theorem R.plan_Windows : R F.plan_Windows = some (.rc RC.plan_Windows) := by with_unfolding_all rfl
theorem R.plan_Wholes : R F.plan_Wholes = some (.rc RC.plan_Wholes) := by with_unfolding_all rfl
theorem R.diff_places : R F.diff_places = some (.rc RC.diff_places) := by with_unfolding_all rfl
theorem R.maps_Keys_map_int_api_Place_int_api_Place : R F.maps_Keys_map_int_api_Place_int_api_Place = some (.rc RC.maps_Keys_map_int_api_Place_int_api_Place) := by with_unfolding_all rfl
theorem R.slices_Sort_int_int : R F.slices_Sort_int_int = some (.rc RC.slices_Sort_int_int) := by with_unfolding_all rfl
theorem R.slices_DeleteFunc_int_int : R F.slices_DeleteFunc_int_int = some (.rc RC.slices_DeleteFunc_int_int) := by with_unfolding_all rfl
theorem R.slices_Compact_int_int : R F.slices_Compact_int_int = some (.rc RC.slices_Compact_int_int) := by with_unfolding_all rfl
theorem R.diff_some_1 : R F.diff_some_1 = some (.rc RC.diff_some_1) := by with_unfolding_all rfl
theorem R.slices_Equal_api_Piece_api_Piece : R F.slices_Equal_api_Piece_api_Piece = some (.rc RC.slices_Equal_api_Piece_api_Piece) := by with_unfolding_all rfl
theorem R.slices_BinarySearchFunc_api_Place_api_Place_int : R F.slices_BinarySearchFunc_api_Place_api_Place_int = some (.rc RC.slices_BinarySearchFunc_api_Place_api_Place_int) := by with_unfolding_all rfl
theorem R.plan_find_1 : R F.plan_find_1 = some (.rc RC.plan_find_1) := by with_unfolding_all rfl
theorem R.cmp_Compare_int : R F.cmp_Compare_int = some (.rc RC.cmp_Compare_int) := by with_unfolding_all rfl
theorem R.mask_All : R F.mask_All = some (.rc RC.mask_All) := by with_unfolding_all rfl
theorem R.math_bits_OnesCount64 : R F.math_bits_OnesCount64 = some (.rc RC.math_bits_OnesCount64) := by with_unfolding_all rfl
theorem R.maps_Keys_map_int_api_Place_int_api_Place_1 : R F.maps_Keys_map_int_api_Place_int_api_Place_1 = some (.rc RC.maps_Keys_map_int_api_Place_int_api_Place_1) := by with_unfolding_all rfl
theorem R.slices_pdqsortOrdered_int : R F.slices_pdqsortOrdered_int = some (.rc RC.slices_pdqsortOrdered_int) := by with_unfolding_all rfl
theorem R.math_bits_Len : R F.math_bits_Len = some (.rc RC.math_bits_Len) := by with_unfolding_all rfl
theorem R.slices_IndexFunc_int_int : R F.slices_IndexFunc_int_int = some (.rc RC.slices_IndexFunc_int_int) := by with_unfolding_all rfl
theorem R.cmp_isNaN_int : R F.cmp_isNaN_int = some (.rc RC.cmp_isNaN_int) := by with_unfolding_all rfl
theorem R.mask_frame : R F.mask_frame = some (.rc RC.mask_frame) := by with_unfolding_all rfl
theorem R.slices_insertionSortOrdered_int : R F.slices_insertionSortOrdered_int = some (.rc RC.slices_insertionSortOrdered_int) := by with_unfolding_all rfl
theorem R.slices_heapSortOrdered_int : R F.slices_heapSortOrdered_int = some (.rc RC.slices_heapSortOrdered_int) := by with_unfolding_all rfl
theorem R.slices_breakPatternsOrdered_int : R F.slices_breakPatternsOrdered_int = some (.rc RC.slices_breakPatternsOrdered_int) := by with_unfolding_all rfl
theorem R.slices_choosePivotOrdered_int : R F.slices_choosePivotOrdered_int = some (.rc RC.slices_choosePivotOrdered_int) := by with_unfolding_all rfl
theorem R.slices_reverseRangeOrdered_int : R F.slices_reverseRangeOrdered_int = some (.rc RC.slices_reverseRangeOrdered_int) := by with_unfolding_all rfl
theorem R.slices_partialInsertionSortOrdered_int : R F.slices_partialInsertionSortOrdered_int = some (.rc RC.slices_partialInsertionSortOrdered_int) := by with_unfolding_all rfl
theorem R.cmp_Less_int : R F.cmp_Less_int = some (.rc RC.cmp_Less_int) := by with_unfolding_all rfl
theorem R.slices_partitionEqualOrdered_int : R F.slices_partitionEqualOrdered_int = some (.rc RC.slices_partitionEqualOrdered_int) := by with_unfolding_all rfl
theorem R.slices_partitionOrdered_int : R F.slices_partitionOrdered_int = some (.rc RC.slices_partitionOrdered_int) := by with_unfolding_all rfl
theorem R.math_bits_Len32 : R F.math_bits_Len32 = some (.rc RC.math_bits_Len32) := by with_unfolding_all rfl
theorem R.math_bits_Len64 : R F.math_bits_Len64 = some (.rc RC.math_bits_Len64) := by with_unfolding_all rfl
theorem R.slices_siftDownOrdered_int : R F.slices_siftDownOrdered_int = some (.rc RC.slices_siftDownOrdered_int) := by with_unfolding_all rfl
theorem R.slices_nextPowerOfTwo : R F.slices_nextPowerOfTwo = some (.rc RC.slices_nextPowerOfTwo) := by with_unfolding_all rfl
theorem R.slices_xorshift_Next : R F.slices_xorshift_Next = some (.rc RC.slices_xorshift_Next) := by with_unfolding_all rfl
theorem R.slices_medianAdjacentOrdered_int : R F.slices_medianAdjacentOrdered_int = some (.rc RC.slices_medianAdjacentOrdered_int) := by with_unfolding_all rfl
theorem R.slices_medianOrdered_int : R F.slices_medianOrdered_int = some (.rc RC.slices_medianOrdered_int) := by with_unfolding_all rfl
theorem R.slices_order2Ordered_int : R F.slices_order2Ordered_int = some (.rc RC.slices_order2Ordered_int) := by with_unfolding_all rfl
theorem R.slices_Sorted_int : R F.slices_Sorted_int = some (.ext X.sk) := by with_unfolding_all rfl
end Go.Am
