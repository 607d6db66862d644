/- Parts of the proofs of the statements of this seat: AmTabWeave. No conditions. -/
import Derived.Test.YtihdbinkjokbjaaWeaveFitsPart3
set_option linter.unusedVariables false
set_option linter.unusedSimpArgs false

/- The functions of the layer weave in the form of the abstract machine. Printed by amgen.py. -/
set_option linter.unusedVariables false
namespace Go.Am

@[irreducible] def F.law21_WeaveMost : Nat := 3
@[irreducible] def F.law21_WeavePlaces : Nat := 4
@[irreducible] def F.law21_WeaveFits : Nat := 5
@[irreducible] def F.law16_Light : Nat := 6
@[irreducible] def F.law21_awake : Nat := 7
@[irreducible] def F.ref16_Right : Nat := 8
@[irreducible] def F.weave_Most : Nat := 9
@[irreducible] def F.ref16_Cores : Nat := 10
@[irreducible] def F.ref21_Most : Nat := 11
@[irreducible] def F.ref21_Gaps : Nat := 12
@[irreducible] def F.ref21_Rooms : Nat := 13
@[irreducible] def F.weave_Place : Nat := 14
@[irreducible] def F.ref16_SamePlace : Nat := 15
@[irreducible] def F.law21_small : Nat := 16
@[irreducible] def F.ref21_Why : Nat := 17
@[irreducible] def F.ref21_Place : Nat := 18
@[irreducible] def F.ref16_Put : Nat := 19
@[irreducible] def F.ref16_Free : Nat := 20
@[irreducible] def F.law21_example : Nat := 21
@[irreducible] def F.ref16_place : Nat := 22
@[irreducible] def F.ref16_apart : Nat := 23
@[irreducible] def F.ref16_Splits : Nat := 24
@[irreducible] def F.ref16_Load : Nat := 25
@[irreducible] def F.plan_Check : Nat := 26
@[irreducible] def F.weave_begin : Nat := 27
@[irreducible] def F.weave_loom_most : Nat := 28
@[irreducible] def F.ref16_Has : Nat := 29
@[irreducible] def F.ref04_Has : Nat := 30
@[irreducible] def F.ref04_With : Nat := 31
@[irreducible] def F.ref21_least : Nat := 32
@[irreducible] def F.ref04_All : Nat := 33
@[irreducible] def F.ref16_Windows : Nat := 34
@[irreducible] def F.ref16_Room : Nat := 35
@[irreducible] def F.weave_why : Nat := 36
@[irreducible] def F.weave_loom_give : Nat := 37
@[irreducible] def F.ref18_Why : Nat := 38
@[irreducible] def F.ref18_First : Nat := 39
@[irreducible] def F.ref16_Drop : Nat := 40
@[irreducible] def F.ref08_Is : Nat := 41
@[irreducible] def F.ref16_At : Nat := 42
@[irreducible] def F.ref04_Count : Nat := 43
@[irreducible] def F.ref16_Wholes : Nat := 44
@[irreducible] def F.plan_place : Nat := 45
@[irreducible] def F.plan_apart : Nat := 46
@[irreducible] def F.plan_Splits : Nat := 47
@[irreducible] def F.plan_Cores : Nat := 48
@[irreducible] def F.plan_left : Nat := 49
@[irreducible] def F.mask_All : Nat := 50
@[irreducible] def F.plan_Windows : Nat := 51
@[irreducible] def F.plan_Room : Nat := 52
@[irreducible] def F.weave_match_try : Nat := 53
@[irreducible] def F.ref04_Frame : Nat := 54
@[irreducible] def F.order_Check : Nat := 55
@[irreducible] def F.plan_Find : Nat := 56
@[irreducible] def F.ffd_First : Nat := 57
@[irreducible] def F.mask_Has : Nat := 58
@[irreducible] def F.ref08_Check : Nat := 59
@[irreducible] def F.ref16_Find : Nat := 60
@[irreducible] def F.ref04_Ticks : Nat := 61
@[irreducible] def F.order_Kind : Nat := 62
@[irreducible] def F.plan_split : Nat := 63
@[irreducible] def F.plan_pieces : Nat := 64
@[irreducible] def F.plan_has : Nat := 65
@[irreducible] def F.mask_Count : Nat := 66
@[irreducible] def F.plan_Wholes : Nat := 67
@[irreducible] def F.mask_frame : Nat := 68
@[irreducible] def F.weave_match_push : Nat := 69
@[irreducible] def F.plan_find : Nat := 70
@[irreducible] def F.slices_Clone_api_Piece_api_Piece : Nat := 71
@[irreducible] def F.ffd_first : Nat := 72
@[irreducible] def F.math_bits_OnesCount64 : Nat := 73
@[irreducible] def F.slices_BinarySearchFunc_api_Place_api_Place_int : Nat := 74
@[irreducible] def F.plan_find_1 : Nat := 75
@[irreducible] def F.cmp_Compare_int : Nat := 76
@[irreducible] def F.cmp_isNaN_int : Nat := 77

def RC.law21_WeaveMost : RFn := ⟨1, [.slot 2],
  (.seq (.region [⟨some 1, none, .box (.t 0)⟩,
    ⟨some 2, none, .mov (.c (.bool false))⟩]
    [1])
  (.seq (.seq (.region [⟨some 3, none, .load true 3 (.t 1)⟩,
    ⟨some 4, none, .call F.law16_Light [.t 3]⟩,
    ⟨some 5, none, .un .not (.t 4)⟩]
    [1, 5])
  (.cond (.t 5)
    (.seq (.region [⟨some 6, none, .call F.law21_awake []⟩,
      ⟨some 2, none, .mov (.t 6)⟩]
      [2])
    .ret)
    .skip))
  (.seq (.seq (.region [⟨some 7, none, .load true 3 (.t 1)⟩,
    ⟨some 8, none, .call F.ref16_Right [.t 7]⟩,
    ⟨some 9, none, .un .not (.t 8)⟩]
    [1, 9])
  (.cond (.t 9)
    (.seq (.region [⟨some 10, none, .load true 3 (.t 1)⟩,
      ⟨some 11, none, .call F.weave_Most [.t 10]⟩,
      ⟨some 12, none, .bin .eql (.t 11) (.c (.int .i64 0))⟩,
      ⟨some 13, none, .mov (.t 12)⟩,
      ⟨some 14, some (13, true), .call F.law21_awake []⟩,
      ⟨some 15, none, .pick (.t 13) (.t 14) (.c (.bool false))⟩,
      ⟨some 2, none, .mov (.t 15)⟩]
      [2])
    .ret)
    .skip))
  (.seq (.seq (.region [⟨some 16, none, .load true 3 (.t 1)⟩,
    ⟨some 17, none, .call F.ref16_Cores [.t 16]⟩,
    ⟨some 18, none, .len (.t 17)⟩,
    ⟨some 19, none, .bin .gtr (.t 18) (.c (.int .i64 8))⟩]
    [1, 19])
  (.cond (.t 19)
    (.seq (.region [⟨some 20, none, .call F.law21_awake []⟩,
      ⟨some 2, none, .mov (.t 20)⟩]
      [2])
    .ret)
    .skip))
  (.seq (.drawn [⟨some 21, none, .load true 3 (.t 1)⟩,
    ⟨some 22, none, .call F.weave_Most [.t 21]⟩,
    ⟨some 23, none, .load true 3 (.t 1)⟩,
    ⟨some 24, none, .call F.ref21_Gaps [.t 23]⟩,
    ⟨some 25, none, .load true 3 (.t 1)⟩,
    ⟨some 26, none, .call F.ref21_Rooms [.t 25]⟩,
    ⟨some 27, none, .call F.ref21_Most [.t 24, .t 26, .c (.int .i64 0)]⟩,
    ⟨some 28, none, .bin .eql (.t 22) (.t 27)⟩,
    ⟨some 29, none, .mov (.t 28)⟩,
    ⟨some 30, some (29, true), .call F.law21_awake []⟩,
    ⟨some 31, none, .pick (.t 29) (.t 30) (.c (.bool false))⟩,
    ⟨some 2, none, .mov (.t 31)⟩]
    [[], [0], [], [2, 1], [], [4, 3], [3, 5, 5], [1, 6], [7, 6], [8, 8], [8, 9], [10, 9, 0, 1, 2, 3, 4, 5, 6, 7, 8, 9, 10]]
    [(0, []), (2, []), (4, []), (1, [1]), (3, [1]), (5, []), (6, []), (7, []), (8, []), (9, []), (10, []), (11, [])]
    [[], [0], [], [0, 1, 2], [], [0, 1, 2, 3, 4], [0, 1, 2, 3, 4, 5], [0, 1, 2, 3, 4, 5, 6], [0, 1, 2, 3, 4, 5, 6, 7], [0, 1, 2, 3, 4, 5, 6, 7, 8], [0, 1, 2, 3, 4, 5, 6, 7, 8, 9], [0, 1, 2, 3, 4, 5, 6, 7, 8, 9, 10]]
    [2])
  .ret)))))⟩

def RC.law21_WeavePlaces : RFn := ⟨2, [.slot 4],
  (.seq (.region [⟨some 2, none, .box (.t 0)⟩,
    ⟨some 3, none, .box (.t 1)⟩,
    ⟨some 4, none, .mov (.c (.bool false))⟩]
    [2, 3])
  (.seq (.seq (.region [⟨some 8, none, .load true 3 (.t 2)⟩,
    ⟨some 9, none, .call F.law16_Light [.t 8]⟩,
    ⟨some 10, none, .un .not (.t 9)⟩]
    [2, 3, 10])
  (.cond (.t 10)
    (.seq (.region [⟨some 11, none, .call F.law21_awake []⟩,
      ⟨some 4, none, .mov (.t 11)⟩]
      [4])
    .ret)
    .skip))
  (.seq (.region [⟨some 13, none, .load true 3 (.t 2)⟩,
    ⟨some 14, none, .load true 2 (.t 3)⟩,
    ⟨some 15, none, .call F.weave_Place [.t 13, .t 14]⟩,
    ⟨some 12, none, .mov (.t 15)⟩,
    ⟨some 16, none, .ext 0 (.t 12)⟩,
    ⟨some 17, none, .ext 1 (.t 12)⟩,
    ⟨some 5, none, .alloc [(.int .i64 0), (.int .i64 0), (.int .i64 0), (.slice none 0 0)]⟩,
    ⟨none, none, .store 4 (.t 5) (.t 16)⟩,
    ⟨some 6, none, .mov (.t 17)⟩]
    [2, 3, 5, 6])
  (.seq (.seq (.region [⟨some 18, none, .load true 3 (.t 2)⟩,
    ⟨some 19, none, .call F.ref16_Right [.t 18]⟩,
    ⟨some 20, none, .un .not (.t 19)⟩]
    [2, 3, 5, 6, 20])
  (.cond (.t 20)
    (.seq (.region [⟨some 21, none, .mov (.t 6)⟩,
      ⟨some 22, none, .bin .eql (.t 21) (.c (.int .i64 30))⟩,
      ⟨some 23, none, .mov (.t 22)⟩,
      ⟨some 24, some (23, true), .load true 4 (.t 5)⟩,
      ⟨some 25, some (23, true), .build [(.int .i64 0), (.int .i64 0), (.int .i64 0), (.slice none 0 0)] []⟩,
      ⟨some 26, some (23, true), .call F.ref16_SamePlace [.t 24, .t 25]⟩,
      ⟨some 27, none, .pick (.t 23) (.t 26) (.c (.bool false))⟩,
      ⟨some 28, none, .mov (.t 27)⟩,
      ⟨some 29, some (28, true), .call F.law21_awake []⟩,
      ⟨some 30, none, .pick (.t 28) (.t 29) (.c (.bool false))⟩,
      ⟨some 4, none, .mov (.t 30)⟩]
      [4])
    .ret)
    .skip))
  (.seq (.seq (.region [⟨some 31, none, .load true 3 (.t 2)⟩,
    ⟨some 32, none, .call F.law21_small [.t 31]⟩,
    ⟨some 33, none, .un .not (.t 32)⟩]
    [2, 3, 5, 6, 33])
  (.cond (.t 33)
    (.seq (.region [⟨some 34, none, .call F.law21_awake []⟩,
      ⟨some 4, none, .mov (.t 34)⟩]
      [4])
    .ret)
    .skip))
  (.seq (.seq (.region [⟨some 35, none, .load true 3 (.t 2)⟩,
    ⟨some 36, none, .load true 2 (.t 3)⟩,
    ⟨some 37, none, .call F.ref21_Why [.t 35, .t 36]⟩,
    ⟨some 7, none, .mov (.t 37)⟩]
    [2, 3, 5, 6, 7])
  (.seq (.region [⟨some 38, none, .mov (.t 7)⟩,
    ⟨some 39, none, .bin .neq (.t 38) (.c (.int .i64 0))⟩]
    [2, 3, 5, 6, 7, 39])
  (.cond (.t 39)
    (.seq (.region [⟨some 40, none, .mov (.t 6)⟩,
      ⟨some 41, none, .mov (.t 7)⟩,
      ⟨some 42, none, .bin .eql (.t 40) (.t 41)⟩,
      ⟨some 43, none, .mov (.t 42)⟩,
      ⟨some 44, some (43, true), .load true 4 (.t 5)⟩,
      ⟨some 45, some (43, true), .build [(.int .i64 0), (.int .i64 0), (.int .i64 0), (.slice none 0 0)] []⟩,
      ⟨some 46, some (43, true), .call F.ref16_SamePlace [.t 44, .t 45]⟩,
      ⟨some 47, none, .pick (.t 43) (.t 46) (.c (.bool false))⟩,
      ⟨some 48, none, .mov (.t 47)⟩,
      ⟨some 49, some (48, true), .call F.law21_awake []⟩,
      ⟨some 50, none, .pick (.t 48) (.t 49) (.c (.bool false))⟩,
      ⟨some 4, none, .mov (.t 50)⟩]
      [4])
    .ret)
    .skip)))
  (.seq (.drawn [⟨some 51, none, .mov (.t 6)⟩,
    ⟨some 52, none, .bin .eql (.t 51) (.c (.int .i64 0))⟩,
    ⟨some 53, none, .mov (.t 52)⟩,
    ⟨some 54, some (53, true), .load true 4 (.t 5)⟩,
    ⟨some 55, some (53, true), .load true 3 (.t 2)⟩,
    ⟨some 56, some (53, true), .load true 2 (.t 3)⟩,
    ⟨some 57, some (53, true), .call F.ref21_Place [.t 55, .t 56]⟩,
    ⟨some 58, some (53, true), .call F.ref16_SamePlace [.t 54, .t 57]⟩,
    ⟨some 59, none, .pick (.t 53) (.t 58) (.c (.bool false))⟩,
    ⟨some 60, none, .mov (.t 59)⟩,
    ⟨some 61, some (60, true), .call F.law21_awake []⟩,
    ⟨some 62, none, .pick (.t 60) (.t 61) (.c (.bool false))⟩,
    ⟨some 4, none, .mov (.t 62)⟩]
    [[], [0], [1], [2], [2], [2], [4, 5, 2, 2], [3, 6, 6, 2], [2, 7], [8, 7], [9, 9], [9, 10], [11, 10, 0, 1, 2, 3, 4, 5, 6, 7, 8, 9, 10, 11]]
    [(0, []), (1, []), (2, []), (3, []), (4, []), (5, []), (6, [5]), (7, []), (8, []), (9, []), (10, []), (11, []), (12, [])]
    [[], [0], [0, 1], [0, 1, 2], [0, 1, 2], [0, 1, 2], [0, 1, 2, 4, 5], [0, 1, 2, 3, 4, 5, 6], [0, 1, 2, 3, 4, 5, 6, 7], [0, 1, 2, 3, 4, 5, 6, 7, 8], [0, 1, 2, 3, 4, 5, 6, 7, 8, 9], [0, 1, 2, 3, 4, 5, 6, 7, 8, 9, 10], [0, 1, 2, 3, 4, 5, 6, 7, 8, 9, 10, 11]]
    [4])
  .ret)))))))⟩

def RC.law21_WeaveFits : RFn := ⟨2, [.slot 4],
  (.seq (.region [⟨some 2, none, .box (.t 0)⟩,
    ⟨some 3, none, .box (.t 1)⟩,
    ⟨some 4, none, .mov (.c (.bool false))⟩]
    [2, 3])
  (.seq (.seq (.region [⟨some 8, none, .load true 3 (.t 2)⟩,
    ⟨some 9, none, .call F.law16_Light [.t 8]⟩,
    ⟨some 10, none, .un .not (.t 9)⟩,
    ⟨some 11, none, .mov (.t 10)⟩,
    ⟨some 12, some (11, false), .load true 3 (.t 2)⟩,
    ⟨some 13, some (11, false), .call F.ref16_Right [.t 12]⟩,
    ⟨some 14, some (11, false), .un .not (.t 13)⟩,
    ⟨some 15, none, .pick (.t 11) (.c (.bool true)) (.t 14)⟩]
    [2, 3, 15])
  (.cond (.t 15)
    (.seq (.region [⟨some 16, none, .call F.law21_awake []⟩,
      ⟨some 4, none, .mov (.t 16)⟩]
      [4])
    .ret)
    .skip))
  (.seq (.region [⟨some 18, none, .load true 3 (.t 2)⟩,
    ⟨some 19, none, .load true 2 (.t 3)⟩,
    ⟨some 20, none, .call F.weave_Place [.t 18, .t 19]⟩,
    ⟨some 17, none, .mov (.t 20)⟩,
    ⟨some 21, none, .ext 0 (.t 17)⟩,
    ⟨some 22, none, .ext 1 (.t 17)⟩,
    ⟨some 5, none, .alloc [(.int .i64 0), (.int .i64 0), (.int .i64 0), (.slice none 0 0)]⟩,
    ⟨none, none, .store 4 (.t 5) (.t 21)⟩,
    ⟨some 6, none, .mov (.t 22)⟩]
    [2, 3, 5, 6])
  (.seq (.seq (.region [⟨some 23, none, .mov (.t 6)⟩,
    ⟨some 24, none, .bin .neq (.t 23) (.c (.int .i64 0))⟩]
    [2, 3, 5, 24])
  (.cond (.t 24)
    (.seq (.region [⟨some 25, none, .load true 4 (.t 5)⟩,
      ⟨some 26, none, .build [(.int .i64 0), (.int .i64 0), (.int .i64 0), (.slice none 0 0)] []⟩,
      ⟨some 27, none, .call F.ref16_SamePlace [.t 25, .t 26]⟩,
      ⟨some 28, none, .mov (.t 27)⟩,
      ⟨some 29, some (28, true), .call F.law21_awake []⟩,
      ⟨some 30, none, .pick (.t 28) (.t 29) (.c (.bool false))⟩,
      ⟨some 4, none, .mov (.t 30)⟩]
      [4])
    .ret)
    .skip))
  (.seq (.region [⟨some 31, none, .load true 3 (.t 2)⟩,
    ⟨some 32, none, .load true 4 (.t 5)⟩,
    ⟨some 33, none, .call F.ref16_Put [.t 31, .t 32]⟩,
    ⟨some 7, none, .alloc [(.int .i64 0), (u32 0#32), (.slice none 0 0)]⟩,
    ⟨none, none, .store 3 (.t 7) (.t 33)⟩]
    [2, 3, 5, 7])
  (.seq (.drawn [⟨some 34, none, .fieldAddr 0 (.t 5)⟩,
    ⟨some 35, none, .load false 1 (.t 34)⟩,
    ⟨some 36, none, .fieldAddr 0 (.t 3)⟩,
    ⟨some 37, none, .load false 1 (.t 36)⟩,
    ⟨some 38, none, .bin .eql (.t 35) (.t 37)⟩,
    ⟨some 39, none, .mov (.t 38)⟩,
    ⟨some 40, some (39, true), .fieldAddr 1 (.t 5)⟩,
    ⟨some 41, some (39, true), .load false 1 (.t 40)⟩,
    ⟨some 42, some (39, true), .fieldAddr 1 (.t 3)⟩,
    ⟨some 43, some (39, true), .load false 1 (.t 42)⟩,
    ⟨some 44, some (39, true), .bin .eql (.t 41) (.t 43)⟩,
    ⟨some 45, none, .pick (.t 39) (.t 44) (.c (.bool false))⟩,
    ⟨some 46, none, .mov (.t 45)⟩,
    ⟨some 47, some (46, true), .fieldAddr 3 (.t 5)⟩,
    ⟨some 48, some (46, true), .load false 1 (.t 47)⟩,
    ⟨some 49, some (46, true), .len (.t 48)⟩,
    ⟨some 50, some (46, true), .bin .geq (.t 49) (.c (.int .i64 2))⟩,
    ⟨some 51, none, .pick (.t 46) (.t 50) (.c (.bool false))⟩,
    ⟨some 52, none, .mov (.t 51)⟩,
    ⟨some 53, some (52, true), .load true 3 (.t 7)⟩,
    ⟨some 54, some (52, true), .call F.ref16_Right [.t 53]⟩,
    ⟨some 55, none, .pick (.t 52) (.t 54) (.c (.bool false))⟩,
    ⟨some 56, none, .mov (.t 55)⟩,
    ⟨some 57, some (56, true), .load true 3 (.t 7)⟩,
    ⟨some 58, some (56, true), .call F.ref16_Free [.t 57]⟩,
    ⟨some 59, some (56, true), .load true 3 (.t 2)⟩,
    ⟨some 60, some (56, true), .call F.ref16_Free [.t 59]⟩,
    ⟨some 61, some (56, true), .fieldAddr 1 (.t 3)⟩,
    ⟨some 62, some (56, true), .load false 1 (.t 61)⟩,
    ⟨some 63, some (56, true), .bin .sub (.t 60) (.t 62)⟩,
    ⟨some 64, some (56, true), .bin .eql (.t 58) (.t 63)⟩,
    ⟨some 65, none, .pick (.t 56) (.t 64) (.c (.bool false))⟩,
    ⟨some 66, none, .mov (.t 65)⟩,
    ⟨some 67, some (66, true), .call F.law21_awake []⟩,
    ⟨some 68, none, .pick (.t 66) (.t 67) (.c (.bool false))⟩,
    ⟨some 4, none, .mov (.t 68)⟩]
    [[], [0], [], [2], [1, 3], [4], [5], [6, 5], [5], [8, 5], [7, 9, 5], [5, 10], [11, 5], [12], [13, 12], [14, 12], [15, 12], [12, 16], [17, 12], [18], [19, 18, 18], [18, 20], [21, 20], [22], [23, 22, 22], [22], [25, 24, 22], [22], [27, 22], [26, 28, 22], [24, 29, 22], [22, 30], [31, 26], [32, 32], [32, 33], [34, 33, 0, 1, 2, 3, 4, 5, 6, 7, 8, 9, 10, 11, 12, 13, 14, 15, 16, 17, 18, 19, 20, 21, 22, 23, 24, 25, 26, 27, 28, 29, 30, 31, 32, 33, 34]]
    [(0, []), (2, []), (1, []), (3, []), (4, []), (5, []), (6, []), (8, []), (7, []), (9, []), (10, []), (11, []), (12, []), (13, []), (14, []), (15, []), (16, []), (17, []), (18, []), (19, []), (20, []), (21, []), (22, []), (27, []), (23, []), (25, []), (28, []), (24, [2, 61]), (26, [61]), (29, []), (30, []), (31, []), (32, []), (33, []), (34, []), (35, [])]
    [[], [0], [], [2], [0, 1, 2, 3], [0, 1, 2, 3, 4], [0, 1, 2, 3, 4, 5], [0, 1, 2, 3, 4, 5, 6], [0, 1, 2, 3, 4, 5], [0, 1, 2, 3, 4, 5, 8], [0, 1, 2, 3, 4, 5, 6, 7, 8, 9], [0, 1, 2, 3, 4, 5, 6, 7, 8, 9, 10], [0, 1, 2, 3, 4, 5, 6, 7, 8, 9, 10, 11], [0, 1, 2, 3, 4, 5, 6, 7, 8, 9, 10, 11, 12], [0, 1, 2, 3, 4, 5, 6, 7, 8, 9, 10, 11, 12, 13], [0, 1, 2, 3, 4, 5, 6, 7, 8, 9, 10, 11, 12, 13, 14], [0, 1, 2, 3, 4, 5, 6, 7, 8, 9, 10, 11, 12, 13, 14, 15], [0, 1, 2, 3, 4, 5, 6, 7, 8, 9, 10, 11, 12, 13, 14, 15, 16], [0, 1, 2, 3, 4, 5, 6, 7, 8, 9, 10, 11, 12, 13, 14, 15, 16, 17], [0, 1, 2, 3, 4, 5, 6, 7, 8, 9, 10, 11, 12, 13, 14, 15, 16, 17, 18], [0, 1, 2, 3, 4, 5, 6, 7, 8, 9, 10, 11, 12, 13, 14, 15, 16, 17, 18, 19], [0, 1, 2, 3, 4, 5, 6, 7, 8, 9, 10, 11, 12, 13, 14, 15, 16, 17, 18, 19, 20], [0, 1, 2, 3, 4, 5, 6, 7, 8, 9, 10, 11, 12, 13, 14, 15, 16, 17, 18, 19, 20, 21], [0, 1, 2, 3, 4, 5, 6, 7, 8, 9, 10, 11, 12, 13, 14, 15, 16, 17, 18, 19, 20, 21, 22], [0, 1, 2, 3, 4, 5, 6, 7, 8, 9, 10, 11, 12, 13, 14, 15, 16, 17, 18, 19, 20, 21, 22, 23], [0, 1, 2, 3, 4, 5, 6, 7, 8, 9, 10, 11, 12, 13, 14, 15, 16, 17, 18, 19, 20, 21, 22], [0, 1, 2, 3, 4, 5, 6, 7, 8, 9, 10, 11, 12, 13, 14, 15, 16, 17, 18, 19, 20, 21, 22, 23, 24, 25], [0, 1, 2, 3, 4, 5, 6, 7, 8, 9, 10, 11, 12, 13, 14, 15, 16, 17, 18, 19, 20, 21, 22], [0, 1, 2, 3, 4, 5, 6, 7, 8, 9, 10, 11, 12, 13, 14, 15, 16, 17, 18, 19, 20, 21, 22, 27], [0, 1, 2, 3, 4, 5, 6, 7, 8, 9, 10, 11, 12, 13, 14, 15, 16, 17, 18, 19, 20, 21, 22, 23, 24, 25, 26, 27, 28], [0, 1, 2, 3, 4, 5, 6, 7, 8, 9, 10, 11, 12, 13, 14, 15, 16, 17, 18, 19, 20, 21, 22, 23, 24, 25, 26, 27, 28, 29], [0, 1, 2, 3, 4, 5, 6, 7, 8, 9, 10, 11, 12, 13, 14, 15, 16, 17, 18, 19, 20, 21, 22, 23, 24, 25, 26, 27, 28, 29, 30], [0, 1, 2, 3, 4, 5, 6, 7, 8, 9, 10, 11, 12, 13, 14, 15, 16, 17, 18, 19, 20, 21, 22, 23, 24, 25, 26, 27, 28, 29, 30, 31], [0, 1, 2, 3, 4, 5, 6, 7, 8, 9, 10, 11, 12, 13, 14, 15, 16, 17, 18, 19, 20, 21, 22, 23, 24, 25, 26, 27, 28, 29, 30, 31, 32], [0, 1, 2, 3, 4, 5, 6, 7, 8, 9, 10, 11, 12, 13, 14, 15, 16, 17, 18, 19, 20, 21, 22, 23, 24, 25, 26, 27, 28, 29, 30, 31, 32, 33], [0, 1, 2, 3, 4, 5, 6, 7, 8, 9, 10, 11, 12, 13, 14, 15, 16, 17, 18, 19, 20, 21, 22, 23, 24, 25, 26, 27, 28, 29, 30, 31, 32, 33, 34]]
    [4])
  .ret))))))⟩

def RB.law16_Light_1 : RCode :=
  (.seq (.seq (.region [⟨some 4, none, .mov (.t 3)⟩,
    ⟨some 5, none, .fieldAddr 2 (.t 1)⟩,
    ⟨some 6, none, .load false 1 (.t 5)⟩,
    ⟨some 7, none, .len (.t 6)⟩,
    ⟨some 8, none, .bin .lss (.t 4) (.t 7)⟩,
    ⟨some 9, none, .mov (.t 8)⟩,
    ⟨some 10, some (9, true), .mov (.t 3)⟩,
    ⟨some 11, some (9, true), .bin .lss (.t 10) (.c (.int .i64 300))⟩,
    ⟨some 12, none, .pick (.t 9) (.t 11) (.c (.bool false))⟩]
    [1, 3, 12])
  (.cond (.t 12)
    .skip
    (.exit 0)))
  (.seq (.block 1
    (.seq (.region [⟨some 15, none, .fieldAddr 2 (.t 1)⟩,
      ⟨some 16, none, .load false 1 (.t 15)⟩,
      ⟨some 17, none, .mov (.t 3)⟩,
      ⟨some 18, none, .idxS 4 (.t 16) (.t 17)⟩,
      ⟨some 19, none, .fieldAddr 3 (.t 18)⟩,
      ⟨some 20, none, .load false 1 (.t 19)⟩,
      ⟨some 21, none, .len (.t 20)⟩,
      ⟨some 22, none, .bin .gtr (.t 21) (.c (.int .i64 20))⟩]
      [1, 3, 22])
    (.cond (.t 22)
      (.seq (.region [⟨some 2, none, .mov (.c (.bool false))⟩]
        [2])
      .ret)
      .skip)) [1, 3])
  (.region [⟨some 13, none, .mov (.t 3)⟩,
    ⟨some 14, none, .bin .add (.t 13) (.c (.int .i64 1))⟩,
    ⟨some 3, none, .mov (.t 14)⟩]
    [1, 3])))
def RC.law16_Light : RFn := ⟨1, [.slot 2],
  (.seq (.region [⟨some 1, none, .box (.t 0)⟩,
    ⟨some 2, none, .mov (.c (.bool false))⟩]
    [1])
  (.seq (.seq (.region [⟨some 3, none, .mov (.c (.int .i64 0))⟩]
    [1, 3])
  (.block 0
    (.loop [1, 3] RB.law16_Light_1) [1]))
  (.seq (.region [⟨some 23, none, .fieldAddr 2 (.t 1)⟩,
    ⟨some 24, none, .load false 1 (.t 23)⟩,
    ⟨some 25, none, .len (.t 24)⟩,
    ⟨some 26, none, .bin .leq (.t 25) (.c (.int .i64 60))⟩,
    ⟨some 2, none, .mov (.t 26)⟩]
    [2])
  .ret)))⟩

def RC.law21_awake : RFn := ⟨0, [.slot 0],
  (.seq (.region [⟨some 0, none, .mov (.c (.bool false))⟩]
    [])
  (.seq (.region [⟨some 6, none, .call F.law21_example []⟩,
    ⟨some 1, none, .alloc [(.int .i64 0), (u32 0#32), (.slice none 0 0)]⟩,
    ⟨none, none, .store 3 (.t 1) (.t 6)⟩]
    [1])
  (.seq (.region [⟨some 8, none, .load true 3 (.t 1)⟩,
    ⟨some 9, none, .build [(.int .i64 0), (.int .i64 0)] [(0, 1, .c (.int .i64 4)), (1, 1, .c (.int .i64 3))]⟩,
    ⟨some 10, none, .call F.weave_Place [.t 8, .t 9]⟩,
    ⟨some 7, none, .mov (.t 10)⟩,
    ⟨some 11, none, .ext 0 (.t 7)⟩,
    ⟨some 12, none, .ext 1 (.t 7)⟩,
    ⟨some 2, none, .alloc [(.int .i64 0), (.int .i64 0), (.int .i64 0), (.slice none 0 0)]⟩,
    ⟨none, none, .store 4 (.t 2) (.t 11)⟩,
    ⟨some 3, none, .mov (.t 12)⟩]
    [1, 2, 3])
  (.seq (.region [⟨some 14, none, .load true 3 (.t 1)⟩,
    ⟨some 15, none, .build [(.int .i64 0), (.int .i64 0)] [(0, 1, .c (.int .i64 4)), (1, 1, .c (.int .i64 2))]⟩,
    ⟨some 16, none, .call F.weave_Place [.t 14, .t 15]⟩,
    ⟨some 13, none, .mov (.t 16)⟩,
    ⟨some 17, none, .ext 0 (.t 13)⟩,
    ⟨some 18, none, .ext 1 (.t 13)⟩,
    ⟨some 4, none, .alloc [(.int .i64 0), (.int .i64 0), (.int .i64 0), (.slice none 0 0)]⟩,
    ⟨none, none, .store 4 (.t 4) (.t 17)⟩,
    ⟨some 5, none, .mov (.t 18)⟩]
    [1, 2, 3, 5])
  (.seq (.region [⟨some 19, none, .load true 3 (.t 1)⟩,
    ⟨some 20, none, .call F.weave_Most [.t 19]⟩,
    ⟨some 21, none, .bin .eql (.t 20) (.c (.int .i64 4))⟩,
    ⟨some 22, none, .mov (.t 21)⟩,
    ⟨some 23, some (22, true), .mov (.t 3)⟩,
    ⟨some 24, some (22, true), .bin .eql (.t 23) (.c (.int .i64 0))⟩,
    ⟨some 25, none, .pick (.t 22) (.t 24) (.c (.bool false))⟩,
    ⟨some 26, none, .mov (.t 25)⟩,
    ⟨some 27, some (26, true), .load true 4 (.t 2)⟩,
    ⟨some 28, some (26, true), .build [(.int .i64 0), (u64 0#64)] [(0, 1, .c (.int .i64 0)), (1, 1, .c (u64 4#64))]⟩,
    ⟨some 29, some (26, true), .build [(.int .i64 0), (u64 0#64)] [(0, 1, .c (.int .i64 1)), (1, 1, .c (u64 3#64))]⟩,
    ⟨some 30, some (26, true), .bslice [(.int .i64 0), (u64 0#64), (.int .i64 0), (u64 0#64)] [(0, 2, .t 28), (2, 2, .t 29)] 2 2⟩,
    ⟨some 31, some (26, true), .build [(.int .i64 0), (.int .i64 0), (.int .i64 0), (.slice none 0 0)] [(0, 1, .c (.int .i64 4)), (1, 1, .c (.int .i64 3)), (3, 1, .t 30)]⟩,
    ⟨some 32, some (26, true), .call F.ref16_SamePlace [.t 27, .t 31]⟩,
    ⟨some 33, none, .pick (.t 26) (.t 32) (.c (.bool false))⟩,
    ⟨some 34, none, .mov (.t 33)⟩,
    ⟨some 35, some (34, true), .mov (.t 5)⟩,
    ⟨some 36, some (34, true), .bin .eql (.t 35) (.c (.int .i64 15))⟩,
    ⟨some 37, none, .pick (.t 34) (.t 36) (.c (.bool false))⟩,
    ⟨some 0, none, .mov (.t 37)⟩]
    [0])
  .ret)))))⟩

def RB.ref16_Right_1 : RCode :=
  (.seq (.seq (.region [⟨some 72, none, .mov (.t 5)⟩,
    ⟨some 73, none, .mov (.t 4)⟩,
    ⟨some 74, none, .len (.t 73)⟩,
    ⟨some 75, none, .bin .lss (.t 72) (.t 74)⟩]
    [1, 4, 5, 75])
  (.cond (.t 75)
    .skip
    (.exit 2)))
  (.seq (.block 3
    (.seq (.drawn [⟨some 78, none, .load true 3 (.t 1)⟩,
      ⟨some 79, none, .mov (.t 4)⟩,
      ⟨some 80, none, .mov (.t 5)⟩,
      ⟨some 81, none, .idxS 1 (.t 79) (.t 80)⟩,
      ⟨some 82, none, .load false 1 (.t 81)⟩,
      ⟨some 83, none, .call F.ref16_Load [.t 78, .t 82]⟩,
      ⟨some 84, none, .fieldAddr 0 (.t 1)⟩,
      ⟨some 85, none, .load false 1 (.t 84)⟩,
      ⟨some 86, none, .bin .gtr (.t 83) (.t 85)⟩]
      [[], [], [], [1, 2], [3], [0, 4], [], [6], [5, 7]]
      [(1, []), (2, []), (3, []), (6, []), (0, []), (4, []), (7, []), (5, [84]), (8, [])]
      [[], [], [], [1, 2], [1, 2, 3], [0, 1, 2, 3, 4], [], [6], [0, 1, 2, 3, 4, 5, 6, 7]]
      [1, 4, 5, 86])
    (.cond (.t 86)
      (.seq (.region [⟨some 2, none, .mov (.c (.bool false))⟩]
        [2])
      .ret)
      .skip)) [1, 4, 5])
  (.region [⟨some 76, none, .mov (.t 5)⟩,
    ⟨some 77, none, .bin .add (.t 76) (.c (.int .i64 1))⟩,
    ⟨some 5, none, .mov (.t 77)⟩]
    [1, 4, 5])))
def RB.ref16_Right_2 : RCode :=
  (.seq (.seq (.region [⟨some 24, none, .mov (.t 3)⟩,
    ⟨some 25, none, .fieldAddr 2 (.t 1)⟩,
    ⟨some 26, none, .load false 1 (.t 25)⟩,
    ⟨some 27, none, .len (.t 26)⟩,
    ⟨some 28, none, .bin .lss (.t 24) (.t 27)⟩]
    [1, 3, 28])
  (.cond (.t 28)
    .skip
    (.exit 0)))
  (.seq (.block 1
    (.seq (.drawn [⟨some 31, none, .load true 3 (.t 1)⟩,
      ⟨some 32, none, .fieldAddr 2 (.t 1)⟩,
      ⟨some 33, none, .load false 1 (.t 32)⟩,
      ⟨some 34, none, .mov (.t 3)⟩,
      ⟨some 35, none, .idxS 4 (.t 33) (.t 34)⟩,
      ⟨some 36, none, .load true 4 (.t 35)⟩,
      ⟨some 37, none, .call F.ref16_place [.t 31, .t 36]⟩,
      ⟨some 38, none, .un .not (.t 37)⟩,
      ⟨some 39, none, .mov (.t 38)⟩,
      ⟨some 40, some (39, false), .mov (.t 3)⟩,
      ⟨some 41, some (39, false), .bin .gtr (.t 40) (.c (.int .i64 0))⟩,
      ⟨some 42, some (39, false), .mov (.t 41)⟩,
      ⟨some 43, some (42, true), .fieldAddr 2 (.t 1)⟩,
      ⟨some 44, some (42, true), .load false 1 (.t 43)⟩,
      ⟨some 45, some (42, true), .mov (.t 3)⟩,
      ⟨some 46, some (42, true), .bin .sub (.t 45) (.c (.int .i64 1))⟩,
      ⟨some 47, some (42, true), .idxS 4 (.t 44) (.t 46)⟩,
      ⟨some 48, some (42, true), .fieldAddr 0 (.t 47)⟩,
      ⟨some 49, some (42, true), .load false 1 (.t 48)⟩,
      ⟨some 50, some (42, true), .fieldAddr 2 (.t 1)⟩,
      ⟨some 51, some (42, true), .load false 1 (.t 50)⟩,
      ⟨some 52, some (42, true), .mov (.t 3)⟩,
      ⟨some 53, some (42, true), .idxS 4 (.t 51) (.t 52)⟩,
      ⟨some 54, some (42, true), .fieldAddr 0 (.t 53)⟩,
      ⟨some 55, some (42, true), .load false 1 (.t 54)⟩,
      ⟨some 56, some (42, true), .bin .geq (.t 49) (.t 55)⟩,
      ⟨some 57, some (39, false), .pick (.t 42) (.t 56) (.c (.bool false))⟩,
      ⟨some 58, none, .pick (.t 39) (.c (.bool true)) (.t 57)⟩]
      [[], [], [1], [], [2, 3], [4], [0, 5], [6], [7, 6], [8], [9, 8], [10, 8, 8], [11], [12, 11], [11], [14, 11], [13, 15, 11], [16, 11], [17, 11], [11], [19, 11], [11], [20, 21, 11], [22, 11], [23, 11], [18, 24, 11], [11, 25, 8], [8, 26]]
      [(1, []), (3, []), (0, []), (2, []), (4, []), (5, []), (6, []), (7, []), (8, []), (9, []), (10, []), (11, []), (12, []), (14, []), (15, []), (19, []), (21, []), (13, []), (16, []), (17, []), (18, []), (20, []), (22, []), (23, []), (24, []), (25, []), (26, []), (27, [])]
      [[], [], [1], [], [1, 2, 3], [1, 2, 3, 4], [0, 1, 2, 3, 4, 5], [0, 1, 2, 3, 4, 5, 6], [0, 1, 2, 3, 4, 5, 6, 7], [0, 1, 2, 3, 4, 5, 6, 7, 8], [0, 1, 2, 3, 4, 5, 6, 7, 8, 9], [0, 1, 2, 3, 4, 5, 6, 7, 8, 9, 10], [0, 1, 2, 3, 4, 5, 6, 7, 8, 9, 10, 11], [0, 1, 2, 3, 4, 5, 6, 7, 8, 9, 10, 11, 12], [0, 1, 2, 3, 4, 5, 6, 7, 8, 9, 10, 11], [0, 1, 2, 3, 4, 5, 6, 7, 8, 9, 10, 11, 14], [0, 1, 2, 3, 4, 5, 6, 7, 8, 9, 10, 11, 12, 13, 14, 15], [0, 1, 2, 3, 4, 5, 6, 7, 8, 9, 10, 11, 12, 13, 14, 15, 16], [0, 1, 2, 3, 4, 5, 6, 7, 8, 9, 10, 11, 12, 13, 14, 15, 16, 17], [0, 1, 2, 3, 4, 5, 6, 7, 8, 9, 10, 11], [0, 1, 2, 3, 4, 5, 6, 7, 8, 9, 10, 11, 19], [0, 1, 2, 3, 4, 5, 6, 7, 8, 9, 10, 11], [0, 1, 2, 3, 4, 5, 6, 7, 8, 9, 10, 11, 19, 20, 21], [0, 1, 2, 3, 4, 5, 6, 7, 8, 9, 10, 11, 19, 20, 21, 22], [0, 1, 2, 3, 4, 5, 6, 7, 8, 9, 10, 11, 19, 20, 21, 22, 23], [0, 1, 2, 3, 4, 5, 6, 7, 8, 9, 10, 11, 12, 13, 14, 15, 16, 17, 18, 19, 20, 21, 22, 23, 24], [0, 1, 2, 3, 4, 5, 6, 7, 8, 9, 10, 11, 12, 13, 14, 15, 16, 17, 18, 19, 20, 21, 22, 23, 24, 25], [0, 1, 2, 3, 4, 5, 6, 7, 8, 9, 10, 11, 12, 13, 14, 15, 16, 17, 18, 19, 20, 21, 22, 23, 24, 25, 26]]
      [1, 3, 58])
    (.cond (.t 58)
      (.seq (.region [⟨some 2, none, .mov (.c (.bool false))⟩]
        [2])
      .ret)
      .skip)) [1, 3])
  (.region [⟨some 29, none, .mov (.t 3)⟩,
    ⟨some 30, none, .bin .add (.t 29) (.c (.int .i64 1))⟩,
    ⟨some 3, none, .mov (.t 30)⟩]
    [1, 3])))
def RC.ref16_Right : RFn := ⟨1, [.slot 2],
  (.seq (.region [⟨some 1, none, .box (.t 0)⟩,
    ⟨some 2, none, .mov (.c (.bool false))⟩]
    [1])
  (.seq (.seq (.region [⟨some 6, none, .fieldAddr 0 (.t 1)⟩,
    ⟨some 7, none, .load false 1 (.t 6)⟩,
    ⟨some 8, none, .bin .lss (.t 7) (.c (.int .i64 2))⟩,
    ⟨some 9, none, .mov (.t 8)⟩,
    ⟨some 10, some (9, false), .fieldAddr 0 (.t 1)⟩,
    ⟨some 11, some (9, false), .load false 1 (.t 10)⟩,
    ⟨some 12, some (9, false), .bin .gtr (.t 11) (.c (.int .i64 64))⟩,
    ⟨some 13, none, .pick (.t 9) (.c (.bool true)) (.t 12)⟩,
    ⟨some 14, none, .mov (.t 13)⟩,
    ⟨some 15, some (14, false), .fieldAddr 1 (.t 1)⟩,
    ⟨some 16, some (14, false), .load false 1 (.t 15)⟩,
    ⟨some 17, some (14, false), .bin .eql (.t 16) (.c (u32 0#32))⟩,
    ⟨some 18, none, .pick (.t 14) (.c (.bool true)) (.t 17)⟩,
    ⟨some 19, none, .mov (.t 18)⟩,
    ⟨some 20, some (19, false), .fieldAddr 1 (.t 1)⟩,
    ⟨some 21, some (19, false), .load false 1 (.t 20)⟩,
    ⟨some 22, some (19, false), .bin .gtr (.t 21) (.c (u32 65535#32))⟩,
    ⟨some 23, none, .pick (.t 19) (.c (.bool true)) (.t 22)⟩]
    [1, 23])
  (.cond (.t 23)
    (.seq (.region [⟨some 2, none, .mov (.c (.bool false))⟩]
      [2])
    .ret)
    .skip))
  (.seq (.seq (.region [⟨some 3, none, .mov (.c (.int .i64 0))⟩]
    [1, 3])
  (.block 0
    (.loop [1, 3] RB.ref16_Right_2) [1]))
  (.seq (.seq (.drawn [⟨some 59, none, .load true 3 (.t 1)⟩,
    ⟨some 60, none, .call F.ref16_apart [.t 59]⟩,
    ⟨some 61, none, .un .not (.t 60)⟩,
    ⟨some 62, none, .mov (.t 61)⟩,
    ⟨some 63, some (62, false), .load true 3 (.t 1)⟩,
    ⟨some 64, some (62, false), .call F.ref16_Splits [.t 63]⟩,
    ⟨some 65, some (62, false), .load true 3 (.t 1)⟩,
    ⟨some 66, some (62, false), .call F.ref16_Cores [.t 65]⟩,
    ⟨some 67, some (62, false), .len (.t 66)⟩,
    ⟨some 68, some (62, false), .bin .geq (.t 64) (.t 67)⟩,
    ⟨some 69, none, .pick (.t 62) (.c (.bool true)) (.t 68)⟩]
    [[], [0], [1], [2, 1], [3], [4, 3, 3], [3], [6, 5, 3], [7, 3], [5, 8, 3], [3, 9]]
    [(0, []), (1, []), (2, []), (3, []), (4, []), (6, []), (5, [1]), (7, []), (8, []), (9, []), (10, [])]
    [[], [0], [0, 1], [0, 1, 2], [0, 1, 2, 3], [0, 1, 2, 3, 4], [0, 1, 2, 3], [0, 1, 2, 3, 4, 5, 6], [0, 1, 2, 3, 4, 5, 6, 7], [0, 1, 2, 3, 4, 5, 6, 7, 8], [0, 1, 2, 3, 4, 5, 6, 7, 8, 9]]
    [1, 69])
  (.cond (.t 69)
    (.seq (.region [⟨some 2, none, .mov (.c (.bool false))⟩]
      [2])
    .ret)
    .skip))
  (.seq (.region [⟨some 70, none, .load true 3 (.t 1)⟩,
    ⟨some 71, none, .call F.ref16_Cores [.t 70]⟩,
    ⟨some 4, none, .mov (.t 71)⟩]
    [1, 4])
  (.seq (.seq (.region [⟨some 5, none, .mov (.c (.int .i64 0))⟩]
    [1, 4, 5])
  (.block 2
    (.loop [1, 4, 5] RB.ref16_Right_1) []))
  (.seq (.region [⟨some 2, none, .mov (.c (.bool true))⟩]
    [2])
  .ret)))))))⟩

def RC.weave_Most : RFn := ⟨1, [.slot 2],
  (.seq (.region [⟨some 1, none, .box (.t 0)⟩,
    ⟨some 2, none, .mov (.c (.int .i64 0))⟩]
    [1])
  (.seq (.seq (.region [⟨some 3, none, .load true 3 (.t 1)⟩,
    ⟨some 4, none, .call F.plan_Check [.t 3]⟩,
    ⟨some 5, none, .bin .neq (.t 4) (.c (.int .i64 0))⟩]
    [1, 5])
  (.cond (.t 5)
    (.seq (.region [⟨some 2, none, .mov (.c (.int .i64 0))⟩]
      [2])
    .ret)
    .skip))
  (.seq (.drawn [⟨some 6, none, .load true 3 (.t 1)⟩,
    ⟨some 7, none, .call F.weave_begin [.t 6]⟩,
    ⟨some 8, none, .fieldAddr 0 (.t 1)⟩,
    ⟨some 9, none, .load false 1 (.t 8)⟩,
    ⟨some 10, none, .call F.weave_loom_most [.t 7, .c (.int .i64 0), .t 9]⟩,
    ⟨some 2, none, .mov (.t 10)⟩]
    [[], [0], [], [2], [1, 3, 1], [4, 4, 0, 1, 2, 3, 4]]
    [(2, []), (0, []), (3, []), (1, [8]), (4, []), (5, [])]
    [[], [0], [], [2], [0, 1, 2, 3], [0, 1, 2, 3, 4]]
    [2])
  .ret)))⟩

def RB.ref16_Cores_1 : RCode :=
  (.seq (.seq (.region [⟨some 6, none, .mov (.t 4)⟩,
    ⟨some 7, none, .bin .lss (.t 6) (.c (.int .i64 16))⟩]
    [1, 3, 4, 7])
  (.cond (.t 7)
    .skip
    (.exit 0)))
  (.seq (.block 1
    (.seq (.region [⟨some 10, none, .load true 3 (.t 1)⟩,
      ⟨some 11, none, .mov (.t 4)⟩,
      ⟨some 12, none, .call F.ref16_Has [.t 10, .t 11]⟩]
      [1, 3, 4, 12])
    (.cond (.t 12)
      (.region [⟨some 13, none, .mov (.t 3)⟩,
        ⟨some 14, none, .mov (.t 4)⟩,
        ⟨some 15, none, .bslice [(.int .i64 0)] [(0, 1, .t 14)] 1 1⟩,
        ⟨some 16, none, .app 1 8 (.t 13) (.t 15)⟩,
        ⟨some 3, none, .mov (.t 16)⟩]
        [1, 3, 4])
      .skip)) [1, 3, 4])
  (.region [⟨some 8, none, .mov (.t 4)⟩,
    ⟨some 9, none, .bin .add (.t 8) (.c (.int .i64 1))⟩,
    ⟨some 4, none, .mov (.t 9)⟩]
    [1, 3, 4])))
def RC.ref16_Cores : RFn := ⟨1, [.slot 2],
  (.seq (.region [⟨some 1, none, .box (.t 0)⟩,
    ⟨some 2, none, .mov (.c (.slice none 0 0))⟩]
    [1])
  (.seq (.region [⟨some 5, none, .bslice [] [] 0 1⟩,
    ⟨some 3, none, .mov (.t 5)⟩]
    [1, 3])
  (.seq (.seq (.region [⟨some 4, none, .mov (.c (.int .i64 0))⟩]
    [1, 3, 4])
  (.block 0
    (.loop [1, 3, 4] RB.ref16_Cores_1) [3]))
  (.seq (.region [⟨some 17, none, .mov (.t 3)⟩,
    ⟨some 2, none, .mov (.t 17)⟩]
    [2])
  .ret))))⟩

def RB.ref21_Most_1 : RCode :=
  (.seq (.seq (.region [⟨some 19, none, .mov (.t 10)⟩,
    ⟨some 20, none, .bin .lss (.t 19) (.c (.int .i64 64))⟩]
    [0, 1, 2, 7, 8, 9, 10, 20])
  (.cond (.t 20)
    .skip
    (.exit 2)))
  (.seq (.block 3
    (.seq (.region [⟨some 23, none, .mov (.t 0)⟩,
      ⟨some 24, none, .mov (.t 8)⟩,
      ⟨some 25, none, .idxS 1 (.t 23) (.t 24)⟩,
      ⟨some 26, none, .load false 1 (.t 25)⟩,
      ⟨some 27, none, .mov (.t 10)⟩,
      ⟨some 28, none, .call F.ref04_Has [.t 26, .t 27]⟩]
      [0, 1, 2, 7, 8, 9, 10, 28])
    (.cond (.t 28)
      (.region [⟨some 29, none, .mov (.t 9)⟩,
        ⟨some 30, none, .mov (.t 10)⟩,
        ⟨some 31, none, .call F.ref04_With [.t 29, .t 30]⟩,
        ⟨some 9, none, .mov (.t 31)⟩]
        [0, 1, 2, 7, 8, 9, 10])
      .skip)) [0, 1, 2, 7, 8, 9, 10])
  (.region [⟨some 21, none, .mov (.t 10)⟩,
    ⟨some 22, none, .bin .add (.t 21) (.c (.int .i64 1))⟩,
    ⟨some 10, none, .mov (.t 22)⟩]
    [0, 1, 2, 7, 8, 9, 10])))
def RB.ref21_Most_2 : RCode :=
  (.seq (.seq (.region [⟨some 12, none, .mov (.t 8)⟩,
    ⟨some 13, none, .mov (.t 0)⟩,
    ⟨some 14, none, .len (.t 13)⟩,
    ⟨some 15, none, .bin .lss (.t 12) (.t 14)⟩]
    [0, 1, 2, 7, 8, 15])
  (.cond (.t 15)
    .skip
    (.exit 0)))
  (.seq (.block 1
    (.seq (.region [⟨some 9, none, .mov (.c (u64 0#64))⟩]
      [0, 1, 2, 7, 8, 9])
    (.seq (.seq (.region [⟨some 18, none, .mov (.t 2)⟩,
      ⟨some 10, none, .mov (.t 18)⟩]
      [0, 1, 2, 7, 8, 9, 10])
    (.block 2
      (.loop [0, 1, 2, 7, 8, 9, 10] RB.ref21_Most_1) [0, 1, 2, 7, 8, 9]))
    (.region [⟨some 32, none, .mov (.t 7)⟩,
      ⟨some 33, none, .mov (.t 9)⟩,
      ⟨some 34, none, .bslice [(u64 0#64)] [(0, 1, .t 33)] 1 1⟩,
      ⟨some 35, none, .app 1 8 (.t 32) (.t 34)⟩,
      ⟨some 7, none, .mov (.t 35)⟩]
      [0, 1, 2, 7, 8]))) [0, 1, 2, 7, 8])
  (.region [⟨some 16, none, .mov (.t 8)⟩,
    ⟨some 17, none, .bin .add (.t 16) (.c (.int .i64 1))⟩,
    ⟨some 8, none, .mov (.t 17)⟩]
    [0, 1, 2, 7, 8])))
def RC.ref21_Most : RFn := ⟨3, [.slot 6],
  (.seq (.region [⟨some 6, none, .mov (.c (.int .i64 0))⟩]
    [0, 1, 2])
  (.seq (.region [⟨some 11, none, .bslice [] [] 0 1⟩,
    ⟨some 7, none, .mov (.t 11)⟩]
    [0, 1, 2, 7])
  (.seq (.seq (.region [⟨some 8, none, .mov (.c (.int .i64 0))⟩]
    [0, 1, 2, 7, 8])
  (.block 0
    (.loop [0, 1, 2, 7, 8] RB.ref21_Most_2) [1, 7]))
  (.seq (.region [⟨some 36, none, .mov (.t 7)⟩,
    ⟨some 37, none, .mov (.t 1)⟩,
    ⟨some 38, none, .call F.ref21_least [.t 36, .t 37, .c (.int .i64 0), .c (u64 0#64), .c (.int .i64 0)]⟩,
    ⟨some 6, none, .mov (.t 38)⟩]
    [6])
  .ret))))⟩

def RB.ref21_Gaps_1 : RCode :=
  (.seq (.seq (.region [⟨some 7, none, .mov (.t 4)⟩,
    ⟨some 8, none, .bin .lss (.t 7) (.c (.int .i64 16))⟩]
    [1, 3, 4, 8])
  (.cond (.t 8)
    .skip
    (.exit 0)))
  (.seq (.block 1
    (.seq (.region [⟨some 5, none, .mov (.c (u64 0#64))⟩]
      [1, 3, 4, 5])
    (.seq (.seq (.region [⟨some 11, none, .load true 3 (.t 1)⟩,
      ⟨some 12, none, .mov (.t 4)⟩,
      ⟨some 13, none, .call F.ref16_Has [.t 11, .t 12]⟩]
      [1, 3, 4, 5, 13])
    (.cond (.t 13)
      (.drawn [⟨some 14, none, .fieldAddr 0 (.t 1)⟩,
        ⟨some 15, none, .load false 1 (.t 14)⟩,
        ⟨some 16, none, .call F.ref04_All [.t 15]⟩,
        ⟨some 17, none, .load true 3 (.t 1)⟩,
        ⟨some 18, none, .mov (.t 4)⟩,
        ⟨some 19, none, .call F.ref16_Windows [.t 17, .t 18]⟩,
        ⟨some 20, none, .bin .sub (.t 16) (.t 19)⟩,
        ⟨some 5, none, .mov (.t 20)⟩]
        [[], [0], [1], [], [], [3, 4, 2], [2, 5], [6, 5, 0, 1, 2, 3, 4, 5, 6]]
        [(0, []), (4, []), (1, []), (3, []), (2, [1]), (5, []), (6, []), (7, [])]
        [[], [0], [0, 1], [], [], [0, 1, 2, 3, 4], [0, 1, 2, 3, 4, 5], [0, 1, 2, 3, 4, 5, 6]]
        [1, 3, 4, 5])
      .skip))
    (.region [⟨some 21, none, .mov (.t 3)⟩,
      ⟨some 22, none, .mov (.t 5)⟩,
      ⟨some 23, none, .bslice [(u64 0#64)] [(0, 1, .t 22)] 1 1⟩,
      ⟨some 24, none, .app 1 8 (.t 21) (.t 23)⟩,
      ⟨some 3, none, .mov (.t 24)⟩]
      [1, 3, 4]))) [1, 3, 4])
  (.region [⟨some 9, none, .mov (.t 4)⟩,
    ⟨some 10, none, .bin .add (.t 9) (.c (.int .i64 1))⟩,
    ⟨some 4, none, .mov (.t 10)⟩]
    [1, 3, 4])))
def RC.ref21_Gaps : RFn := ⟨1, [.slot 2],
  (.seq (.region [⟨some 1, none, .box (.t 0)⟩,
    ⟨some 2, none, .mov (.c (.slice none 0 0))⟩]
    [1])
  (.seq (.region [⟨some 6, none, .bslice [] [] 0 1⟩,
    ⟨some 3, none, .mov (.t 6)⟩]
    [1, 3])
  (.seq (.seq (.region [⟨some 4, none, .mov (.c (.int .i64 0))⟩]
    [1, 3, 4])
  (.block 0
    (.loop [1, 3, 4] RB.ref21_Gaps_1) [3]))
  (.seq (.region [⟨some 25, none, .mov (.t 3)⟩,
    ⟨some 2, none, .mov (.t 25)⟩]
    [2])
  .ret))))⟩

def RB.ref21_Rooms_1 : RCode :=
  (.seq (.seq (.region [⟨some 6, none, .mov (.t 4)⟩,
    ⟨some 7, none, .bin .lss (.t 6) (.c (.int .i64 16))⟩]
    [1, 3, 4, 7])
  (.cond (.t 7)
    .skip
    (.exit 0)))
  (.seq (.block 1
    (.region [⟨some 10, none, .mov (.t 3)⟩,
      ⟨some 11, none, .load true 3 (.t 1)⟩,
      ⟨some 12, none, .mov (.t 4)⟩,
      ⟨some 13, none, .call F.ref16_Room [.t 11, .t 12]⟩,
      ⟨some 14, none, .bslice [(.int .i64 0)] [(0, 1, .t 13)] 1 1⟩,
      ⟨some 15, none, .app 1 8 (.t 10) (.t 14)⟩,
      ⟨some 3, none, .mov (.t 15)⟩]
      [1, 3, 4]) [1, 3, 4])
  (.region [⟨some 8, none, .mov (.t 4)⟩,
    ⟨some 9, none, .bin .add (.t 8) (.c (.int .i64 1))⟩,
    ⟨some 4, none, .mov (.t 9)⟩]
    [1, 3, 4])))
def RC.ref21_Rooms : RFn := ⟨1, [.slot 2],
  (.seq (.region [⟨some 1, none, .box (.t 0)⟩,
    ⟨some 2, none, .mov (.c (.slice none 0 0))⟩]
    [1])
  (.seq (.region [⟨some 5, none, .bslice [] [] 0 1⟩,
    ⟨some 3, none, .mov (.t 5)⟩]
    [1, 3])
  (.seq (.seq (.region [⟨some 4, none, .mov (.c (.int .i64 0))⟩]
    [1, 3, 4])
  (.block 0
    (.loop [1, 3, 4] RB.ref21_Rooms_1) [3]))
  (.seq (.region [⟨some 16, none, .mov (.t 3)⟩,
    ⟨some 2, none, .mov (.t 16)⟩]
    [2])
  .ret))))⟩

def RB.weave_Place_1 : RCode :=
  (.seq (.region [⟨some 79, none, .bin .lss (.t 78) (.t 77)⟩]
    [4, 8, 12, 76, 77, 78, 79])
  (.seq (.cond (.t 79)
    .skip
    (.exit 2))
  (.seq (.block 3
    (.seq (.region [⟨some 80, none, .mov (.t 78)⟩,
      ⟨some 81, none, .idxS 1 (.t 76) (.t 78)⟩,
      ⟨some 82, none, .load false 1 (.t 81)⟩,
      ⟨some 13, none, .mov (.t 80)⟩,
      ⟨some 14, none, .mov (.t 82)⟩]
      [4, 8, 12, 13, 14, 76, 77, 78])
    (.seq (.region [⟨some 83, none, .mov (.t 8)⟩,
      ⟨some 84, none, .mov (.t 13)⟩,
      ⟨some 85, none, .idxS 1 (.t 83) (.t 84)⟩,
      ⟨some 86, none, .load false 1 (.t 85)⟩,
      ⟨some 87, none, .bin .neq (.t 86) (.c (u64 0#64))⟩]
      [4, 8, 12, 13, 14, 76, 77, 78, 87])
    (.cond (.t 87)
      (.drawn [⟨some 88, none, .fieldAddr 3 (.t 12)⟩,
        ⟨some 89, none, .load false 1 (.t 88)⟩,
        ⟨some 90, none, .mov (.t 14)⟩,
        ⟨some 91, none, .mov (.t 8)⟩,
        ⟨some 92, none, .mov (.t 13)⟩,
        ⟨some 93, none, .idxS 1 (.t 91) (.t 92)⟩,
        ⟨some 94, none, .load false 1 (.t 93)⟩,
        ⟨some 95, none, .build [(.int .i64 0), (u64 0#64)] [(0, 1, .t 90), (1, 1, .t 94)]⟩,
        ⟨some 96, none, .bslice [(.int .i64 0), (u64 0#64)] [(0, 2, .t 95)] 1 2⟩,
        ⟨some 97, none, .app 2 16 (.t 89) (.t 96)⟩,
        ⟨some 98, none, .fieldAddr 3 (.t 12)⟩,
        ⟨none, none, .store 1 (.t 98) (.t 97)⟩]
        [[], [0], [], [], [], [3, 4], [5], [2, 6], [7], [1, 8], [0, 1, 2, 3, 4, 5, 6, 7, 8, 9], [10, 9, 9, 0, 1, 2, 3, 4, 5, 6, 7, 8, 9]]
        [(0, []), (2, []), (3, []), (4, []), (5, []), (1, []), (6, []), (7, []), (8, []), (9, []), (10, []), (11, [])]
        [[], [0], [], [], [], [3, 4], [3, 4, 5], [2, 3, 4, 5, 6], [2, 3, 4, 5, 6, 7], [0, 1, 2, 3, 4, 5, 6, 7, 8], [0, 1, 2, 3, 4, 5, 6, 7, 8, 9], [0, 1, 2, 3, 4, 5, 6, 7, 8, 9, 10]]
        [4, 8, 12, 76, 77, 78])
      .skip))) [4, 8, 12, 76, 77, 78])
  (.region [⟨some 99, none, .bin .add (.t 78) (.c (.int .i64 1))⟩,
    ⟨some 78, none, .mov (.t 99)⟩]
    [4, 8, 12, 76, 77, 78]))))
def RB.weave_Place_2 : RCode :=
  (.seq (.seq (.region [⟨some 40, none, .mov (.t 10)⟩,
    ⟨some 41, none, .mov (.t 7)⟩,
    ⟨some 42, none, .nilchk (.t 41)⟩,
    ⟨some 43, none, .fieldAddr 0 (.t 42)⟩,
    ⟨some 44, none, .load false 1 (.t 43)⟩,
    ⟨some 45, none, .bin .lss (.t 40) (.t 44)⟩,
    ⟨some 46, none, .mov (.t 45)⟩,
    ⟨some 47, some (46, true), .mov (.t 9)⟩,
    ⟨some 48, some (46, true), .bin .gtr (.t 47) (.c (.int .i64 0))⟩,
    ⟨some 49, none, .pick (.t 46) (.t 48) (.c (.bool false))⟩]
    [3, 4, 7, 8, 9, 10, 49])
  (.cond (.t 49)
    .skip
    (.exit 0)))
  (.seq (.block 1
    (.seq (.region [⟨some 52, none, .mov (.t 7)⟩,
      ⟨some 53, none, .mov (.t 10)⟩,
      ⟨some 54, none, .mov (.t 9)⟩,
      ⟨some 55, none, .call F.weave_loom_give [.t 52, .t 53, .t 54]⟩,
      ⟨some 11, none, .mov (.t 55)⟩]
      [3, 4, 7, 8, 9, 10, 11])
    (.seq (.region [⟨some 56, none, .mov (.t 11)⟩,
      ⟨some 57, none, .bin .geq (.t 56) (.c (.int .i64 0))⟩]
      [3, 4, 7, 8, 9, 10, 11, 57])
    (.cond (.t 57)
      (.seq (.drawn [⟨some 58, none, .mov (.t 8)⟩,
        ⟨some 59, none, .mov (.t 11)⟩,
        ⟨some 60, none, .idxS 1 (.t 58) (.t 59)⟩,
        ⟨some 61, none, .load false 1 (.t 60)⟩,
        ⟨some 62, none, .mov (.t 10)⟩,
        ⟨some 63, none, .bin .shl (.c (u64 1#64)) (.t 62)⟩,
        ⟨some 64, none, .bin .or (.t 61) (.t 63)⟩,
        ⟨some 65, none, .idxS 1 (.t 58) (.t 59)⟩,
        ⟨none, none, .store 1 (.t 65) (.t 64)⟩]
        [[], [], [0, 1], [2], [], [4], [3, 5], [0, 1, 0, 1, 2, 3, 4, 5, 6], [7, 6, 0, 1, 2, 3, 4, 5, 6]]
        [(0, []), (1, []), (2, []), (4, []), (5, []), (3, []), (6, []), (7, []), (8, [])]
        [[], [], [0, 1], [0, 1, 2], [], [4], [0, 1, 2, 3, 4, 5], [0, 1, 2, 3, 4, 5, 6], [0, 1, 2, 3, 4, 5, 6, 7]]
        [3, 4, 7, 8, 9, 10])
      (.region [⟨some 66, none, .mov (.t 9)⟩,
        ⟨some 67, none, .bin .sub (.t 66) (.c (.int .i64 1))⟩,
        ⟨some 9, none, .mov (.t 67)⟩]
        [3, 4, 7, 8, 9, 10]))
      .skip))) [3, 4, 7, 8, 9, 10])
  (.region [⟨some 50, none, .mov (.t 10)⟩,
    ⟨some 51, none, .bin .add (.t 50) (.c (.int .i64 1))⟩,
    ⟨some 10, none, .mov (.t 51)⟩]
    [3, 4, 7, 8, 9, 10])))
def RC.weave_Place : RFn := ⟨2, [.cell 4 true 4, .slot 5],
  (.seq (.region [⟨some 2, none, .box (.t 0)⟩,
    ⟨some 3, none, .box (.t 1)⟩,
    ⟨some 4, none, .alloc [(.int .i64 0), (.int .i64 0), (.int .i64 0), (.slice none 0 0)]⟩,
    ⟨some 5, none, .mov (.c (.int .i64 0))⟩]
    [2, 3, 4])
  (.seq (.seq (.region [⟨some 15, none, .load true 3 (.t 2)⟩,
    ⟨some 16, none, .load true 2 (.t 3)⟩,
    ⟨some 17, none, .call F.weave_why [.t 15, .t 16]⟩,
    ⟨some 6, none, .mov (.t 17)⟩]
    [2, 3, 4, 6])
  (.seq (.region [⟨some 18, none, .mov (.t 6)⟩,
    ⟨some 19, none, .bin .neq (.t 18) (.c (.int .i64 0))⟩]
    [2, 3, 4, 6, 19])
  (.cond (.t 19)
    (.seq (.region [⟨some 20, none, .build [(.int .i64 0), (.int .i64 0), (.int .i64 0), (.slice none 0 0)] []⟩,
      ⟨some 21, none, .mov (.t 6)⟩,
      ⟨none, none, .store 4 (.t 4) (.t 20)⟩,
      ⟨some 5, none, .mov (.t 21)⟩]
      [4, 5])
    .ret)
    .skip)))
  (.seq (.region [⟨some 22, none, .load true 3 (.t 2)⟩,
    ⟨some 23, none, .call F.weave_begin [.t 22]⟩,
    ⟨some 7, none, .mov (.t 23)⟩]
    [3, 4, 7])
  (.seq (.seq (.drawn [⟨some 24, none, .mov (.t 7)⟩,
    ⟨some 25, none, .fieldAddr 1 (.t 3)⟩,
    ⟨some 26, none, .load false 1 (.t 25)⟩,
    ⟨some 27, none, .call F.weave_loom_most [.t 24, .c (.int .i64 0), .t 26]⟩,
    ⟨some 28, none, .fieldAddr 1 (.t 3)⟩,
    ⟨some 29, none, .load false 1 (.t 28)⟩,
    ⟨some 30, none, .bin .lss (.t 27) (.t 29)⟩]
    [[], [], [1], [0, 2], [], [4], [3, 5]]
    [(0, []), (1, []), (4, []), (2, []), (5, []), (3, [28]), (6, [])]
    [[], [], [1], [0, 1, 2], [], [4], [0, 1, 2, 3, 4, 5]]
    [3, 4, 7, 30])
  (.cond (.t 30)
    (.seq (.region [⟨some 31, none, .build [(.int .i64 0), (.int .i64 0), (.int .i64 0), (.slice none 0 0)] []⟩,
      ⟨none, none, .store 4 (.t 4) (.t 31)⟩,
      ⟨some 5, none, .mov (.c (.int .i64 12))⟩]
      [4, 5])
    .ret)
    .skip))
  (.seq (.region [⟨some 32, none, .mov (.t 7)⟩,
    ⟨some 33, none, .nilchk (.t 32)⟩,
    ⟨some 34, none, .fieldAddr 1 (.t 33)⟩,
    ⟨some 35, none, .load false 1 (.t 34)⟩,
    ⟨some 36, none, .len (.t 35)⟩,
    ⟨some 37, none, .mkslice 1 8 [(u64 0#64)] (.t 36) (.t 36)⟩,
    ⟨some 8, none, .mov (.t 37)⟩]
    [3, 4, 7, 8])
  (.seq (.region [⟨some 38, none, .fieldAddr 1 (.t 3)⟩,
    ⟨some 39, none, .load false 1 (.t 38)⟩,
    ⟨some 9, none, .mov (.t 39)⟩]
    [3, 4, 7, 8, 9])
  (.seq (.seq (.region [⟨some 10, none, .mov (.c (.int .i64 0))⟩]
    [3, 4, 7, 8, 9, 10])
  (.block 0
    (.loop [3, 4, 7, 8, 9, 10] RB.weave_Place_2) [3, 4, 7, 8]))
  (.seq (.region [⟨some 68, none, .fieldAddr 0 (.t 3)⟩,
    ⟨some 69, none, .load false 1 (.t 68)⟩,
    ⟨some 70, none, .fieldAddr 1 (.t 3)⟩,
    ⟨some 71, none, .load false 1 (.t 70)⟩,
    ⟨some 72, none, .build [(.int .i64 0), (.int .i64 0), (.int .i64 0), (.slice none 0 0)] [(0, 1, .t 69), (1, 1, .t 71)]⟩,
    ⟨some 12, none, .alloc [(.int .i64 0), (.int .i64 0), (.int .i64 0), (.slice none 0 0)]⟩,
    ⟨none, none, .store 4 (.t 12) (.t 72)⟩]
    [4, 7, 8, 12])
  (.seq (.seq (.region [⟨some 73, none, .mov (.t 7)⟩,
    ⟨some 74, none, .nilchk (.t 73)⟩,
    ⟨some 75, none, .fieldAddr 1 (.t 74)⟩,
    ⟨some 76, none, .load false 1 (.t 75)⟩,
    ⟨some 77, none, .len (.t 76)⟩,
    ⟨some 78, none, .mov (.c (.int .i64 0))⟩]
    [4, 8, 12, 76, 77, 78])
  (.block 2
    (.loop [4, 8, 12, 76, 77, 78] RB.weave_Place_1) [4, 12]))
  (.seq (.region [⟨some 100, none, .load true 4 (.t 12)⟩,
    ⟨none, none, .store 4 (.t 4) (.t 100)⟩,
    ⟨some 5, none, .mov (.c (.int .i64 0))⟩]
    [4, 5])
  .ret))))))))))⟩

def RB.ref16_SamePlace_1 : RCode :=
  (.seq (.seq (.region [⟨some 34, none, .mov (.t 5)⟩,
    ⟨some 35, none, .fieldAddr 3 (.t 2)⟩,
    ⟨some 36, none, .load false 1 (.t 35)⟩,
    ⟨some 37, none, .len (.t 36)⟩,
    ⟨some 38, none, .bin .lss (.t 34) (.t 37)⟩]
    [2, 3, 5, 38])
  (.cond (.t 38)
    .skip
    (.exit 0)))
  (.seq (.block 1
    (.seq (.drawn [⟨some 41, none, .fieldAddr 3 (.t 2)⟩,
      ⟨some 42, none, .load false 1 (.t 41)⟩,
      ⟨some 43, none, .mov (.t 5)⟩,
      ⟨some 44, none, .idxS 2 (.t 42) (.t 43)⟩,
      ⟨some 45, none, .load true 2 (.t 44)⟩,
      ⟨some 46, none, .fieldAddr 3 (.t 3)⟩,
      ⟨some 47, none, .load false 1 (.t 46)⟩,
      ⟨some 48, none, .mov (.t 5)⟩,
      ⟨some 49, none, .idxS 2 (.t 47) (.t 48)⟩,
      ⟨some 50, none, .load true 2 (.t 49)⟩,
      ⟨some 51, none, .eq true (.flat [.int, .int]) (.t 45) (.t 50)⟩]
      [[], [0], [], [1, 2], [3], [], [5], [], [6, 7], [8], [4, 9]]
      [(0, []), (2, []), (5, []), (7, []), (1, []), (3, []), (4, []), (6, []), (8, []), (9, []), (10, [])]
      [[], [0], [], [0, 1, 2], [0, 1, 2, 3], [], [5], [], [5, 6, 7], [5, 6, 7, 8], [0, 1, 2, 3, 4, 5, 6, 7, 8, 9]]
      [2, 3, 5, 51])
    (.cond (.t 51)
      (.seq (.region [⟨some 4, none, .mov (.c (.bool false))⟩]
        [4])
      .ret)
      .skip)) [2, 3, 5])
  (.region [⟨some 39, none, .mov (.t 5)⟩,
    ⟨some 40, none, .bin .add (.t 39) (.c (.int .i64 1))⟩,
    ⟨some 5, none, .mov (.t 40)⟩]
    [2, 3, 5])))
def RC.ref16_SamePlace : RFn := ⟨2, [.slot 4],
  (.seq (.region [⟨some 2, none, .box (.t 0)⟩,
    ⟨some 3, none, .box (.t 1)⟩,
    ⟨some 4, none, .mov (.c (.bool false))⟩]
    [2, 3])
  (.seq (.seq (.region [⟨some 6, none, .fieldAddr 0 (.t 2)⟩,
    ⟨some 7, none, .load false 1 (.t 6)⟩,
    ⟨some 8, none, .fieldAddr 0 (.t 3)⟩,
    ⟨some 9, none, .load false 1 (.t 8)⟩,
    ⟨some 10, none, .bin .neq (.t 7) (.t 9)⟩,
    ⟨some 11, none, .mov (.t 10)⟩,
    ⟨some 12, some (11, false), .fieldAddr 1 (.t 2)⟩,
    ⟨some 13, some (11, false), .load false 1 (.t 12)⟩,
    ⟨some 14, some (11, false), .fieldAddr 1 (.t 3)⟩,
    ⟨some 15, some (11, false), .load false 1 (.t 14)⟩,
    ⟨some 16, some (11, false), .bin .neq (.t 13) (.t 15)⟩,
    ⟨some 17, none, .pick (.t 11) (.c (.bool true)) (.t 16)⟩,
    ⟨some 18, none, .mov (.t 17)⟩,
    ⟨some 19, some (18, false), .fieldAddr 2 (.t 2)⟩,
    ⟨some 20, some (18, false), .load false 1 (.t 19)⟩,
    ⟨some 21, some (18, false), .fieldAddr 2 (.t 3)⟩,
    ⟨some 22, some (18, false), .load false 1 (.t 21)⟩,
    ⟨some 23, some (18, false), .bin .neq (.t 20) (.t 22)⟩,
    ⟨some 24, none, .pick (.t 18) (.c (.bool true)) (.t 23)⟩,
    ⟨some 25, none, .mov (.t 24)⟩,
    ⟨some 26, some (25, false), .fieldAddr 3 (.t 2)⟩,
    ⟨some 27, some (25, false), .load false 1 (.t 26)⟩,
    ⟨some 28, some (25, false), .len (.t 27)⟩,
    ⟨some 29, some (25, false), .fieldAddr 3 (.t 3)⟩,
    ⟨some 30, some (25, false), .load false 1 (.t 29)⟩,
    ⟨some 31, some (25, false), .len (.t 30)⟩,
    ⟨some 32, some (25, false), .bin .neq (.t 28) (.t 31)⟩,
    ⟨some 33, none, .pick (.t 25) (.c (.bool true)) (.t 32)⟩]
    [2, 3, 33])
  (.cond (.t 33)
    (.seq (.region [⟨some 4, none, .mov (.c (.bool false))⟩]
      [4])
    .ret)
    .skip))
  (.seq (.seq (.region [⟨some 5, none, .mov (.c (.int .i64 0))⟩]
    [2, 3, 5])
  (.block 0
    (.loop [2, 3, 5] RB.ref16_SamePlace_1) []))
  (.seq (.region [⟨some 4, none, .mov (.c (.bool true))⟩]
    [4])
  .ret))))⟩

def RC.law21_small : RFn := ⟨1, [.slot 2],
  (.seq (.region [⟨some 1, none, .box (.t 0)⟩,
    ⟨some 2, none, .mov (.c (.bool false))⟩]
    [1])
  (.seq (.region [⟨some 3, none, .load true 3 (.t 1)⟩,
    ⟨some 4, none, .call F.law16_Light [.t 3]⟩,
    ⟨some 5, none, .mov (.t 4)⟩,
    ⟨some 6, some (5, true), .load true 3 (.t 1)⟩,
    ⟨some 7, some (5, true), .call F.ref16_Right [.t 6]⟩,
    ⟨some 8, none, .pick (.t 5) (.t 7) (.c (.bool false))⟩,
    ⟨some 9, none, .mov (.t 8)⟩,
    ⟨some 10, some (9, true), .load true 3 (.t 1)⟩,
    ⟨some 11, some (9, true), .call F.ref16_Cores [.t 10]⟩,
    ⟨some 12, some (9, true), .len (.t 11)⟩,
    ⟨some 13, some (9, true), .bin .leq (.t 12) (.c (.int .i64 5))⟩,
    ⟨some 14, none, .pick (.t 9) (.t 13) (.c (.bool false))⟩,
    ⟨some 15, none, .mov (.t 14)⟩,
    ⟨some 16, some (15, true), .fieldAddr 0 (.t 1)⟩,
    ⟨some 17, some (15, true), .load false 1 (.t 16)⟩,
    ⟨some 18, some (15, true), .bin .leq (.t 17) (.c (.int .i64 16))⟩,
    ⟨some 19, none, .pick (.t 15) (.t 18) (.c (.bool false))⟩,
    ⟨some 2, none, .mov (.t 19)⟩]
    [2])
  .ret))⟩

def RC.ref21_Why : RFn := ⟨2, [.slot 4],
  (.seq (.region [⟨some 2, none, .box (.t 0)⟩,
    ⟨some 3, none, .box (.t 1)⟩,
    ⟨some 4, none, .mov (.c (.int .i64 0))⟩]
    [2, 3])
  (.seq (.region [⟨some 6, none, .load true 3 (.t 2)⟩,
    ⟨some 7, none, .load true 2 (.t 3)⟩,
    ⟨some 8, none, .bslice [(.int .i64 0), (.int .i64 0)] [(0, 2, .t 7)] 1 2⟩,
    ⟨some 9, none, .call F.ref18_Why [.t 6, .t 8]⟩,
    ⟨some 5, none, .mov (.t 9)⟩]
    [2, 3, 5])
  (.seq (.seq (.region [⟨some 10, none, .mov (.t 5)⟩,
    ⟨some 11, none, .bin .neq (.t 10) (.c (.int .i64 0))⟩]
    [2, 3, 5, 11])
  (.cond (.t 11)
    (.seq (.region [⟨some 12, none, .mov (.t 5)⟩,
      ⟨some 4, none, .mov (.t 12)⟩]
      [4])
    .ret)
    .skip))
  (.seq (.seq (.drawn [⟨some 13, none, .load true 3 (.t 2)⟩,
    ⟨some 14, none, .fieldAddr 1 (.t 3)⟩,
    ⟨some 15, none, .load false 1 (.t 14)⟩,
    ⟨some 16, none, .call F.ref18_First [.t 13, .t 15]⟩,
    ⟨some 17, none, .bin .geq (.t 16) (.c (.int .i64 0))⟩,
    ⟨some 18, none, .mov (.t 17)⟩,
    ⟨some 19, some (18, false), .load true 3 (.t 2)⟩,
    ⟨some 20, some (18, false), .call F.ref16_Splits [.t 19]⟩,
    ⟨some 21, some (18, false), .bin .add (.t 20) (.c (.int .i64 1))⟩,
    ⟨some 22, some (18, false), .load true 3 (.t 2)⟩,
    ⟨some 23, some (18, false), .call F.ref16_Cores [.t 22]⟩,
    ⟨some 24, some (18, false), .len (.t 23)⟩,
    ⟨some 25, some (18, false), .bin .geq (.t 21) (.t 24)⟩,
    ⟨some 26, none, .pick (.t 18) (.c (.bool true)) (.t 25)⟩]
    [[], [], [1], [0, 2], [3], [4, 3], [5], [6, 5, 5], [7, 5], [5], [9, 7, 5], [10, 5], [8, 11, 5], [5, 12]]
    [(1, []), (0, []), (2, []), (3, []), (4, []), (5, []), (6, []), (9, []), (7, [2]), (8, []), (10, []), (11, []), (12, []), (13, [])]
    [[], [], [1], [0, 1, 2], [0, 1, 2, 3], [0, 1, 2, 3, 4], [0, 1, 2, 3, 4, 5], [0, 1, 2, 3, 4, 5, 6], [0, 1, 2, 3, 4, 5, 6, 7], [0, 1, 2, 3, 4, 5], [0, 1, 2, 3, 4, 5, 6, 7, 9], [0, 1, 2, 3, 4, 5, 6, 7, 9, 10], [0, 1, 2, 3, 4, 5, 6, 7, 8, 9, 10, 11], [0, 1, 2, 3, 4, 5, 6, 7, 8, 9, 10, 11, 12]]
    [2, 3, 26])
  (.cond (.t 26)
    (.seq (.region [⟨some 4, none, .mov (.c (.int .i64 15))⟩]
      [4])
    .ret)
    .skip))
  (.seq (.seq (.drawn [⟨some 27, none, .load true 3 (.t 2)⟩,
    ⟨some 28, none, .call F.ref21_Gaps [.t 27]⟩,
    ⟨some 29, none, .load true 3 (.t 2)⟩,
    ⟨some 30, none, .call F.ref21_Rooms [.t 29]⟩,
    ⟨some 31, none, .call F.ref21_Most [.t 28, .t 30, .c (.int .i64 0)]⟩,
    ⟨some 32, none, .fieldAddr 1 (.t 3)⟩,
    ⟨some 33, none, .load false 1 (.t 32)⟩,
    ⟨some 34, none, .bin .lss (.t 31) (.t 33)⟩]
    [[], [0], [], [2, 1], [1, 3, 3], [], [5], [4, 6]]
    [(5, []), (0, []), (2, []), (6, []), (1, [2, 32]), (3, [32]), (4, [32]), (7, [])]
    [[], [0], [], [0, 1, 2], [0, 1, 2, 3], [], [5], [0, 1, 2, 3, 4, 5, 6]]
    [34])
  (.cond (.t 34)
    (.seq (.region [⟨some 4, none, .mov (.c (.int .i64 12))⟩]
      [4])
    .ret)
    .skip))
  (.seq (.region [⟨some 4, none, .mov (.c (.int .i64 0))⟩]
    [4])
  .ret))))))⟩

def RB.ref21_Place_1 : RCode :=
  (.seq (.seq (.region [⟨some 84, none, .mov (.t 12)⟩,
    ⟨some 85, none, .bin .lss (.t 84) (.c (.int .i64 16))⟩]
    [4, 7, 11, 12, 85])
  (.cond (.t 85)
    .skip
    (.exit 4)))
  (.seq (.block 5
    (.seq (.region [⟨some 88, none, .mov (.t 7)⟩,
      ⟨some 89, none, .mov (.t 12)⟩,
      ⟨some 90, none, .idxS 1 (.t 88) (.t 89)⟩,
      ⟨some 91, none, .load false 1 (.t 90)⟩,
      ⟨some 92, none, .bin .neq (.t 91) (.c (u64 0#64))⟩]
      [4, 7, 11, 12, 92])
    (.cond (.t 92)
      (.drawn [⟨some 93, none, .fieldAddr 3 (.t 11)⟩,
        ⟨some 94, none, .load false 1 (.t 93)⟩,
        ⟨some 95, none, .mov (.t 12)⟩,
        ⟨some 96, none, .mov (.t 7)⟩,
        ⟨some 97, none, .mov (.t 12)⟩,
        ⟨some 98, none, .idxS 1 (.t 96) (.t 97)⟩,
        ⟨some 99, none, .load false 1 (.t 98)⟩,
        ⟨some 100, none, .build [(.int .i64 0), (u64 0#64)] [(0, 1, .t 95), (1, 1, .t 99)]⟩,
        ⟨some 101, none, .bslice [(.int .i64 0), (u64 0#64)] [(0, 2, .t 100)] 1 2⟩,
        ⟨some 102, none, .app 2 16 (.t 94) (.t 101)⟩,
        ⟨some 103, none, .fieldAddr 3 (.t 11)⟩,
        ⟨none, none, .store 1 (.t 103) (.t 102)⟩]
        [[], [0], [], [], [], [3, 4], [5], [2, 6], [7], [1, 8], [0, 1, 2, 3, 4, 5, 6, 7, 8, 9], [10, 9, 9, 0, 1, 2, 3, 4, 5, 6, 7, 8, 9]]
        [(0, []), (2, []), (3, []), (4, []), (5, []), (1, []), (6, []), (7, []), (8, []), (9, []), (10, []), (11, [])]
        [[], [0], [], [], [], [3, 4], [3, 4, 5], [2, 3, 4, 5, 6], [2, 3, 4, 5, 6, 7], [0, 1, 2, 3, 4, 5, 6, 7, 8], [0, 1, 2, 3, 4, 5, 6, 7, 8, 9], [0, 1, 2, 3, 4, 5, 6, 7, 8, 9, 10]]
        [4, 7, 11, 12])
      .skip)) [4, 7, 11, 12])
  (.region [⟨some 86, none, .mov (.t 12)⟩,
    ⟨some 87, none, .bin .add (.t 86) (.c (.int .i64 1))⟩,
    ⟨some 12, none, .mov (.t 87)⟩]
    [4, 7, 11, 12])))
def RB.ref21_Place_2 : RCode :=
  (.seq (.seq (.region [⟨some 26, none, .mov (.t 10)⟩,
    ⟨some 27, none, .bin .lss (.t 26) (.c (.int .i64 16))⟩,
    ⟨some 28, none, .mov (.t 27)⟩,
    ⟨some 29, some (28, true), .mov (.t 8)⟩,
    ⟨some 30, some (28, true), .bin .gtr (.t 29) (.c (.int .i64 0))⟩,
    ⟨some 31, none, .pick (.t 28) (.t 30) (.c (.bool false))⟩]
    [2, 3, 4, 5, 6, 7, 8, 9, 10, 31])
  (.cond (.t 31)
    .skip
    (.exit 2)))
  (.seq (.block 3
    (.seq (.seq (.region [⟨some 34, none, .mov (.t 6)⟩,
      ⟨some 35, none, .mov (.t 10)⟩,
      ⟨some 36, none, .idxS 1 (.t 34) (.t 35)⟩,
      ⟨some 37, none, .load false 1 (.t 36)⟩,
      ⟨some 38, none, .bin .eql (.t 37) (.c (.int .i64 0))⟩,
      ⟨some 39, none, .mov (.t 38)⟩,
      ⟨some 40, some (39, false), .mov (.t 5)⟩,
      ⟨some 41, some (39, false), .mov (.t 10)⟩,
      ⟨some 42, some (39, false), .idxS 1 (.t 40) (.t 41)⟩,
      ⟨some 43, some (39, false), .load false 1 (.t 42)⟩,
      ⟨some 44, some (39, false), .mov (.t 9)⟩,
      ⟨some 45, some (39, false), .call F.ref04_Has [.t 43, .t 44]⟩,
      ⟨some 46, some (39, false), .un .not (.t 45)⟩,
      ⟨some 47, none, .pick (.t 39) (.c (.bool true)) (.t 46)⟩]
      [2, 3, 4, 5, 6, 7, 8, 9, 10, 47])
    (.cond (.t 47)
      (.exit 3)
      .skip))
    (.seq (.region [⟨some 48, none, .mov (.t 6)⟩,
      ⟨some 49, none, .mov (.t 10)⟩,
      ⟨some 50, none, .idxS 1 (.t 48) (.t 49)⟩,
      ⟨some 51, none, .load false 1 (.t 50)⟩,
      ⟨some 52, none, .bin .sub (.t 51) (.c (.int .i64 1))⟩,
      ⟨some 53, none, .idxS 1 (.t 48) (.t 49)⟩,
      ⟨none, none, .store 1 (.t 53) (.t 52)⟩]
      [2, 3, 4, 5, 6, 7, 8, 9, 10])
    (.seq (.seq (.region [⟨some 54, none, .mov (.t 5)⟩,
      ⟨some 55, none, .mov (.t 6)⟩,
      ⟨some 56, none, .mov (.t 9)⟩,
      ⟨some 57, none, .bin .add (.t 56) (.c (.int .i64 1))⟩,
      ⟨some 58, none, .call F.ref21_Most [.t 54, .t 55, .t 57]⟩,
      ⟨some 59, none, .mov (.t 8)⟩,
      ⟨some 60, none, .bin .sub (.t 59) (.c (.int .i64 1))⟩,
      ⟨some 61, none, .bin .geq (.t 58) (.t 60)⟩]
      [2, 3, 4, 5, 6, 7, 8, 9, 10, 61])
    (.cond (.t 61)
      (.seq (.region [⟨some 62, none, .mov (.t 7)⟩,
        ⟨some 63, none, .mov (.t 10)⟩,
        ⟨some 64, none, .mov (.t 7)⟩,
        ⟨some 65, none, .mov (.t 10)⟩,
        ⟨some 66, none, .idxS 1 (.t 64) (.t 65)⟩,
        ⟨some 67, none, .load false 1 (.t 66)⟩,
        ⟨some 68, none, .mov (.t 9)⟩,
        ⟨some 69, none, .call F.ref04_With [.t 67, .t 68]⟩,
        ⟨some 70, none, .idxS 1 (.t 62) (.t 63)⟩,
        ⟨none, none, .store 1 (.t 70) (.t 69)⟩]
        [2, 3, 4, 5, 6, 7, 8, 9])
      (.seq (.region [⟨some 71, none, .mov (.t 8)⟩,
        ⟨some 72, none, .bin .sub (.t 71) (.c (.int .i64 1))⟩,
        ⟨some 8, none, .mov (.t 72)⟩]
        [2, 3, 4, 5, 6, 7, 8, 9])
      (.exit 2)))
      .skip))
    (.region [⟨some 73, none, .mov (.t 6)⟩,
      ⟨some 74, none, .mov (.t 10)⟩,
      ⟨some 75, none, .idxS 1 (.t 73) (.t 74)⟩,
      ⟨some 76, none, .load false 1 (.t 75)⟩,
      ⟨some 77, none, .bin .add (.t 76) (.c (.int .i64 1))⟩,
      ⟨some 78, none, .idxS 1 (.t 73) (.t 74)⟩,
      ⟨none, none, .store 1 (.t 78) (.t 77)⟩]
      [2, 3, 4, 5, 6, 7, 8, 9, 10])))) [2, 3, 4, 5, 6, 7, 8, 9, 10])
  (.region [⟨some 32, none, .mov (.t 10)⟩,
    ⟨some 33, none, .bin .add (.t 32) (.c (.int .i64 1))⟩,
    ⟨some 10, none, .mov (.t 33)⟩]
    [2, 3, 4, 5, 6, 7, 8, 9, 10])))
def RB.ref21_Place_3 : RCode :=
  (.seq (.seq (.region [⟨some 20, none, .mov (.t 9)⟩,
    ⟨some 21, none, .fieldAddr 0 (.t 2)⟩,
    ⟨some 22, none, .load false 1 (.t 21)⟩,
    ⟨some 23, none, .bin .lss (.t 20) (.t 22)⟩]
    [2, 3, 4, 5, 6, 7, 8, 9, 23])
  (.cond (.t 23)
    .skip
    (.exit 0)))
  (.seq (.block 1
    (.seq (.region [⟨some 10, none, .mov (.c (.int .i64 0))⟩]
      [2, 3, 4, 5, 6, 7, 8, 9, 10])
    (.block 2
      (.loop [2, 3, 4, 5, 6, 7, 8, 9, 10] RB.ref21_Place_2) [2, 3, 4, 5, 6, 7, 8, 9])) [2, 3, 4, 5, 6, 7, 8, 9])
  (.region [⟨some 24, none, .mov (.t 9)⟩,
    ⟨some 25, none, .bin .add (.t 24) (.c (.int .i64 1))⟩,
    ⟨some 9, none, .mov (.t 25)⟩]
    [2, 3, 4, 5, 6, 7, 8, 9])))
def RC.ref21_Place : RFn := ⟨2, [.cell 4 true 4],
  (.seq (.region [⟨some 2, none, .box (.t 0)⟩,
    ⟨some 3, none, .box (.t 1)⟩,
    ⟨some 4, none, .alloc [(.int .i64 0), (.int .i64 0), (.int .i64 0), (.slice none 0 0)]⟩]
    [2, 3, 4])
  (.seq (.region [⟨some 13, none, .load true 3 (.t 2)⟩,
    ⟨some 14, none, .call F.ref21_Gaps [.t 13]⟩,
    ⟨some 5, none, .mov (.t 14)⟩]
    [2, 3, 4, 5])
  (.seq (.region [⟨some 15, none, .load true 3 (.t 2)⟩,
    ⟨some 16, none, .call F.ref21_Rooms [.t 15]⟩,
    ⟨some 6, none, .mov (.t 16)⟩]
    [2, 3, 4, 5, 6])
  (.seq (.region [⟨some 17, none, .mkslice 1 8 [(u64 0#64)] (.c (.int .i64 16)) (.c (.int .i64 16))⟩,
    ⟨some 7, none, .mov (.t 17)⟩]
    [2, 3, 4, 5, 6, 7])
  (.seq (.region [⟨some 18, none, .fieldAddr 1 (.t 3)⟩,
    ⟨some 19, none, .load false 1 (.t 18)⟩,
    ⟨some 8, none, .mov (.t 19)⟩]
    [2, 3, 4, 5, 6, 7, 8])
  (.seq (.seq (.region [⟨some 9, none, .mov (.c (.int .i64 0))⟩]
    [2, 3, 4, 5, 6, 7, 8, 9])
  (.block 0
    (.loop [2, 3, 4, 5, 6, 7, 8, 9] RB.ref21_Place_3) [3, 4, 7]))
  (.seq (.region [⟨some 79, none, .fieldAddr 0 (.t 3)⟩,
    ⟨some 80, none, .load false 1 (.t 79)⟩,
    ⟨some 81, none, .fieldAddr 1 (.t 3)⟩,
    ⟨some 82, none, .load false 1 (.t 81)⟩,
    ⟨some 83, none, .build [(.int .i64 0), (.int .i64 0), (.int .i64 0), (.slice none 0 0)] [(0, 1, .t 80), (1, 1, .t 82)]⟩,
    ⟨some 11, none, .alloc [(.int .i64 0), (.int .i64 0), (.int .i64 0), (.slice none 0 0)]⟩,
    ⟨none, none, .store 4 (.t 11) (.t 83)⟩]
    [4, 7, 11])
  (.seq (.seq (.region [⟨some 12, none, .mov (.c (.int .i64 0))⟩]
    [4, 7, 11, 12])
  (.block 4
    (.loop [4, 7, 11, 12] RB.ref21_Place_1) [4, 11]))
  (.seq (.region [⟨some 104, none, .load true 4 (.t 11)⟩,
    ⟨none, none, .store 4 (.t 4) (.t 104)⟩]
    [4])
  .ret)))))))))⟩

def RB.ref16_Put_1 : RCode :=
  (.seq (.seq (.drawn [⟨some 11, none, .mov (.t 5)⟩,
    ⟨some 12, none, .fieldAddr 2 (.t 2)⟩,
    ⟨some 13, none, .load false 1 (.t 12)⟩,
    ⟨some 14, none, .len (.t 13)⟩,
    ⟨some 15, none, .bin .lss (.t 11) (.t 14)⟩,
    ⟨some 16, none, .mov (.t 15)⟩,
    ⟨some 17, some (16, true), .fieldAddr 2 (.t 2)⟩,
    ⟨some 18, some (16, true), .load false 1 (.t 17)⟩,
    ⟨some 19, some (16, true), .mov (.t 5)⟩,
    ⟨some 20, some (16, true), .idxS 4 (.t 18) (.t 19)⟩,
    ⟨some 21, some (16, true), .fieldAddr 0 (.t 20)⟩,
    ⟨some 22, some (16, true), .load false 1 (.t 21)⟩,
    ⟨some 23, some (16, true), .fieldAddr 0 (.t 3)⟩,
    ⟨some 24, some (16, true), .load false 1 (.t 23)⟩,
    ⟨some 25, some (16, true), .bin .lss (.t 22) (.t 24)⟩,
    ⟨some 26, none, .pick (.t 16) (.t 25) (.c (.bool false))⟩]
    [[], [], [1], [2], [0, 3], [4], [5], [6, 5], [5], [7, 8, 5], [9, 5], [10, 5], [5], [12, 5], [11, 13, 5], [5, 14]]
    [(0, []), (1, []), (2, []), (3, []), (4, []), (5, []), (6, []), (8, []), (12, []), (7, []), (9, []), (10, []), (11, []), (13, []), (14, []), (15, [])]
    [[], [], [1], [1, 2], [0, 1, 2, 3], [0, 1, 2, 3, 4], [0, 1, 2, 3, 4, 5], [0, 1, 2, 3, 4, 5, 6], [0, 1, 2, 3, 4, 5], [0, 1, 2, 3, 4, 5, 6, 7, 8], [0, 1, 2, 3, 4, 5, 6, 7, 8, 9], [0, 1, 2, 3, 4, 5, 6, 7, 8, 9, 10], [0, 1, 2, 3, 4, 5], [0, 1, 2, 3, 4, 5, 12], [0, 1, 2, 3, 4, 5, 6, 7, 8, 9, 10, 11, 12, 13], [0, 1, 2, 3, 4, 5, 6, 7, 8, 9, 10, 11, 12, 13, 14]]
    [2, 3, 4, 5, 26])
  (.cond (.t 26)
    .skip
    (.exit 0)))
  (.block 1
    (.region [⟨some 27, none, .mov (.t 5)⟩,
      ⟨some 28, none, .bin .add (.t 27) (.c (.int .i64 1))⟩,
      ⟨some 5, none, .mov (.t 28)⟩]
      [2, 3, 4, 5]) [2, 3, 4, 5]))
def RC.ref16_Put : RFn := ⟨2, [.cell 4 true 3],
  (.seq (.region [⟨some 2, none, .box (.t 0)⟩,
    ⟨some 3, none, .box (.t 1)⟩,
    ⟨some 4, none, .alloc [(.int .i64 0), (u32 0#32), (.slice none 0 0)]⟩]
    [2, 3, 4])
  (.seq (.region [⟨some 7, none, .load true 3 (.t 2)⟩,
    ⟨some 8, none, .fieldAddr 0 (.t 3)⟩,
    ⟨some 9, none, .load false 1 (.t 8)⟩,
    ⟨some 10, none, .call F.ref16_Drop [.t 7, .t 9]⟩,
    ⟨none, none, .store 3 (.t 2) (.t 10)⟩]
    [2, 3, 4])
  (.seq (.region [⟨some 5, none, .mov (.c (.int .i64 0))⟩]
    [2, 3, 4, 5])
  (.seq (.block 0
    (.loop [2, 3, 4, 5] RB.ref16_Put_1) [2, 3, 4, 5])
  (.seq (.region [⟨some 29, none, .bslice [] [] 0 4⟩,
    ⟨some 30, none, .fieldAddr 2 (.t 2)⟩,
    ⟨some 31, none, .load false 1 (.t 30)⟩,
    ⟨some 32, none, .mov (.t 5)⟩,
    ⟨some 33, none, .sub 4 (.t 31) none (some (.t 32)) none⟩,
    ⟨some 34, none, .app 4 48 (.t 29) (.t 33)⟩,
    ⟨some 6, none, .mov (.t 34)⟩]
    [2, 3, 4, 5, 6])
  (.seq (.region [⟨some 35, none, .mov (.t 6)⟩,
    ⟨some 36, none, .load true 4 (.t 3)⟩,
    ⟨some 37, none, .bslice [(.int .i64 0), (.int .i64 0), (.int .i64 0), (.slice none 0 0)] [(0, 4, .t 36)] 1 4⟩,
    ⟨some 38, none, .app 4 48 (.t 35) (.t 37)⟩,
    ⟨some 6, none, .mov (.t 38)⟩]
    [2, 4, 5, 6])
  (.seq (.region [⟨some 39, none, .mov (.t 6)⟩,
    ⟨some 40, none, .fieldAddr 2 (.t 2)⟩,
    ⟨some 41, none, .load false 1 (.t 40)⟩,
    ⟨some 42, none, .mov (.t 5)⟩,
    ⟨some 43, none, .sub 4 (.t 41) (some (.t 42)) none none⟩,
    ⟨some 44, none, .app 4 48 (.t 39) (.t 43)⟩,
    ⟨some 45, none, .fieldAddr 2 (.t 2)⟩,
    ⟨none, none, .store 1 (.t 45) (.t 44)⟩]
    [2, 4])
  (.seq (.region [⟨some 46, none, .load true 3 (.t 2)⟩,
    ⟨none, none, .store 3 (.t 4) (.t 46)⟩]
    [4])
  .ret))))))))⟩

def RB.ref16_Free_1 : RCode :=
  (.seq (.seq (.region [⟨some 5, none, .mov (.t 4)⟩,
    ⟨some 6, none, .bin .lss (.t 5) (.c (.int .i64 16))⟩]
    [1, 3, 4, 6])
  (.cond (.t 6)
    .skip
    (.exit 0)))
  (.seq (.block 1
    (.region [⟨some 9, none, .mov (.t 3)⟩,
      ⟨some 10, none, .load true 3 (.t 1)⟩,
      ⟨some 11, none, .mov (.t 4)⟩,
      ⟨some 12, none, .call F.ref16_Room [.t 10, .t 11]⟩,
      ⟨some 13, none, .bin .add (.t 9) (.t 12)⟩,
      ⟨some 3, none, .mov (.t 13)⟩]
      [1, 3, 4]) [1, 3, 4])
  (.region [⟨some 7, none, .mov (.t 4)⟩,
    ⟨some 8, none, .bin .add (.t 7) (.c (.int .i64 1))⟩,
    ⟨some 4, none, .mov (.t 8)⟩]
    [1, 3, 4])))
def RC.ref16_Free : RFn := ⟨1, [.slot 2],
  (.seq (.region [⟨some 1, none, .box (.t 0)⟩,
    ⟨some 2, none, .mov (.c (.int .i64 0))⟩]
    [1])
  (.seq (.region [⟨some 3, none, .mov (.c (.int .i64 0))⟩]
    [1, 3])
  (.seq (.seq (.region [⟨some 4, none, .mov (.c (.int .i64 0))⟩]
    [1, 3, 4])
  (.block 0
    (.loop [1, 3, 4] RB.ref16_Free_1) [3]))
  (.seq (.region [⟨some 14, none, .mov (.t 3)⟩,
    ⟨some 2, none, .mov (.t 14)⟩]
    [2])
  .ret))))⟩

def RC.law21_example : RFn := ⟨0, [.cell 0 true 3],
  (.seq (.region [⟨some 0, none, .alloc [(.int .i64 0), (u32 0#32), (.slice none 0 0)]⟩]
    [0])
  (.seq (.region [⟨some 1, none, .build [(.int .i64 0), (u64 0#64)] [(0, 1, .c (.int .i64 0)), (1, 1, .c (u64 3#64))]⟩,
    ⟨some 2, none, .build [(.int .i64 0), (u64 0#64)] [(0, 1, .c (.int .i64 1)), (1, 1, .c (u64 12#64))]⟩,
    ⟨some 3, none, .bslice [(.int .i64 0), (u64 0#64), (.int .i64 0), (u64 0#64)] [(0, 2, .t 1), (2, 2, .t 2)] 2 2⟩,
    ⟨some 4, none, .build [(.int .i64 0), (.int .i64 0), (.int .i64 0), (.slice none 0 0)] [(0, 1, .c (.int .i64 1)), (1, 1, .c (.int .i64 4)), (3, 1, .t 3)]⟩,
    ⟨some 5, none, .build [(.int .i64 0), (.int .i64 0), (.int .i64 0), (.slice none 0 0)] [(0, 1, .c (.int .i64 2)), (1, 1, .c (.int .i64 2)), (2, 1, .c (.int .i64 2))]⟩,
    ⟨some 6, none, .build [(.int .i64 0), (.int .i64 0), (.int .i64 0), (.slice none 0 0)] [(0, 1, .c (.int .i64 3)), (1, 1, .c (.int .i64 2)), (2, 1, .c (.int .i64 3))]⟩,
    ⟨some 7, none, .bslice [(.int .i64 0), (.int .i64 0), (.int .i64 0), (.slice none 0 0), (.int .i64 0), (.int .i64 0), (.int .i64 0), (.slice none 0 0), (.int .i64 0), (.int .i64 0), (.int .i64 0), (.slice none 0 0)] [(0, 4, .t 4), (4, 4, .t 5), (8, 4, .t 6)] 3 4⟩,
    ⟨some 8, none, .build [(.int .i64 0), (u32 0#32), (.slice none 0 0)] [(0, 1, .c (.int .i64 4)), (1, 1, .c (u32 15#32)), (2, 1, .t 7)]⟩,
    ⟨none, none, .store 3 (.t 0) (.t 8)⟩]
    [0])
  .ret))⟩

def RB.ref16_place_1 : RCode :=
  (.seq (.seq (.region [⟨some 72, none, .mov (.t 8)⟩,
    ⟨some 73, none, .bin .lss (.t 72) (.c (.int .i64 64))⟩]
    [2, 3, 7, 8, 73])
  (.cond (.t 73)
    .skip
    (.exit 2)))
  (.seq (.block 3
    (.seq (.region [⟨some 76, none, .load true 4 (.t 3)⟩,
      ⟨some 77, none, .mov (.t 8)⟩,
      ⟨some 78, none, .call F.ref16_At [.t 76, .c (.int .i64 (-1)), .t 77]⟩,
      ⟨some 9, none, .mov (.t 78)⟩]
      [2, 3, 7, 8, 9])
    (.seq (.seq (.region [⟨some 79, none, .mov (.t 9)⟩,
      ⟨some 80, none, .bin .gtr (.t 79) (.c (.int .i64 1))⟩,
      ⟨some 81, none, .mov (.t 80)⟩,
      ⟨some 82, some (81, false), .mov (.t 9)⟩,
      ⟨some 83, some (81, false), .bin .gtr (.t 82) (.c (.int .i64 0))⟩,
      ⟨some 84, some (81, false), .mov (.t 83)⟩,
      ⟨some 85, some (84, true), .mov (.t 8)⟩,
      ⟨some 86, some (84, true), .fieldAddr 0 (.t 2)⟩,
      ⟨some 87, some (84, true), .load false 1 (.t 86)⟩,
      ⟨some 88, some (84, true), .bin .geq (.t 85) (.t 87)⟩,
      ⟨some 89, some (81, false), .pick (.t 84) (.t 88) (.c (.bool false))⟩,
      ⟨some 90, none, .pick (.t 81) (.c (.bool true)) (.t 89)⟩]
      [2, 3, 7, 8, 9, 90])
    (.cond (.t 90)
      (.seq (.region [⟨some 4, none, .mov (.c (.bool false))⟩]
        [4])
      .ret)
      .skip))
    (.region [⟨some 91, none, .mov (.t 7)⟩,
      ⟨some 92, none, .mov (.t 9)⟩,
      ⟨some 93, none, .bin .add (.t 91) (.t 92)⟩,
      ⟨some 7, none, .mov (.t 93)⟩]
      [2, 3, 7, 8]))) [2, 3, 7, 8])
  (.region [⟨some 74, none, .mov (.t 8)⟩,
    ⟨some 75, none, .bin .add (.t 74) (.c (.int .i64 1))⟩,
    ⟨some 8, none, .mov (.t 75)⟩]
    [2, 3, 7, 8])))
def RB.ref16_place_2 : RCode :=
  (.seq (.seq (.region [⟨some 34, none, .mov (.t 5)⟩,
    ⟨some 35, none, .fieldAddr 3 (.t 3)⟩,
    ⟨some 36, none, .load false 1 (.t 35)⟩,
    ⟨some 37, none, .len (.t 36)⟩,
    ⟨some 38, none, .bin .lss (.t 34) (.t 37)⟩]
    [2, 3, 5, 38])
  (.cond (.t 38)
    .skip
    (.exit 0)))
  (.seq (.block 1
    (.seq (.region [⟨some 41, none, .fieldAddr 3 (.t 3)⟩,
      ⟨some 42, none, .load false 1 (.t 41)⟩,
      ⟨some 43, none, .mov (.t 5)⟩,
      ⟨some 44, none, .idxS 2 (.t 42) (.t 43)⟩,
      ⟨some 45, none, .load true 2 (.t 44)⟩,
      ⟨some 6, none, .alloc [(.int .i64 0), (u64 0#64)]⟩,
      ⟨none, none, .store 2 (.t 6) (.t 45)⟩]
      [2, 3, 5, 6])
    (.seq (.drawn [⟨some 46, none, .load true 3 (.t 2)⟩,
      ⟨some 47, none, .fieldAddr 0 (.t 6)⟩,
      ⟨some 48, none, .load false 1 (.t 47)⟩,
      ⟨some 49, none, .call F.ref16_Has [.t 46, .t 48]⟩,
      ⟨some 50, none, .un .not (.t 49)⟩,
      ⟨some 51, none, .mov (.t 50)⟩,
      ⟨some 52, some (51, false), .mov (.t 5)⟩,
      ⟨some 53, some (51, false), .bin .gtr (.t 52) (.c (.int .i64 0))⟩,
      ⟨some 54, some (51, false), .mov (.t 53)⟩,
      ⟨some 55, some (54, true), .fieldAddr 0 (.t 6)⟩,
      ⟨some 56, some (54, true), .load false 1 (.t 55)⟩,
      ⟨some 57, some (54, true), .fieldAddr 3 (.t 3)⟩,
      ⟨some 58, some (54, true), .load false 1 (.t 57)⟩,
      ⟨some 59, some (54, true), .mov (.t 5)⟩,
      ⟨some 60, some (54, true), .bin .sub (.t 59) (.c (.int .i64 1))⟩,
      ⟨some 61, some (54, true), .idxS 2 (.t 58) (.t 60)⟩,
      ⟨some 62, some (54, true), .fieldAddr 0 (.t 61)⟩,
      ⟨some 63, some (54, true), .load false 1 (.t 62)⟩,
      ⟨some 64, some (54, true), .bin .leq (.t 56) (.t 63)⟩,
      ⟨some 65, some (51, false), .pick (.t 54) (.t 64) (.c (.bool false))⟩,
      ⟨some 66, none, .pick (.t 51) (.c (.bool true)) (.t 65)⟩,
      ⟨some 67, none, .mov (.t 66)⟩,
      ⟨some 68, some (67, false), .fieldAddr 1 (.t 6)⟩,
      ⟨some 69, some (67, false), .load false 1 (.t 68)⟩,
      ⟨some 70, some (67, false), .bin .eql (.t 69) (.c (u64 0#64))⟩,
      ⟨some 71, none, .pick (.t 67) (.c (.bool true)) (.t 70)⟩]
      [[], [], [1], [0, 2], [3], [4, 3], [5], [6, 5], [7, 5, 5], [8], [9, 8], [8], [11, 8], [8], [13, 8], [12, 14, 8], [15, 8], [16, 8], [10, 17, 8], [8, 18, 5], [5, 19], [20, 8], [21], [22, 21], [23, 21], [21, 24]]
      [(1, []), (0, []), (2, []), (3, []), (4, []), (5, []), (6, []), (7, []), (8, []), (9, []), (11, []), (13, []), (14, []), (10, []), (12, []), (15, []), (16, []), (17, []), (18, []), (19, []), (20, []), (21, []), (22, []), (23, []), (24, []), (25, [])]
      [[], [], [1], [0, 1, 2], [0, 1, 2, 3], [0, 1, 2, 3, 4], [0, 1, 2, 3, 4, 5], [0, 1, 2, 3, 4, 5, 6], [0, 1, 2, 3, 4, 5, 6, 7], [0, 1, 2, 3, 4, 5, 6, 7, 8], [0, 1, 2, 3, 4, 5, 6, 7, 8, 9], [0, 1, 2, 3, 4, 5, 6, 7, 8], [0, 1, 2, 3, 4, 5, 6, 7, 8, 11], [0, 1, 2, 3, 4, 5, 6, 7, 8], [0, 1, 2, 3, 4, 5, 6, 7, 8, 13], [0, 1, 2, 3, 4, 5, 6, 7, 8, 11, 12, 13, 14], [0, 1, 2, 3, 4, 5, 6, 7, 8, 11, 12, 13, 14, 15], [0, 1, 2, 3, 4, 5, 6, 7, 8, 11, 12, 13, 14, 15, 16], [0, 1, 2, 3, 4, 5, 6, 7, 8, 9, 10, 11, 12, 13, 14, 15, 16, 17], [0, 1, 2, 3, 4, 5, 6, 7, 8, 9, 10, 11, 12, 13, 14, 15, 16, 17, 18], [0, 1, 2, 3, 4, 5, 6, 7, 8, 9, 10, 11, 12, 13, 14, 15, 16, 17, 18, 19], [0, 1, 2, 3, 4, 5, 6, 7, 8, 9, 10, 11, 12, 13, 14, 15, 16, 17, 18, 19, 20], [0, 1, 2, 3, 4, 5, 6, 7, 8, 9, 10, 11, 12, 13, 14, 15, 16, 17, 18, 19, 20, 21], [0, 1, 2, 3, 4, 5, 6, 7, 8, 9, 10, 11, 12, 13, 14, 15, 16, 17, 18, 19, 20, 21, 22], [0, 1, 2, 3, 4, 5, 6, 7, 8, 9, 10, 11, 12, 13, 14, 15, 16, 17, 18, 19, 20, 21, 22, 23], [0, 1, 2, 3, 4, 5, 6, 7, 8, 9, 10, 11, 12, 13, 14, 15, 16, 17, 18, 19, 20, 21, 22, 23, 24]]
      [2, 3, 5, 71])
    (.cond (.t 71)
      (.seq (.region [⟨some 4, none, .mov (.c (.bool false))⟩]
        [4])
      .ret)
      .skip))) [2, 3, 5])
  (.region [⟨some 39, none, .mov (.t 5)⟩,
    ⟨some 40, none, .bin .add (.t 39) (.c (.int .i64 1))⟩,
    ⟨some 5, none, .mov (.t 40)⟩]
    [2, 3, 5])))
def RC.ref16_place : RFn := ⟨2, [.slot 4],
  (.seq (.region [⟨some 2, none, .box (.t 0)⟩,
    ⟨some 3, none, .box (.t 1)⟩,
    ⟨some 4, none, .mov (.c (.bool false))⟩]
    [2, 3])
  (.seq (.seq (.region [⟨some 10, none, .fieldAddr 0 (.t 3)⟩,
    ⟨some 11, none, .load false 1 (.t 10)⟩,
    ⟨some 12, none, .call F.ref08_Is [.t 11]⟩,
    ⟨some 13, none, .un .not (.t 12)⟩,
    ⟨some 14, none, .mov (.t 13)⟩,
    ⟨some 15, some (14, false), .fieldAddr 1 (.t 3)⟩,
    ⟨some 16, some (14, false), .load false 1 (.t 15)⟩,
    ⟨some 17, some (14, false), .bin .lss (.t 16) (.c (.int .i64 1))⟩,
    ⟨some 18, none, .pick (.t 14) (.c (.bool true)) (.t 17)⟩,
    ⟨some 19, none, .mov (.t 18)⟩,
    ⟨some 20, some (19, false), .fieldAddr 1 (.t 3)⟩,
    ⟨some 21, some (19, false), .load false 1 (.t 20)⟩,
    ⟨some 22, some (19, false), .fieldAddr 0 (.t 2)⟩,
    ⟨some 23, some (19, false), .load false 1 (.t 22)⟩,
    ⟨some 24, some (19, false), .bin .gtr (.t 21) (.t 23)⟩,
    ⟨some 25, none, .pick (.t 19) (.c (.bool true)) (.t 24)⟩]
    [2, 3, 25])
  (.cond (.t 25)
    (.seq (.region [⟨some 4, none, .mov (.c (.bool false))⟩]
      [4])
    .ret)
    .skip))
  (.seq (.seq (.region [⟨some 26, none, .fieldAddr 3 (.t 3)⟩,
    ⟨some 27, none, .load false 1 (.t 26)⟩,
    ⟨some 28, none, .len (.t 27)⟩,
    ⟨some 29, none, .bin .eql (.t 28) (.c (.int .i64 0))⟩]
    [2, 3, 29])
  (.cond (.t 29)
    (.seq (.region [⟨some 30, none, .load true 3 (.t 2)⟩,
      ⟨some 31, none, .fieldAddr 2 (.t 3)⟩,
      ⟨some 32, none, .load false 1 (.t 31)⟩,
      ⟨some 33, none, .call F.ref16_Has [.t 30, .t 32]⟩,
      ⟨some 4, none, .mov (.t 33)⟩]
      [4])
    .ret)
    .skip))
  (.seq (.seq (.region [⟨some 5, none, .mov (.c (.int .i64 0))⟩]
    [2, 3, 5])
  (.block 0
    (.loop [2, 3, 5] RB.ref16_place_2) [2, 3]))
  (.seq (.region [⟨some 7, none, .mov (.c (.int .i64 0))⟩]
    [2, 3, 7])
  (.seq (.seq (.region [⟨some 8, none, .mov (.c (.int .i64 0))⟩]
    [2, 3, 7, 8])
  (.block 2
    (.loop [2, 3, 7, 8] RB.ref16_place_1) [3, 7]))
  (.seq (.region [⟨some 94, none, .fieldAddr 3 (.t 3)⟩,
    ⟨some 95, none, .load false 1 (.t 94)⟩,
    ⟨some 96, none, .len (.t 95)⟩,
    ⟨some 97, none, .bin .geq (.t 96) (.c (.int .i64 2))⟩,
    ⟨some 98, none, .mov (.t 97)⟩,
    ⟨some 99, some (98, true), .fieldAddr 2 (.t 3)⟩,
    ⟨some 100, some (98, true), .load false 1 (.t 99)⟩,
    ⟨some 101, some (98, true), .bin .eql (.t 100) (.c (.int .i64 0))⟩,
    ⟨some 102, none, .pick (.t 98) (.t 101) (.c (.bool false))⟩,
    ⟨some 103, none, .mov (.t 102)⟩,
    ⟨some 104, some (103, true), .mov (.t 7)⟩,
    ⟨some 105, some (103, true), .fieldAddr 1 (.t 3)⟩,
    ⟨some 106, some (103, true), .load false 1 (.t 105)⟩,
    ⟨some 107, some (103, true), .bin .eql (.t 104) (.t 106)⟩,
    ⟨some 108, none, .pick (.t 103) (.t 107) (.c (.bool false))⟩,
    ⟨some 4, none, .mov (.t 108)⟩]
    [4])
  .ret)))))))⟩

def RB.ref16_apart_1 : RCode :=
  (.seq (.seq (.region [⟨some 15, none, .mov (.t 6)⟩,
    ⟨some 16, none, .fieldAddr 2 (.t 1)⟩,
    ⟨some 17, none, .load false 1 (.t 16)⟩,
    ⟨some 18, none, .len (.t 17)⟩,
    ⟨some 19, none, .bin .lss (.t 15) (.t 18)⟩]
    [1, 3, 4, 5, 6, 19])
  (.cond (.t 19)
    .skip
    (.exit 4)))
  (.seq (.block 5
    (.region [⟨some 22, none, .mov (.t 5)⟩,
      ⟨some 23, none, .fieldAddr 2 (.t 1)⟩,
      ⟨some 24, none, .load false 1 (.t 23)⟩,
      ⟨some 25, none, .mov (.t 6)⟩,
      ⟨some 26, none, .idxS 4 (.t 24) (.t 25)⟩,
      ⟨some 27, none, .load true 4 (.t 26)⟩,
      ⟨some 28, none, .mov (.t 3)⟩,
      ⟨some 29, none, .mov (.t 4)⟩,
      ⟨some 30, none, .call F.ref16_At [.t 27, .t 28, .t 29]⟩,
      ⟨some 31, none, .bin .add (.t 22) (.t 30)⟩,
      ⟨some 5, none, .mov (.t 31)⟩]
      [1, 3, 4, 5, 6]) [1, 3, 4, 5, 6])
  (.region [⟨some 20, none, .mov (.t 6)⟩,
    ⟨some 21, none, .bin .add (.t 20) (.c (.int .i64 1))⟩,
    ⟨some 6, none, .mov (.t 21)⟩]
    [1, 3, 4, 5, 6])))
def RB.ref16_apart_2 : RCode :=
  (.seq (.seq (.region [⟨some 11, none, .mov (.t 4)⟩,
    ⟨some 12, none, .bin .lss (.t 11) (.c (.int .i64 64))⟩]
    [1, 3, 4, 12])
  (.cond (.t 12)
    .skip
    (.exit 2)))
  (.seq (.block 3
    (.seq (.region [⟨some 5, none, .mov (.c (.int .i64 0))⟩]
      [1, 3, 4, 5])
    (.seq (.seq (.region [⟨some 6, none, .mov (.c (.int .i64 0))⟩]
      [1, 3, 4, 5, 6])
    (.block 4
      (.loop [1, 3, 4, 5, 6] RB.ref16_apart_1) [1, 3, 4, 5]))
    (.seq (.region [⟨some 32, none, .mov (.t 5)⟩,
      ⟨some 33, none, .bin .gtr (.t 32) (.c (.int .i64 1))⟩]
      [1, 3, 4, 33])
    (.cond (.t 33)
      (.seq (.region [⟨some 2, none, .mov (.c (.bool false))⟩]
        [2])
      .ret)
      .skip)))) [1, 3, 4])
  (.region [⟨some 13, none, .mov (.t 4)⟩,
    ⟨some 14, none, .bin .add (.t 13) (.c (.int .i64 1))⟩,
    ⟨some 4, none, .mov (.t 14)⟩]
    [1, 3, 4])))
def RB.ref16_apart_3 : RCode :=
  (.seq (.seq (.region [⟨some 7, none, .mov (.t 3)⟩,
    ⟨some 8, none, .bin .lss (.t 7) (.c (.int .i64 16))⟩]
    [1, 3, 8])
  (.cond (.t 8)
    .skip
    (.exit 0)))
  (.seq (.block 1
    (.seq (.region [⟨some 4, none, .mov (.c (.int .i64 0))⟩]
      [1, 3, 4])
    (.block 2
      (.loop [1, 3, 4] RB.ref16_apart_2) [1, 3])) [1, 3])
  (.region [⟨some 9, none, .mov (.t 3)⟩,
    ⟨some 10, none, .bin .add (.t 9) (.c (.int .i64 1))⟩,
    ⟨some 3, none, .mov (.t 10)⟩]
    [1, 3])))
def RC.ref16_apart : RFn := ⟨1, [.slot 2],
  (.seq (.region [⟨some 1, none, .box (.t 0)⟩,
    ⟨some 2, none, .mov (.c (.bool false))⟩]
    [1])
  (.seq (.seq (.region [⟨some 3, none, .mov (.c (.int .i64 0))⟩]
    [1, 3])
  (.block 0
    (.loop [1, 3] RB.ref16_apart_3) []))
  (.seq (.region [⟨some 2, none, .mov (.c (.bool true))⟩]
    [2])
  .ret)))⟩

def RB.ref16_Splits_1 : RCode :=
  (.seq (.seq (.region [⟨some 5, none, .mov (.t 4)⟩,
    ⟨some 6, none, .fieldAddr 2 (.t 1)⟩,
    ⟨some 7, none, .load false 1 (.t 6)⟩,
    ⟨some 8, none, .len (.t 7)⟩,
    ⟨some 9, none, .bin .lss (.t 5) (.t 8)⟩]
    [1, 3, 4, 9])
  (.cond (.t 9)
    .skip
    (.exit 0)))
  (.seq (.block 1
    (.seq (.region [⟨some 12, none, .fieldAddr 2 (.t 1)⟩,
      ⟨some 13, none, .load false 1 (.t 12)⟩,
      ⟨some 14, none, .mov (.t 4)⟩,
      ⟨some 15, none, .idxS 4 (.t 13) (.t 14)⟩,
      ⟨some 16, none, .fieldAddr 3 (.t 15)⟩,
      ⟨some 17, none, .load false 1 (.t 16)⟩,
      ⟨some 18, none, .len (.t 17)⟩,
      ⟨some 19, none, .bin .gtr (.t 18) (.c (.int .i64 0))⟩]
      [1, 3, 4, 19])
    (.cond (.t 19)
      (.region [⟨some 20, none, .mov (.t 3)⟩,
        ⟨some 21, none, .bin .add (.t 20) (.c (.int .i64 1))⟩,
        ⟨some 3, none, .mov (.t 21)⟩]
        [1, 3, 4])
      .skip)) [1, 3, 4])
  (.region [⟨some 10, none, .mov (.t 4)⟩,
    ⟨some 11, none, .bin .add (.t 10) (.c (.int .i64 1))⟩,
    ⟨some 4, none, .mov (.t 11)⟩]
    [1, 3, 4])))
def RC.ref16_Splits : RFn := ⟨1, [.slot 2],
  (.seq (.region [⟨some 1, none, .box (.t 0)⟩,
    ⟨some 2, none, .mov (.c (.int .i64 0))⟩]
    [1])
  (.seq (.region [⟨some 3, none, .mov (.c (.int .i64 0))⟩]
    [1, 3])
  (.seq (.seq (.region [⟨some 4, none, .mov (.c (.int .i64 0))⟩]
    [1, 3, 4])
  (.block 0
    (.loop [1, 3, 4] RB.ref16_Splits_1) [3]))
  (.seq (.region [⟨some 22, none, .mov (.t 3)⟩,
    ⟨some 2, none, .mov (.t 22)⟩]
    [2])
  .ret))))⟩

def RB.ref16_Load_1 : RCode :=
  (.seq (.seq (.region [⟨some 15, none, .mov (.t 7)⟩,
    ⟨some 16, none, .mov (.t 6)⟩,
    ⟨some 17, none, .len (.t 16)⟩,
    ⟨some 18, none, .bin .lss (.t 15) (.t 17)⟩]
    [5, 6, 7, 18])
  (.cond (.t 18)
    .skip
    (.exit 0)))
  (.seq (.block 1
    (.region [⟨some 21, none, .mov (.t 5)⟩,
      ⟨some 22, none, .mov (.t 6)⟩,
      ⟨some 23, none, .mov (.t 7)⟩,
      ⟨some 24, none, .idxS 2 (.t 22) (.t 23)⟩,
      ⟨some 25, none, .fieldAddr 1 (.t 24)⟩,
      ⟨some 26, none, .load false 1 (.t 25)⟩,
      ⟨some 27, none, .bin .add (.t 21) (.t 26)⟩,
      ⟨some 5, none, .mov (.t 27)⟩]
      [5, 6, 7]) [5, 6, 7])
  (.region [⟨some 19, none, .mov (.t 7)⟩,
    ⟨some 20, none, .bin .add (.t 19) (.c (.int .i64 1))⟩,
    ⟨some 7, none, .mov (.t 20)⟩]
    [5, 6, 7])))
def RC.ref16_Load : RFn := ⟨2, [.slot 4],
  (.seq (.region [⟨some 2, none, .box (.t 0)⟩,
    ⟨some 4, none, .mov (.c (.int .i64 0))⟩]
    [1, 2])
  (.seq (.region [⟨some 8, none, .load true 3 (.t 2)⟩,
    ⟨some 9, none, .mov (.t 1)⟩,
    ⟨some 10, none, .call F.ref16_Windows [.t 8, .t 9]⟩,
    ⟨some 11, none, .call F.ref04_Count [.t 10]⟩,
    ⟨some 5, none, .mov (.t 11)⟩]
    [1, 2, 5])
  (.seq (.region [⟨some 12, none, .load true 3 (.t 2)⟩,
    ⟨some 13, none, .mov (.t 1)⟩,
    ⟨some 14, none, .call F.ref16_Wholes [.t 12, .t 13]⟩,
    ⟨some 6, none, .mov (.t 14)⟩]
    [5, 6])
  (.seq (.seq (.region [⟨some 7, none, .mov (.c (.int .i64 0))⟩]
    [5, 6, 7])
  (.block 0
    (.loop [5, 6, 7] RB.ref16_Load_1) [5]))
  (.seq (.region [⟨some 28, none, .mov (.t 5)⟩,
    ⟨some 4, none, .mov (.t 28)⟩]
    [4])
  .ret)))))⟩

def RB.plan_Check_1 : RCode :=
  (.seq (.region [⟨some 70, none, .bin .lss (.t 69) (.t 68)⟩]
    [1, 67, 68, 69, 70])
  (.seq (.cond (.t 70)
    .skip
    (.exit 2))
  (.seq (.block 3
    (.seq (.region [⟨some 71, none, .idxS 1 (.t 67) (.t 69)⟩,
      ⟨some 72, none, .load false 1 (.t 71)⟩,
      ⟨some 6, none, .mov (.t 72)⟩]
      [1, 6, 67, 68, 69])
    (.seq (.region [⟨some 73, none, .load true 3 (.t 1)⟩,
      ⟨some 74, none, .mov (.t 6)⟩,
      ⟨some 75, none, .call F.plan_left [.t 73, .t 74]⟩,
      ⟨some 76, none, .bin .lss (.t 75) (.c (.int .i64 0))⟩]
      [1, 67, 68, 69, 76])
    (.cond (.t 76)
      (.seq (.region [⟨some 2, none, .mov (.c (.int .i64 30))⟩]
        [2])
      .ret)
      .skip))) [1, 67, 68, 69])
  (.region [⟨some 77, none, .bin .add (.t 69) (.c (.int .i64 1))⟩,
    ⟨some 69, none, .mov (.t 77)⟩]
    [1, 67, 68, 69]))))
def RB.plan_Check_2 : RCode :=
  (.seq (.region [⟨some 30, none, .bin .lss (.t 29) (.t 28)⟩]
    [1, 27, 28, 29, 30])
  (.seq (.cond (.t 30)
    .skip
    (.exit 0))
  (.seq (.block 1
    (.seq (.region [⟨some 31, none, .mov (.t 29)⟩,
      ⟨some 32, none, .idxS 4 (.t 27) (.t 29)⟩,
      ⟨some 33, none, .load true 4 (.t 32)⟩,
      ⟨some 4, none, .alloc [(.int .i64 0), (.int .i64 0), (.int .i64 0), (.slice none 0 0)]⟩,
      ⟨some 3, none, .mov (.t 31)⟩,
      ⟨none, none, .store 4 (.t 4) (.t 33)⟩]
      [1, 3, 4, 27, 28, 29])
    (.seq (.drawn [⟨some 34, none, .load true 3 (.t 1)⟩,
      ⟨some 35, none, .load true 4 (.t 4)⟩,
      ⟨some 36, none, .call F.plan_place [.t 34, .t 35]⟩,
      ⟨some 37, none, .un .not (.t 36)⟩,
      ⟨some 38, none, .mov (.t 37)⟩,
      ⟨some 39, some (38, false), .mov (.t 3)⟩,
      ⟨some 40, some (38, false), .bin .gtr (.t 39) (.c (.int .i64 0))⟩,
      ⟨some 41, some (38, false), .mov (.t 40)⟩,
      ⟨some 42, some (41, true), .fieldAddr 2 (.t 1)⟩,
      ⟨some 43, some (41, true), .load false 1 (.t 42)⟩,
      ⟨some 44, some (41, true), .mov (.t 3)⟩,
      ⟨some 45, some (41, true), .bin .sub (.t 44) (.c (.int .i64 1))⟩,
      ⟨some 46, some (41, true), .idxS 4 (.t 43) (.t 45)⟩,
      ⟨some 47, some (41, true), .fieldAddr 0 (.t 46)⟩,
      ⟨some 48, some (41, true), .load false 1 (.t 47)⟩,
      ⟨some 49, some (41, true), .fieldAddr 0 (.t 4)⟩,
      ⟨some 50, some (41, true), .load false 1 (.t 49)⟩,
      ⟨some 51, some (41, true), .bin .geq (.t 48) (.t 50)⟩,
      ⟨some 52, some (38, false), .pick (.t 41) (.t 51) (.c (.bool false))⟩,
      ⟨some 53, none, .pick (.t 38) (.c (.bool true)) (.t 52)⟩]
      [[], [], [0, 1], [2], [3, 2], [4], [5, 4], [6, 4, 4], [7], [8, 7], [7], [10, 7], [9, 11, 7], [12, 7], [13, 7], [7], [15, 7], [14, 16, 7], [7, 17, 4], [4, 18]]
      [(0, []), (1, []), (2, []), (3, []), (4, []), (5, []), (6, []), (7, []), (8, []), (10, []), (11, []), (15, []), (9, []), (12, []), (13, []), (14, []), (16, []), (17, []), (18, []), (19, [])]
      [[], [], [0, 1], [0, 1, 2], [0, 1, 2, 3], [0, 1, 2, 3, 4], [0, 1, 2, 3, 4, 5], [0, 1, 2, 3, 4, 5, 6], [0, 1, 2, 3, 4, 5, 6, 7], [0, 1, 2, 3, 4, 5, 6, 7, 8], [0, 1, 2, 3, 4, 5, 6, 7], [0, 1, 2, 3, 4, 5, 6, 7, 10], [0, 1, 2, 3, 4, 5, 6, 7, 8, 9, 10, 11], [0, 1, 2, 3, 4, 5, 6, 7, 8, 9, 10, 11, 12], [0, 1, 2, 3, 4, 5, 6, 7, 8, 9, 10, 11, 12, 13], [0, 1, 2, 3, 4, 5, 6, 7], [0, 1, 2, 3, 4, 5, 6, 7, 15], [0, 1, 2, 3, 4, 5, 6, 7, 8, 9, 10, 11, 12, 13, 14, 15, 16], [0, 1, 2, 3, 4, 5, 6, 7, 8, 9, 10, 11, 12, 13, 14, 15, 16, 17], [0, 1, 2, 3, 4, 5, 6, 7, 8, 9, 10, 11, 12, 13, 14, 15, 16, 17, 18]]
      [1, 27, 28, 29, 53])
    (.cond (.t 53)
      (.seq (.region [⟨some 2, none, .mov (.c (.int .i64 30))⟩]
        [2])
      .ret)
      .skip))) [1, 27, 28, 29])
  (.region [⟨some 54, none, .bin .add (.t 29) (.c (.int .i64 1))⟩,
    ⟨some 29, none, .mov (.t 54)⟩]
    [1, 27, 28, 29]))))
def RC.plan_Check : RFn := ⟨1, [.slot 2],
  (.seq (.region [⟨some 1, none, .box (.t 0)⟩,
    ⟨some 2, none, .mov (.c (.int .i64 0))⟩]
    [1])
  (.seq (.seq (.region [⟨some 7, none, .fieldAddr 0 (.t 1)⟩,
    ⟨some 8, none, .load false 1 (.t 7)⟩,
    ⟨some 9, none, .bin .lss (.t 8) (.c (.int .i64 2))⟩,
    ⟨some 10, none, .mov (.t 9)⟩,
    ⟨some 11, some (10, false), .fieldAddr 0 (.t 1)⟩,
    ⟨some 12, some (10, false), .load false 1 (.t 11)⟩,
    ⟨some 13, some (10, false), .bin .gtr (.t 12) (.c (.int .i64 64))⟩,
    ⟨some 14, none, .pick (.t 10) (.c (.bool true)) (.t 13)⟩,
    ⟨some 15, none, .mov (.t 14)⟩,
    ⟨some 16, some (15, false), .fieldAddr 1 (.t 1)⟩,
    ⟨some 17, some (15, false), .load false 1 (.t 16)⟩,
    ⟨some 18, some (15, false), .bin .eql (.t 17) (.c (u32 0#32))⟩,
    ⟨some 19, none, .pick (.t 15) (.c (.bool true)) (.t 18)⟩,
    ⟨some 20, none, .mov (.t 19)⟩,
    ⟨some 21, some (20, false), .fieldAddr 1 (.t 1)⟩,
    ⟨some 22, some (20, false), .load false 1 (.t 21)⟩,
    ⟨some 23, some (20, false), .bin .shr (.t 22) (.c (u64 16#64))⟩,
    ⟨some 24, some (20, false), .bin .neq (.t 23) (.c (u32 0#32))⟩,
    ⟨some 25, none, .pick (.t 20) (.c (.bool true)) (.t 24)⟩]
    [1, 25])
  (.cond (.t 25)
    (.seq (.region [⟨some 2, none, .mov (.c (.int .i64 30))⟩]
      [2])
    .ret)
    .skip))
  (.seq (.seq (.region [⟨some 26, none, .fieldAddr 2 (.t 1)⟩,
    ⟨some 27, none, .load false 1 (.t 26)⟩,
    ⟨some 28, none, .len (.t 27)⟩,
    ⟨some 29, none, .mov (.c (.int .i64 0))⟩]
    [1, 27, 28, 29])
  (.block 0
    (.loop [1, 27, 28, 29] RB.plan_Check_2) [1]))
  (.seq (.seq (.drawn [⟨some 55, none, .load true 3 (.t 1)⟩,
    ⟨some 56, none, .call F.plan_apart [.t 55]⟩,
    ⟨some 57, none, .un .not (.t 56)⟩,
    ⟨some 58, none, .mov (.t 57)⟩,
    ⟨some 59, some (58, false), .load true 3 (.t 1)⟩,
    ⟨some 60, some (58, false), .call F.plan_Splits [.t 59]⟩,
    ⟨some 61, some (58, false), .load true 3 (.t 1)⟩,
    ⟨some 62, some (58, false), .call F.plan_Cores [.t 61]⟩,
    ⟨some 63, some (58, false), .len (.t 62)⟩,
    ⟨some 64, some (58, false), .bin .geq (.t 60) (.t 63)⟩,
    ⟨some 65, none, .pick (.t 58) (.c (.bool true)) (.t 64)⟩]
    [[], [0], [1], [2, 1], [3], [4, 3, 3], [3], [6, 5, 3], [7, 3], [5, 8, 3], [3, 9]]
    [(0, []), (1, []), (2, []), (3, []), (4, []), (6, []), (5, [1]), (7, []), (8, []), (9, []), (10, [])]
    [[], [0], [0, 1], [0, 1, 2], [0, 1, 2, 3], [0, 1, 2, 3, 4], [0, 1, 2, 3], [0, 1, 2, 3, 4, 5, 6], [0, 1, 2, 3, 4, 5, 6, 7], [0, 1, 2, 3, 4, 5, 6, 7, 8], [0, 1, 2, 3, 4, 5, 6, 7, 8, 9]]
    [1, 65])
  (.cond (.t 65)
    (.seq (.region [⟨some 2, none, .mov (.c (.int .i64 30))⟩]
      [2])
    .ret)
    .skip))
  (.seq (.seq (.region [⟨some 66, none, .load true 3 (.t 1)⟩,
    ⟨some 67, none, .call F.plan_Cores [.t 66]⟩,
    ⟨some 68, none, .len (.t 67)⟩,
    ⟨some 69, none, .mov (.c (.int .i64 0))⟩]
    [1, 67, 68, 69])
  (.block 2
    (.loop [1, 67, 68, 69] RB.plan_Check_1) []))
  (.seq (.region [⟨some 2, none, .mov (.c (.int .i64 0))⟩]
    [2])
  .ret))))))⟩

def RB.weave_begin_1 : RCode :=
  (.seq (.region [⟨some 18, none, .bin .lss (.t 17) (.t 16)⟩]
    [1, 3, 15, 16, 17, 18])
  (.seq (.cond (.t 18)
    .skip
    (.exit 0))
  (.seq (.block 1
    (.seq (.region [⟨some 19, none, .idxS 1 (.t 15) (.t 17)⟩,
      ⟨some 20, none, .load false 1 (.t 19)⟩,
      ⟨some 5, none, .mov (.t 20)⟩]
      [1, 3, 5, 15, 16, 17])
    (.seq (.drawn [⟨some 21, none, .mov (.t 3)⟩,
      ⟨some 22, none, .mov (.t 3)⟩,
      ⟨some 23, none, .nilchk (.t 22)⟩,
      ⟨some 24, none, .fieldAddr 2 (.t 23)⟩,
      ⟨some 25, none, .load false 1 (.t 24)⟩,
      ⟨some 26, none, .fieldAddr 0 (.t 1)⟩,
      ⟨some 27, none, .load false 1 (.t 26)⟩,
      ⟨some 28, none, .call F.mask_All [.t 27]⟩,
      ⟨some 29, none, .load true 3 (.t 1)⟩,
      ⟨some 30, none, .mov (.t 5)⟩,
      ⟨some 31, none, .call F.plan_Windows [.t 29, .t 30]⟩,
      ⟨some 32, none, .bin .andNot (.t 28) (.t 31)⟩,
      ⟨some 33, none, .bslice [(u64 0#64)] [(0, 1, .t 32)] 1 1⟩,
      ⟨some 34, none, .app 1 8 (.t 25) (.t 33)⟩,
      ⟨some 35, none, .nilchk (.t 21)⟩,
      ⟨some 36, none, .fieldAddr 2 (.t 35)⟩,
      ⟨none, none, .store 1 (.t 36) (.t 34)⟩]
      [[], [], [1], [2], [3], [], [5], [6], [], [], [8, 9, 7], [7, 10], [11], [4, 12, 10], [0, 0, 1, 2, 3, 4, 5, 6, 7, 8, 9, 10, 11, 12, 13], [14, 0, 1, 2, 3, 4, 5, 6, 7, 8, 9, 10, 11, 12, 13], [15, 13, 13, 0, 1, 2, 3, 4, 5, 6, 7, 8, 9, 10, 11, 12, 13]]
      [(0, []), (1, []), (2, []), (3, []), (5, []), (9, []), (4, []), (6, []), (8, []), (7, [24, 1]), (10, [24]), (11, []), (12, []), (13, []), (14, []), (15, []), (16, [])]
      [[], [], [1], [1, 2], [1, 2, 3], [], [5], [5, 6], [], [], [5, 6, 7, 8, 9], [5, 6, 7, 8, 9, 10], [5, 6, 7, 8, 9, 10, 11], [1, 2, 3, 4, 5, 6, 7, 8, 9, 10, 11, 12], [0, 1, 2, 3, 4, 5, 6, 7, 8, 9, 10, 11, 12, 13], [0, 1, 2, 3, 4, 5, 6, 7, 8, 9, 10, 11, 12, 13, 14], [0, 1, 2, 3, 4, 5, 6, 7, 8, 9, 10, 11, 12, 13, 14, 15]]
      [1, 3, 5, 15, 16, 17])
    (.drawn [⟨some 37, none, .mov (.t 3)⟩,
      ⟨some 38, none, .mov (.t 3)⟩,
      ⟨some 39, none, .nilchk (.t 38)⟩,
      ⟨some 40, none, .fieldAddr 3 (.t 39)⟩,
      ⟨some 41, none, .load false 1 (.t 40)⟩,
      ⟨some 42, none, .load true 3 (.t 1)⟩,
      ⟨some 43, none, .mov (.t 5)⟩,
      ⟨some 44, none, .call F.plan_Room [.t 42, .t 43]⟩,
      ⟨some 45, none, .bslice [(.int .i64 0)] [(0, 1, .t 44)] 1 1⟩,
      ⟨some 46, none, .app 1 8 (.t 41) (.t 45)⟩,
      ⟨some 47, none, .nilchk (.t 37)⟩,
      ⟨some 48, none, .fieldAddr 3 (.t 47)⟩,
      ⟨none, none, .store 1 (.t 48) (.t 46)⟩]
      [[], [], [1], [2], [3], [], [], [5, 6], [7], [4, 8, 7], [0, 0, 1, 2, 3, 4, 5, 6, 7, 8, 9], [10, 0, 1, 2, 3, 4, 5, 6, 7, 8, 9], [11, 9, 9, 0, 1, 2, 3, 4, 5, 6, 7, 8, 9]]
      [(0, []), (1, []), (2, []), (3, []), (6, []), (4, []), (5, []), (7, [40]), (8, []), (9, []), (10, []), (11, []), (12, [])]
      [[], [], [1], [1, 2], [1, 2, 3], [], [], [5, 6], [5, 6, 7], [1, 2, 3, 4, 5, 6, 7, 8], [0, 1, 2, 3, 4, 5, 6, 7, 8, 9], [0, 1, 2, 3, 4, 5, 6, 7, 8, 9, 10], [0, 1, 2, 3, 4, 5, 6, 7, 8, 9, 10, 11]]
      [1, 3, 15, 16, 17]))) [1, 3, 15, 16, 17])
  (.region [⟨some 49, none, .bin .add (.t 17) (.c (.int .i64 1))⟩,
    ⟨some 17, none, .mov (.t 49)⟩]
    [1, 3, 15, 16, 17]))))
def RC.weave_begin : RFn := ⟨1, [.slot 2],
  (.seq (.region [⟨some 1, none, .box (.t 0)⟩,
    ⟨some 2, none, .mov (.c (.pointer none))⟩]
    [1])
  (.seq (.drawn [⟨some 6, none, .fieldAddr 0 (.t 1)⟩,
    ⟨some 7, none, .load false 1 (.t 6)⟩,
    ⟨some 8, none, .load true 3 (.t 1)⟩,
    ⟨some 9, none, .call F.plan_Cores [.t 8]⟩,
    ⟨some 10, none, .build [(.int .i64 0), (.slice none 0 0), (.slice none 0 0), (.slice none 0 0)] [(0, 1, .t 7), (1, 1, .t 9)]⟩,
    ⟨some 11, none, .box (.t 10)⟩,
    ⟨some 3, none, .mov (.t 11)⟩]
    [[], [0], [], [2], [1, 3], [4], [5, 3, 0, 1, 2, 3, 4, 5]]
    [(0, []), (1, []), (2, []), (3, [6]), (4, []), (5, []), (6, [])]
    [[], [0], [], [2], [0, 1, 2, 3], [0, 1, 2, 3, 4], [0, 1, 2, 3, 4, 5]]
    [1, 3])
  (.seq (.seq (.region [⟨some 12, none, .mov (.t 3)⟩,
    ⟨some 13, none, .nilchk (.t 12)⟩,
    ⟨some 14, none, .fieldAddr 1 (.t 13)⟩,
    ⟨some 15, none, .load false 1 (.t 14)⟩,
    ⟨some 16, none, .len (.t 15)⟩,
    ⟨some 17, none, .mov (.c (.int .i64 0))⟩]
    [1, 3, 15, 16, 17])
  (.block 0
    (.loop [1, 3, 15, 16, 17] RB.weave_begin_1) [3]))
  (.seq (.region [⟨some 50, none, .mov (.t 3)⟩,
    ⟨some 2, none, .mov (.t 50)⟩]
    [2])
  .ret))))⟩

def RB.weave_loom_most_1 : RCode :=
  (.seq (.seq (.region [⟨some 21, none, .mov (.t 9)⟩,
    ⟨some 22, none, .mov (.t 0)⟩,
    ⟨some 23, none, .nilchk (.t 22)⟩,
    ⟨some 24, none, .fieldAddr 0 (.t 23)⟩,
    ⟨some 25, none, .load false 1 (.t 24)⟩,
    ⟨some 26, none, .bin .lss (.t 21) (.t 25)⟩,
    ⟨some 27, none, .mov (.t 26)⟩,
    ⟨some 28, some (27, true), .mov (.t 8)⟩,
    ⟨some 29, some (27, true), .mov (.t 2)⟩,
    ⟨some 30, some (27, true), .bin .lss (.t 28) (.t 29)⟩,
    ⟨some 31, none, .pick (.t 27) (.t 30) (.c (.bool false))⟩]
    [0, 2, 7, 8, 9, 31])
  (.cond (.t 31)
    .skip
    (.exit 0)))
  (.seq (.block 1
    (.seq (.region [⟨some 10, none, .alloc [(u32 0#32)]⟩,
      ⟨none, none, .store 1 (.t 10) (.c (u32 0#32))⟩]
      [0, 2, 7, 8, 9, 10])
    (.seq (.region [⟨some 34, none, .mov (.t 7)⟩,
      ⟨some 35, none, .mov (.t 9)⟩,
      ⟨some 36, none, .call F.weave_match_try [.t 34, .t 35, .t 10]⟩]
      [0, 2, 7, 8, 9, 36])
    (.cond (.t 36)
      (.region [⟨some 37, none, .mov (.t 8)⟩,
        ⟨some 38, none, .bin .add (.t 37) (.c (.int .i64 1))⟩,
        ⟨some 8, none, .mov (.t 38)⟩]
        [0, 2, 7, 8, 9])
      .skip))) [0, 2, 7, 8, 9])
  (.region [⟨some 32, none, .mov (.t 9)⟩,
    ⟨some 33, none, .bin .add (.t 32) (.c (.int .i64 1))⟩,
    ⟨some 9, none, .mov (.t 33)⟩]
    [0, 2, 7, 8, 9])))
def RC.weave_loom_most : RFn := ⟨3, [.slot 6],
  (.seq (.region [⟨some 6, none, .mov (.c (.int .i64 0))⟩]
    [0, 1, 2])
  (.seq (.region [⟨some 11, none, .mov (.t 0)⟩,
    ⟨some 12, none, .mov (.t 0)⟩,
    ⟨some 13, none, .nilchk (.t 12)⟩,
    ⟨some 14, none, .fieldAddr 1 (.t 13)⟩,
    ⟨some 15, none, .load false 1 (.t 14)⟩,
    ⟨some 16, none, .len (.t 15)⟩,
    ⟨some 17, none, .mkslice 1 8 [(.int .i64 0)] (.t 16) (.t 16)⟩,
    ⟨some 18, none, .build [(.pointer none), (.int .i64 0), (.int .i64 0), (.int .i64 0), (.int .i64 0), (.int .i64 0), (.int .i64 0), (.int .i64 0), (.int .i64 0), (.int .i64 0), (.int .i64 0), (.int .i64 0), (.int .i64 0), (.int .i64 0), (.int .i64 0), (.int .i64 0), (.int .i64 0), (.int .i64 0), (.int .i64 0), (.int .i64 0), (.int .i64 0), (.int .i64 0), (.int .i64 0), (.int .i64 0), (.int .i64 0), (.int .i64 0), (.int .i64 0), (.int .i64 0), (.int .i64 0), (.int .i64 0), (.int .i64 0), (.int .i64 0), (.int .i64 0), (.int .i64 0), (.int .i64 0), (.int .i64 0), (.int .i64 0), (.int .i64 0), (.int .i64 0), (.int .i64 0), (.int .i64 0), (.int .i64 0), (.int .i64 0), (.int .i64 0), (.int .i64 0), (.int .i64 0), (.int .i64 0), (.int .i64 0), (.int .i64 0), (.int .i64 0), (.int .i64 0), (.int .i64 0), (.int .i64 0), (.int .i64 0), (.int .i64 0), (.int .i64 0), (.int .i64 0), (.int .i64 0), (.int .i64 0), (.int .i64 0), (.int .i64 0), (.int .i64 0), (.int .i64 0), (.int .i64 0), (.int .i64 0), (.slice none 0 0)] [(0, 1, .t 11), (65, 1, .t 17)]⟩,
    ⟨some 19, none, .box (.t 18)⟩,
    ⟨some 7, none, .mov (.t 19)⟩]
    [0, 1, 2, 7])
  (.seq (.region [⟨some 8, none, .mov (.c (.int .i64 0))⟩]
    [0, 1, 2, 7, 8])
  (.seq (.seq (.region [⟨some 20, none, .mov (.t 1)⟩,
    ⟨some 9, none, .mov (.t 20)⟩]
    [0, 2, 7, 8, 9])
  (.block 0
    (.loop [0, 2, 7, 8, 9] RB.weave_loom_most_1) [8]))
  (.seq (.region [⟨some 39, none, .mov (.t 8)⟩,
    ⟨some 6, none, .mov (.t 39)⟩]
    [6])
  .ret)))))⟩

def RC.ref16_Has : RFn := ⟨2, [.slot 4],
  (.seq (.region [⟨some 2, none, .box (.t 0)⟩,
    ⟨some 4, none, .mov (.c (.bool false))⟩]
    [1, 2])
  (.seq (.region [⟨some 5, none, .mov (.t 1)⟩,
    ⟨some 6, none, .bin .geq (.t 5) (.c (.int .i64 0))⟩,
    ⟨some 7, none, .mov (.t 6)⟩,
    ⟨some 8, some (7, true), .mov (.t 1)⟩,
    ⟨some 9, some (7, true), .bin .leq (.t 8) (.c (.int .i64 15))⟩,
    ⟨some 10, none, .pick (.t 7) (.t 9) (.c (.bool false))⟩,
    ⟨some 11, none, .mov (.t 10)⟩,
    ⟨some 12, some (11, true), .fieldAddr 1 (.t 2)⟩,
    ⟨some 13, some (11, true), .load false 1 (.t 12)⟩,
    ⟨some 14, some (11, true), .conv .u64 (.t 13)⟩,
    ⟨some 15, some (11, true), .mov (.t 1)⟩,
    ⟨some 16, some (11, true), .call F.ref04_Has [.t 14, .t 15]⟩,
    ⟨some 17, none, .pick (.t 11) (.t 16) (.c (.bool false))⟩,
    ⟨some 4, none, .mov (.t 17)⟩]
    [4])
  .ret))⟩

def RC.ref04_Has : RFn := ⟨2, [.slot 4],
  (.seq (.region [⟨some 4, none, .mov (.c (.bool false))⟩]
    [0, 1])
  (.seq (.seq (.region [⟨some 5, none, .mov (.t 1)⟩,
    ⟨some 6, none, .bin .lss (.t 5) (.c (.int .i64 0))⟩,
    ⟨some 7, none, .mov (.t 6)⟩,
    ⟨some 8, some (7, false), .mov (.t 1)⟩,
    ⟨some 9, some (7, false), .bin .gtr (.t 8) (.c (.int .i64 63))⟩,
    ⟨some 10, none, .pick (.t 7) (.c (.bool true)) (.t 9)⟩]
    [0, 1, 10])
  (.cond (.t 10)
    (.seq (.region [⟨some 4, none, .mov (.c (.bool false))⟩]
      [4])
    .ret)
    .skip))
  (.seq (.region [⟨some 11, none, .mov (.t 0)⟩,
    ⟨some 12, none, .mov (.t 1)⟩,
    ⟨some 13, none, .conv .u64 (.t 12)⟩,
    ⟨some 14, none, .bin .shr (.t 11) (.t 13)⟩,
    ⟨some 15, none, .bin .rem (.t 14) (.c (u64 2#64))⟩,
    ⟨some 16, none, .bin .eql (.t 15) (.c (u64 1#64))⟩,
    ⟨some 4, none, .mov (.t 16)⟩]
    [4])
  .ret)))⟩

def RC.ref04_With : RFn := ⟨2, [.slot 4],
  (.seq (.region [⟨some 4, none, .mov (.c (u64 0#64))⟩]
    [0, 1])
  (.seq (.seq (.region [⟨some 5, none, .mov (.t 0)⟩,
    ⟨some 6, none, .mov (.t 1)⟩,
    ⟨some 7, none, .call F.ref04_Has [.t 5, .t 6]⟩,
    ⟨some 8, none, .mov (.t 7)⟩,
    ⟨some 9, some (8, false), .mov (.t 1)⟩,
    ⟨some 10, some (8, false), .bin .lss (.t 9) (.c (.int .i64 0))⟩,
    ⟨some 11, none, .pick (.t 8) (.c (.bool true)) (.t 10)⟩,
    ⟨some 12, none, .mov (.t 11)⟩,
    ⟨some 13, some (12, false), .mov (.t 1)⟩,
    ⟨some 14, some (12, false), .bin .gtr (.t 13) (.c (.int .i64 63))⟩,
    ⟨some 15, none, .pick (.t 12) (.c (.bool true)) (.t 14)⟩]
    [0, 1, 15])
  (.cond (.t 15)
    (.seq (.region [⟨some 16, none, .mov (.t 0)⟩,
      ⟨some 4, none, .mov (.t 16)⟩]
      [4])
    .ret)
    .skip))
  (.seq (.region [⟨some 17, none, .mov (.t 0)⟩,
    ⟨some 18, none, .mov (.t 1)⟩,
    ⟨some 19, none, .conv .u64 (.t 18)⟩,
    ⟨some 20, none, .bin .shl (.c (u64 1#64)) (.t 19)⟩,
    ⟨some 21, none, .bin .add (.t 17) (.t 20)⟩,
    ⟨some 4, none, .mov (.t 21)⟩]
    [4])
  .ret)))⟩

def RC.ref21_least : RFn := ⟨5, [.slot 10],
  (.seq (.region [⟨some 10, none, .mov (.c (.int .i64 0))⟩]
    [0, 1, 2, 3, 4])
  (.seq (.seq (.region [⟨some 13, none, .mov (.t 2)⟩,
    ⟨some 14, none, .mov (.t 0)⟩,
    ⟨some 15, none, .len (.t 14)⟩,
    ⟨some 16, none, .bin .eql (.t 13) (.t 15)⟩]
    [0, 1, 2, 3, 4, 16])
  (.cond (.t 16)
    (.seq (.region [⟨some 17, none, .mov (.t 3)⟩,
      ⟨some 18, none, .call F.ref04_Count [.t 17]⟩,
      ⟨some 19, none, .mov (.t 4)⟩,
      ⟨some 20, none, .bin .add (.t 18) (.t 19)⟩,
      ⟨some 10, none, .mov (.t 20)⟩]
      [10])
    .ret)
    .skip))
  (.seq (.seq (.region [⟨some 21, none, .mov (.t 1)⟩,
    ⟨some 22, none, .mov (.t 2)⟩,
    ⟨some 23, none, .idxS 1 (.t 21) (.t 22)⟩,
    ⟨some 24, none, .load false 1 (.t 23)⟩,
    ⟨some 25, none, .bin .eql (.t 24) (.c (.int .i64 0))⟩]
    [0, 1, 2, 3, 4, 25])
  (.cond (.t 25)
    (.seq (.region [⟨some 26, none, .mov (.t 0)⟩,
      ⟨some 27, none, .mov (.t 1)⟩,
      ⟨some 28, none, .mov (.t 2)⟩,
      ⟨some 29, none, .bin .add (.t 28) (.c (.int .i64 1))⟩,
      ⟨some 30, none, .mov (.t 3)⟩,
      ⟨some 31, none, .mov (.t 4)⟩,
      ⟨some 32, none, .call F.ref21_least [.t 26, .t 27, .t 29, .t 30, .t 31]⟩,
      ⟨some 10, none, .mov (.t 32)⟩]
      [10])
    .ret)
    .skip))
  (.seq (.region [⟨some 33, none, .mov (.t 0)⟩,
    ⟨some 34, none, .mov (.t 1)⟩,
    ⟨some 35, none, .mov (.t 2)⟩,
    ⟨some 36, none, .bin .add (.t 35) (.c (.int .i64 1))⟩,
    ⟨some 37, none, .mov (.t 3)⟩,
    ⟨some 38, none, .mov (.t 0)⟩,
    ⟨some 39, none, .mov (.t 2)⟩,
    ⟨some 40, none, .idxS 1 (.t 38) (.t 39)⟩,
    ⟨some 41, none, .load false 1 (.t 40)⟩,
    ⟨some 42, none, .bin .or (.t 37) (.t 41)⟩,
    ⟨some 43, none, .mov (.t 4)⟩,
    ⟨some 44, none, .call F.ref21_least [.t 33, .t 34, .t 36, .t 42, .t 43]⟩,
    ⟨some 11, none, .mov (.t 44)⟩]
    [0, 1, 2, 3, 4, 11])
  (.seq (.region [⟨some 45, none, .mov (.t 0)⟩,
    ⟨some 46, none, .mov (.t 1)⟩,
    ⟨some 47, none, .mov (.t 2)⟩,
    ⟨some 48, none, .bin .add (.t 47) (.c (.int .i64 1))⟩,
    ⟨some 49, none, .mov (.t 3)⟩,
    ⟨some 50, none, .mov (.t 4)⟩,
    ⟨some 51, none, .mov (.t 1)⟩,
    ⟨some 52, none, .mov (.t 2)⟩,
    ⟨some 53, none, .idxS 1 (.t 51) (.t 52)⟩,
    ⟨some 54, none, .load false 1 (.t 53)⟩,
    ⟨some 55, none, .bin .add (.t 50) (.t 54)⟩,
    ⟨some 56, none, .call F.ref21_least [.t 45, .t 46, .t 48, .t 49, .t 55]⟩,
    ⟨some 12, none, .mov (.t 56)⟩]
    [11, 12])
  (.seq (.seq (.region [⟨some 57, none, .mov (.t 12)⟩,
    ⟨some 58, none, .mov (.t 11)⟩,
    ⟨some 59, none, .bin .lss (.t 57) (.t 58)⟩]
    [11, 12, 59])
  (.cond (.t 59)
    (.seq (.region [⟨some 60, none, .mov (.t 12)⟩,
      ⟨some 10, none, .mov (.t 60)⟩]
      [10])
    .ret)
    .skip))
  (.seq (.region [⟨some 61, none, .mov (.t 11)⟩,
    ⟨some 10, none, .mov (.t 61)⟩]
    [10])
  .ret)))))))⟩

def RB.ref04_All_1 : RCode :=
  (.seq (.seq (.region [⟨some 5, none, .mov (.t 4)⟩,
    ⟨some 6, none, .mov (.t 0)⟩,
    ⟨some 7, none, .call F.ref04_Frame [.t 6]⟩,
    ⟨some 8, none, .bin .lss (.t 5) (.t 7)⟩]
    [0, 3, 4, 8])
  (.cond (.t 8)
    .skip
    (.exit 0)))
  (.seq (.block 1
    (.region [⟨some 11, none, .mov (.t 3)⟩,
      ⟨some 12, none, .mov (.t 4)⟩,
      ⟨some 13, none, .call F.ref04_With [.t 11, .t 12]⟩,
      ⟨some 3, none, .mov (.t 13)⟩]
      [0, 3, 4]) [0, 3, 4])
  (.region [⟨some 9, none, .mov (.t 4)⟩,
    ⟨some 10, none, .bin .add (.t 9) (.c (.int .i64 1))⟩,
    ⟨some 4, none, .mov (.t 10)⟩]
    [0, 3, 4])))
def RC.ref04_All : RFn := ⟨1, [.slot 2],
  (.seq (.region [⟨some 2, none, .mov (.c (u64 0#64))⟩]
    [0])
  (.seq (.region [⟨some 3, none, .mov (.c (u64 0#64))⟩]
    [0, 3])
  (.seq (.seq (.region [⟨some 4, none, .mov (.c (.int .i64 0))⟩]
    [0, 3, 4])
  (.block 0
    (.loop [0, 3, 4] RB.ref04_All_1) [3]))
  (.seq (.region [⟨some 14, none, .mov (.t 3)⟩,
    ⟨some 2, none, .mov (.t 14)⟩]
    [2])
  .ret))))⟩

def RB.ref16_Windows_1 : RCode :=
  (.seq (.seq (.region [⟨some 12, none, .mov (.t 7)⟩,
    ⟨some 13, none, .fieldAddr 2 (.t 2)⟩,
    ⟨some 14, none, .load false 1 (.t 13)⟩,
    ⟨some 15, none, .len (.t 14)⟩,
    ⟨some 16, none, .bin .lss (.t 12) (.t 15)⟩]
    [1, 2, 5, 6, 7, 16])
  (.cond (.t 16)
    .skip
    (.exit 2)))
  (.seq (.block 3
    (.seq (.region [⟨some 19, none, .fieldAddr 2 (.t 2)⟩,
      ⟨some 20, none, .load false 1 (.t 19)⟩,
      ⟨some 21, none, .mov (.t 7)⟩,
      ⟨some 22, none, .idxS 4 (.t 20) (.t 21)⟩,
      ⟨some 23, none, .load true 4 (.t 22)⟩,
      ⟨some 24, none, .mov (.t 1)⟩,
      ⟨some 25, none, .mov (.t 6)⟩,
      ⟨some 26, none, .call F.ref16_At [.t 23, .t 24, .t 25]⟩,
      ⟨some 27, none, .bin .gtr (.t 26) (.c (.int .i64 0))⟩]
      [1, 2, 5, 6, 7, 27])
    (.cond (.t 27)
      (.region [⟨some 28, none, .mov (.t 5)⟩,
        ⟨some 29, none, .mov (.t 6)⟩,
        ⟨some 30, none, .call F.ref04_With [.t 28, .t 29]⟩,
        ⟨some 5, none, .mov (.t 30)⟩]
        [1, 2, 5, 6, 7])
      .skip)) [1, 2, 5, 6, 7])
  (.region [⟨some 17, none, .mov (.t 7)⟩,
    ⟨some 18, none, .bin .add (.t 17) (.c (.int .i64 1))⟩,
    ⟨some 7, none, .mov (.t 18)⟩]
    [1, 2, 5, 6, 7])))
def RB.ref16_Windows_2 : RCode :=
  (.seq (.seq (.region [⟨some 8, none, .mov (.t 6)⟩,
    ⟨some 9, none, .bin .lss (.t 8) (.c (.int .i64 64))⟩]
    [1, 2, 5, 6, 9])
  (.cond (.t 9)
    .skip
    (.exit 0)))
  (.seq (.block 1
    (.seq (.region [⟨some 7, none, .mov (.c (.int .i64 0))⟩]
      [1, 2, 5, 6, 7])
    (.block 2
      (.loop [1, 2, 5, 6, 7] RB.ref16_Windows_1) [1, 2, 5, 6])) [1, 2, 5, 6])
  (.region [⟨some 10, none, .mov (.t 6)⟩,
    ⟨some 11, none, .bin .add (.t 10) (.c (.int .i64 1))⟩,
    ⟨some 6, none, .mov (.t 11)⟩]
    [1, 2, 5, 6])))
def RC.ref16_Windows : RFn := ⟨2, [.slot 4],
  (.seq (.region [⟨some 2, none, .box (.t 0)⟩,
    ⟨some 4, none, .mov (.c (u64 0#64))⟩]
    [1, 2])
  (.seq (.region [⟨some 5, none, .mov (.c (u64 0#64))⟩]
    [1, 2, 5])
  (.seq (.seq (.region [⟨some 6, none, .mov (.c (.int .i64 0))⟩]
    [1, 2, 5, 6])
  (.block 0
    (.loop [1, 2, 5, 6] RB.ref16_Windows_2) [5]))
  (.seq (.region [⟨some 31, none, .mov (.t 5)⟩,
    ⟨some 4, none, .mov (.t 31)⟩]
    [4])
  .ret))))⟩

def RC.ref16_Room : RFn := ⟨2, [.slot 4],
  (.seq (.region [⟨some 2, none, .box (.t 0)⟩,
    ⟨some 4, none, .mov (.c (.int .i64 0))⟩]
    [1, 2])
  (.seq (.seq (.region [⟨some 5, none, .load true 3 (.t 2)⟩,
    ⟨some 6, none, .mov (.t 1)⟩,
    ⟨some 7, none, .call F.ref16_Has [.t 5, .t 6]⟩,
    ⟨some 8, none, .un .not (.t 7)⟩]
    [1, 2, 8])
  (.cond (.t 8)
    (.seq (.region [⟨some 4, none, .mov (.c (.int .i64 0))⟩]
      [4])
    .ret)
    .skip))
  (.seq (.drawn [⟨some 9, none, .fieldAddr 0 (.t 2)⟩,
    ⟨some 10, none, .load false 1 (.t 9)⟩,
    ⟨some 11, none, .load true 3 (.t 2)⟩,
    ⟨some 12, none, .mov (.t 1)⟩,
    ⟨some 13, none, .call F.ref16_Load [.t 11, .t 12]⟩,
    ⟨some 14, none, .bin .sub (.t 10) (.t 13)⟩,
    ⟨some 4, none, .mov (.t 14)⟩]
    [[], [0], [], [], [2, 3], [1, 4], [5, 4, 0, 1, 2, 3, 4, 5]]
    [(0, []), (3, []), (1, []), (2, []), (4, [9]), (5, []), (6, [])]
    [[], [0], [], [], [2, 3], [0, 1, 2, 3, 4], [0, 1, 2, 3, 4, 5]]
    [4])
  .ret)))⟩

def RC.weave_why : RFn := ⟨2, [.slot 4],
  (.seq (.region [⟨some 2, none, .box (.t 0)⟩,
    ⟨some 3, none, .box (.t 1)⟩,
    ⟨some 4, none, .mov (.c (.int .i64 0))⟩]
    [2, 3])
  (.seq (.seq (.region [⟨some 11, none, .load true 3 (.t 2)⟩,
    ⟨some 12, none, .call F.plan_Check [.t 11]⟩,
    ⟨some 5, none, .mov (.t 12)⟩]
    [2, 3, 5])
  (.seq (.region [⟨some 13, none, .mov (.t 5)⟩,
    ⟨some 14, none, .bin .neq (.t 13) (.c (.int .i64 0))⟩]
    [2, 3, 5, 14])
  (.cond (.t 14)
    (.seq (.region [⟨some 15, none, .mov (.t 5)⟩,
      ⟨some 4, none, .mov (.t 15)⟩]
      [4])
    .ret)
    .skip)))
  (.seq (.seq (.region [⟨some 16, none, .fieldAddr 0 (.t 2)⟩,
    ⟨some 17, none, .load false 1 (.t 16)⟩,
    ⟨some 18, none, .load true 2 (.t 3)⟩,
    ⟨some 19, none, .bslice [(.int .i64 0), (.int .i64 0)] [(0, 2, .t 18)] 1 2⟩,
    ⟨some 20, none, .call F.order_Check [.t 17, .t 19]⟩,
    ⟨some 6, none, .mov (.t 20)⟩]
    [2, 3, 6])
  (.seq (.region [⟨some 21, none, .mov (.t 6)⟩,
    ⟨some 22, none, .bin .neq (.t 21) (.c (.int .i64 0))⟩]
    [2, 3, 6, 22])
  (.cond (.t 22)
    (.seq (.region [⟨some 23, none, .mov (.t 6)⟩,
      ⟨some 4, none, .mov (.t 23)⟩]
      [4])
    .ret)
    .skip)))
  (.seq (.seq (.region [⟨some 25, none, .load true 3 (.t 2)⟩,
    ⟨some 26, none, .fieldAddr 0 (.t 3)⟩,
    ⟨some 27, none, .load false 1 (.t 26)⟩,
    ⟨some 28, none, .call F.plan_Find [.t 25, .t 27]⟩,
    ⟨some 24, none, .mov (.t 28)⟩,
    ⟨some 29, none, .ext 0 (.t 24)⟩,
    ⟨some 30, none, .ext 1 (.t 24)⟩,
    ⟨some 7, none, .alloc [(.int .i64 0), (.int .i64 0), (.int .i64 0), (.slice none 0 0)]⟩,
    ⟨none, none, .store 4 (.t 7) (.t 29)⟩,
    ⟨some 8, none, .mov (.t 30)⟩]
    [2, 3, 8])
  (.seq (.region [⟨some 31, none, .mov (.t 8)⟩]
    [2, 3, 31])
  (.cond (.t 31)
    (.seq (.region [⟨some 4, none, .mov (.c (.int .i64 11))⟩]
      [4])
    .ret)
    .skip)))
  (.seq (.seq (.region [⟨some 33, none, .load true 3 (.t 2)⟩,
    ⟨some 34, none, .fieldAddr 1 (.t 3)⟩,
    ⟨some 35, none, .load false 1 (.t 34)⟩,
    ⟨some 36, none, .call F.ffd_First [.t 33, .t 35]⟩,
    ⟨some 32, none, .mov (.t 36)⟩,
    ⟨some 37, none, .ext 0 (.t 32)⟩,
    ⟨some 38, none, .ext 1 (.t 32)⟩,
    ⟨some 9, none, .mov (.t 37)⟩,
    ⟨some 10, none, .mov (.t 38)⟩]
    [2, 10])
  (.seq (.drawn [⟨some 39, none, .mov (.t 10)⟩,
    ⟨some 40, none, .mov (.t 39)⟩,
    ⟨some 41, some (40, false), .load true 3 (.t 2)⟩,
    ⟨some 42, some (40, false), .call F.plan_Splits [.t 41]⟩,
    ⟨some 43, some (40, false), .load true 3 (.t 2)⟩,
    ⟨some 44, some (40, false), .call F.plan_Cores [.t 43]⟩,
    ⟨some 45, some (40, false), .len (.t 44)⟩,
    ⟨some 46, some (40, false), .bin .sub (.t 45) (.c (.int .i64 1))⟩,
    ⟨some 47, some (40, false), .bin .geq (.t 42) (.t 46)⟩,
    ⟨some 48, none, .pick (.t 40) (.c (.bool true)) (.t 47)⟩]
    [[], [0], [1], [2, 1, 1], [1], [4, 3, 1], [5, 1], [6, 1], [3, 7, 1], [1, 8]]
    [(0, []), (1, []), (2, []), (4, []), (3, [2]), (5, []), (6, []), (7, []), (8, []), (9, [])]
    [[], [0], [0, 1], [0, 1, 2], [0, 1], [0, 1, 2, 3, 4], [0, 1, 2, 3, 4, 5], [0, 1, 2, 3, 4, 5, 6], [0, 1, 2, 3, 4, 5, 6, 7], [0, 1, 2, 3, 4, 5, 6, 7, 8]]
    [48])
  (.cond (.t 48)
    (.seq (.region [⟨some 4, none, .mov (.c (.int .i64 15))⟩]
      [4])
    .ret)
    .skip)))
  (.seq (.region [⟨some 4, none, .mov (.c (.int .i64 0))⟩]
    [4])
  .ret))))))⟩

def RB.weave_loom_give_1 : RCode :=
  (.seq (.region [⟨some 14, none, .bin .lss (.t 13) (.t 12)⟩]
    [0, 1, 2, 12, 13, 14])
  (.seq (.cond (.t 14)
    .skip
    (.exit 0))
  (.seq (.block 1
    (.seq (.region [⟨some 15, none, .mov (.t 13)⟩,
      ⟨some 7, none, .mov (.t 15)⟩]
      [0, 1, 2, 7, 12, 13])
    (.seq (.seq (.region [⟨some 16, none, .mov (.t 0)⟩,
      ⟨some 17, none, .nilchk (.t 16)⟩,
      ⟨some 18, none, .fieldAddr 3 (.t 17)⟩,
      ⟨some 19, none, .load false 1 (.t 18)⟩,
      ⟨some 20, none, .mov (.t 7)⟩,
      ⟨some 21, none, .idxS 1 (.t 19) (.t 20)⟩,
      ⟨some 22, none, .load false 1 (.t 21)⟩,
      ⟨some 23, none, .bin .eql (.t 22) (.c (.int .i64 0))⟩,
      ⟨some 24, none, .mov (.t 23)⟩,
      ⟨some 25, some (24, false), .mov (.t 0)⟩,
      ⟨some 26, some (24, false), .nilchk (.t 25)⟩,
      ⟨some 27, some (24, false), .fieldAddr 2 (.t 26)⟩,
      ⟨some 28, some (24, false), .load false 1 (.t 27)⟩,
      ⟨some 29, some (24, false), .mov (.t 7)⟩,
      ⟨some 30, some (24, false), .idxS 1 (.t 28) (.t 29)⟩,
      ⟨some 31, some (24, false), .load false 1 (.t 30)⟩,
      ⟨some 32, some (24, false), .mov (.t 1)⟩,
      ⟨some 33, some (24, false), .call F.mask_Has [.t 31, .t 32]⟩,
      ⟨some 34, some (24, false), .un .not (.t 33)⟩,
      ⟨some 35, none, .pick (.t 24) (.c (.bool true)) (.t 34)⟩]
      [0, 1, 2, 7, 12, 13, 35])
    (.cond (.t 35)
      (.exit 1)
      .skip))
    (.seq (.region [⟨some 36, none, .mov (.t 0)⟩,
      ⟨some 37, none, .nilchk (.t 36)⟩,
      ⟨some 38, none, .fieldAddr 3 (.t 37)⟩,
      ⟨some 39, none, .load false 1 (.t 38)⟩,
      ⟨some 40, none, .mov (.t 7)⟩,
      ⟨some 41, none, .idxS 1 (.t 39) (.t 40)⟩,
      ⟨some 42, none, .load false 1 (.t 41)⟩,
      ⟨some 43, none, .bin .sub (.t 42) (.c (.int .i64 1))⟩,
      ⟨some 44, none, .idxS 1 (.t 39) (.t 40)⟩,
      ⟨none, none, .store 1 (.t 44) (.t 43)⟩]
      [0, 1, 2, 7, 12, 13])
    (.seq (.seq (.region [⟨some 45, none, .mov (.t 0)⟩,
      ⟨some 46, none, .mov (.t 1)⟩,
      ⟨some 47, none, .bin .add (.t 46) (.c (.int .i64 1))⟩,
      ⟨some 48, none, .mov (.t 2)⟩,
      ⟨some 49, none, .bin .sub (.t 48) (.c (.int .i64 1))⟩,
      ⟨some 50, none, .call F.weave_loom_most [.t 45, .t 47, .t 49]⟩,
      ⟨some 51, none, .mov (.t 2)⟩,
      ⟨some 52, none, .bin .sub (.t 51) (.c (.int .i64 1))⟩,
      ⟨some 53, none, .bin .geq (.t 50) (.t 52)⟩]
      [0, 1, 2, 7, 12, 13, 53])
    (.cond (.t 53)
      (.seq (.region [⟨some 54, none, .mov (.t 7)⟩,
        ⟨some 6, none, .mov (.t 54)⟩]
        [6])
      .ret)
      .skip))
    (.region [⟨some 55, none, .mov (.t 0)⟩,
      ⟨some 56, none, .nilchk (.t 55)⟩,
      ⟨some 57, none, .fieldAddr 3 (.t 56)⟩,
      ⟨some 58, none, .load false 1 (.t 57)⟩,
      ⟨some 59, none, .mov (.t 7)⟩,
      ⟨some 60, none, .idxS 1 (.t 58) (.t 59)⟩,
      ⟨some 61, none, .load false 1 (.t 60)⟩,
      ⟨some 62, none, .bin .add (.t 61) (.c (.int .i64 1))⟩,
      ⟨some 63, none, .idxS 1 (.t 58) (.t 59)⟩,
      ⟨none, none, .store 1 (.t 63) (.t 62)⟩]
      [0, 1, 2, 12, 13]))))) [0, 1, 2, 12, 13])
  (.region [⟨some 64, none, .bin .add (.t 13) (.c (.int .i64 1))⟩,
    ⟨some 13, none, .mov (.t 64)⟩]
    [0, 1, 2, 12, 13]))))
def RC.weave_loom_give : RFn := ⟨3, [.slot 6],
  (.seq (.region [⟨some 6, none, .mov (.c (.int .i64 0))⟩]
    [0, 1, 2])
  (.seq (.seq (.region [⟨some 8, none, .mov (.t 0)⟩,
    ⟨some 9, none, .nilchk (.t 8)⟩,
    ⟨some 10, none, .fieldAddr 1 (.t 9)⟩,
    ⟨some 11, none, .load false 1 (.t 10)⟩,
    ⟨some 12, none, .len (.t 11)⟩,
    ⟨some 13, none, .mov (.c (.int .i64 0))⟩]
    [0, 1, 2, 12, 13])
  (.block 0
    (.loop [0, 1, 2, 12, 13] RB.weave_loom_give_1) []))
  (.seq (.region [⟨some 6, none, .mov (.c (.int .i64 (-1)))⟩]
    [6])
  .ret)))⟩

def RB.ref18_Why_1 : RCode :=
  (.seq (.seq (.region [⟨some 19, none, .mov (.t 6)⟩,
    ⟨some 20, none, .mov (.t 1)⟩,
    ⟨some 21, none, .len (.t 20)⟩,
    ⟨some 22, none, .bin .lss (.t 19) (.t 21)⟩]
    [1, 2, 6, 22])
  (.cond (.t 22)
    .skip
    (.exit 0)))
  (.seq (.block 1
    (.seq (.drawn [⟨some 26, none, .load true 3 (.t 2)⟩,
      ⟨some 27, none, .mov (.t 1)⟩,
      ⟨some 28, none, .mov (.t 6)⟩,
      ⟨some 29, none, .idxS 2 (.t 27) (.t 28)⟩,
      ⟨some 30, none, .fieldAddr 0 (.t 29)⟩,
      ⟨some 31, none, .load false 1 (.t 30)⟩,
      ⟨some 32, none, .call F.ref16_Find [.t 26, .t 31]⟩,
      ⟨some 25, none, .mov (.t 32)⟩,
      ⟨some 33, none, .ext 0 (.t 25)⟩,
      ⟨some 34, none, .ext 1 (.t 25)⟩,
      ⟨some 7, none, .alloc [(.int .i64 0), (.int .i64 0), (.int .i64 0), (.slice none 0 0)]⟩,
      ⟨none, none, .store 4 (.t 7) (.t 33)⟩,
      ⟨some 8, none, .mov (.t 34)⟩]
      [[], [], [], [1, 2], [3], [4], [0, 5], [6], [7], [7], [], [10, 8, 6, 0, 1, 2, 3, 4, 5, 6, 7, 8, 10], [9, 11, 0, 1, 2, 3, 4, 5, 6, 7, 8, 9, 10, 11]]
      [(1, []), (2, []), (3, []), (4, []), (0, []), (5, []), (6, []), (7, []), (8, []), (9, []), (10, []), (11, []), (12, [])]
      [[], [], [], [1, 2], [1, 2, 3], [1, 2, 3, 4], [0, 1, 2, 3, 4, 5], [0, 1, 2, 3, 4, 5, 6], [0, 1, 2, 3, 4, 5, 6, 7], [0, 1, 2, 3, 4, 5, 6, 7], [], [0, 1, 2, 3, 4, 5, 6, 7, 8, 10], [0, 1, 2, 3, 4, 5, 6, 7, 8, 9, 10, 11]]
      [1, 2, 6, 8])
    (.seq (.region [⟨some 35, none, .mov (.t 8)⟩]
      [1, 2, 6, 35])
    (.cond (.t 35)
      (.seq (.region [⟨some 4, none, .mov (.c (.int .i64 11))⟩]
        [4])
      .ret)
      .skip))) [1, 2, 6])
  (.region [⟨some 23, none, .mov (.t 6)⟩,
    ⟨some 24, none, .bin .add (.t 23) (.c (.int .i64 1))⟩,
    ⟨some 6, none, .mov (.t 24)⟩]
    [1, 2, 6])))
def RC.ref18_Why : RFn := ⟨2, [.slot 4],
  (.seq (.region [⟨some 2, none, .box (.t 0)⟩,
    ⟨some 4, none, .mov (.c (.int .i64 0))⟩]
    [1, 2])
  (.seq (.seq (.region [⟨some 9, none, .load true 3 (.t 2)⟩,
    ⟨some 10, none, .call F.ref16_Right [.t 9]⟩,
    ⟨some 11, none, .un .not (.t 10)⟩]
    [1, 2, 11])
  (.cond (.t 11)
    (.seq (.region [⟨some 4, none, .mov (.c (.int .i64 30))⟩]
      [4])
    .ret)
    .skip))
  (.seq (.region [⟨some 12, none, .fieldAddr 0 (.t 2)⟩,
    ⟨some 13, none, .load false 1 (.t 12)⟩,
    ⟨some 14, none, .mov (.t 1)⟩,
    ⟨some 15, none, .call F.ref08_Check [.t 13, .t 14]⟩,
    ⟨some 5, none, .mov (.t 15)⟩]
    [1, 2, 5])
  (.seq (.seq (.region [⟨some 16, none, .mov (.t 5)⟩,
    ⟨some 17, none, .bin .neq (.t 16) (.c (.int .i64 0))⟩]
    [1, 2, 5, 17])
  (.cond (.t 17)
    (.seq (.region [⟨some 18, none, .mov (.t 5)⟩,
      ⟨some 4, none, .mov (.t 18)⟩]
      [4])
    .ret)
    .skip))
  (.seq (.seq (.region [⟨some 6, none, .mov (.c (.int .i64 0))⟩]
    [1, 2, 6])
  (.block 0
    (.loop [1, 2, 6] RB.ref18_Why_1) []))
  (.seq (.region [⟨some 4, none, .mov (.c (.int .i64 0))⟩]
    [4])
  .ret))))))⟩

def RB.ref18_First_1 : RCode :=
  (.seq (.seq (.region [⟨some 6, none, .mov (.t 5)⟩,
    ⟨some 7, none, .bin .lss (.t 6) (.c (.int .i64 16))⟩]
    [1, 2, 5, 7])
  (.cond (.t 7)
    .skip
    (.exit 0)))
  (.seq (.block 1
    (.seq (.region [⟨some 10, none, .load true 3 (.t 2)⟩,
      ⟨some 11, none, .mov (.t 5)⟩,
      ⟨some 12, none, .call F.ref16_Has [.t 10, .t 11]⟩,
      ⟨some 13, none, .mov (.t 12)⟩,
      ⟨some 14, some (13, true), .load true 3 (.t 2)⟩,
      ⟨some 15, some (13, true), .mov (.t 5)⟩,
      ⟨some 16, some (13, true), .call F.ref16_Room [.t 14, .t 15]⟩,
      ⟨some 17, some (13, true), .mov (.t 1)⟩,
      ⟨some 18, some (13, true), .bin .geq (.t 16) (.t 17)⟩,
      ⟨some 19, none, .pick (.t 13) (.t 18) (.c (.bool false))⟩]
      [1, 2, 5, 19])
    (.cond (.t 19)
      (.seq (.region [⟨some 20, none, .mov (.t 5)⟩,
        ⟨some 4, none, .mov (.t 20)⟩]
        [4])
      .ret)
      .skip)) [1, 2, 5])
  (.region [⟨some 8, none, .mov (.t 5)⟩,
    ⟨some 9, none, .bin .add (.t 8) (.c (.int .i64 1))⟩,
    ⟨some 5, none, .mov (.t 9)⟩]
    [1, 2, 5])))
def RC.ref18_First : RFn := ⟨2, [.slot 4],
  (.seq (.region [⟨some 2, none, .box (.t 0)⟩,
    ⟨some 4, none, .mov (.c (.int .i64 0))⟩]
    [1, 2])
  (.seq (.seq (.region [⟨some 5, none, .mov (.c (.int .i64 0))⟩]
    [1, 2, 5])
  (.block 0
    (.loop [1, 2, 5] RB.ref18_First_1) []))
  (.seq (.region [⟨some 4, none, .mov (.c (.int .i64 (-1)))⟩]
    [4])
  .ret)))⟩

def RB.ref16_Drop_1 : RCode :=
  (.seq (.seq (.region [⟨some 8, none, .mov (.t 6)⟩,
    ⟨some 9, none, .fieldAddr 2 (.t 2)⟩,
    ⟨some 10, none, .load false 1 (.t 9)⟩,
    ⟨some 11, none, .len (.t 10)⟩,
    ⟨some 12, none, .bin .lss (.t 8) (.t 11)⟩]
    [1, 2, 4, 5, 6, 12])
  (.cond (.t 12)
    .skip
    (.exit 0)))
  (.seq (.block 1
    (.seq (.region [⟨some 15, none, .fieldAddr 2 (.t 2)⟩,
      ⟨some 16, none, .load false 1 (.t 15)⟩,
      ⟨some 17, none, .mov (.t 6)⟩,
      ⟨some 18, none, .idxS 4 (.t 16) (.t 17)⟩,
      ⟨some 19, none, .fieldAddr 0 (.t 18)⟩,
      ⟨some 20, none, .load false 1 (.t 19)⟩,
      ⟨some 21, none, .mov (.t 1)⟩,
      ⟨some 22, none, .bin .neq (.t 20) (.t 21)⟩]
      [1, 2, 4, 5, 6, 22])
    (.cond (.t 22)
      (.region [⟨some 23, none, .mov (.t 5)⟩,
        ⟨some 24, none, .fieldAddr 2 (.t 2)⟩,
        ⟨some 25, none, .load false 1 (.t 24)⟩,
        ⟨some 26, none, .mov (.t 6)⟩,
        ⟨some 27, none, .idxS 4 (.t 25) (.t 26)⟩,
        ⟨some 28, none, .load true 4 (.t 27)⟩,
        ⟨some 29, none, .bslice [(.int .i64 0), (.int .i64 0), (.int .i64 0), (.slice none 0 0)] [(0, 4, .t 28)] 1 4⟩,
        ⟨some 30, none, .app 4 48 (.t 23) (.t 29)⟩,
        ⟨some 5, none, .mov (.t 30)⟩]
        [1, 2, 4, 5, 6])
      .skip)) [1, 2, 4, 5, 6])
  (.region [⟨some 13, none, .mov (.t 6)⟩,
    ⟨some 14, none, .bin .add (.t 13) (.c (.int .i64 1))⟩,
    ⟨some 6, none, .mov (.t 14)⟩]
    [1, 2, 4, 5, 6])))
def RC.ref16_Drop : RFn := ⟨2, [.cell 4 true 3],
  (.seq (.region [⟨some 2, none, .box (.t 0)⟩,
    ⟨some 4, none, .alloc [(.int .i64 0), (u32 0#32), (.slice none 0 0)]⟩]
    [1, 2, 4])
  (.seq (.region [⟨some 7, none, .bslice [] [] 0 4⟩,
    ⟨some 5, none, .mov (.t 7)⟩]
    [1, 2, 4, 5])
  (.seq (.seq (.region [⟨some 6, none, .mov (.c (.int .i64 0))⟩]
    [1, 2, 4, 5, 6])
  (.block 0
    (.loop [1, 2, 4, 5, 6] RB.ref16_Drop_1) [2, 4, 5]))
  (.seq (.region [⟨some 31, none, .mov (.t 5)⟩,
    ⟨some 32, none, .fieldAddr 2 (.t 2)⟩,
    ⟨none, none, .store 1 (.t 32) (.t 31)⟩]
    [2, 4])
  (.seq (.region [⟨some 33, none, .load true 3 (.t 2)⟩,
    ⟨none, none, .store 3 (.t 4) (.t 33)⟩]
    [4])
  .ret)))))⟩

def RC.ref08_Is : RFn := ⟨1, [.slot 2],
  (.seq (.region [⟨some 2, none, .mov (.c (.bool false))⟩]
    [0])
  (.seq (.region [⟨some 3, none, .mov (.t 0)⟩,
    ⟨some 4, none, .bin .geq (.t 3) (.c (.int .i64 1))⟩,
    ⟨some 5, none, .mov (.t 4)⟩,
    ⟨some 6, some (5, true), .mov (.t 0)⟩,
    ⟨some 7, some (5, true), .bin .leq (.t 6) (.c (.int .i64 200))⟩,
    ⟨some 8, none, .pick (.t 5) (.t 7) (.c (.bool false))⟩,
    ⟨some 9, none, .mov (.t 8)⟩,
    ⟨some 10, some (9, false), .mov (.t 0)⟩,
    ⟨some 11, some (9, false), .bin .geq (.t 10) (.c (.int .i64 1001))⟩,
    ⟨some 12, some (9, false), .mov (.t 11)⟩,
    ⟨some 13, some (12, true), .mov (.t 0)⟩,
    ⟨some 14, some (12, true), .bin .leq (.t 13) (.c (.int .i64 1040))⟩,
    ⟨some 15, some (9, false), .pick (.t 12) (.t 14) (.c (.bool false))⟩,
    ⟨some 16, none, .pick (.t 9) (.c (.bool true)) (.t 15)⟩,
    ⟨some 2, none, .mov (.t 16)⟩]
    [2])
  .ret))⟩

def RB.ref16_At_1 : RCode :=
  (.seq (.seq (.region [⟨some 9, none, .mov (.t 8)⟩,
    ⟨some 10, none, .fieldAddr 3 (.t 3)⟩,
    ⟨some 11, none, .load false 1 (.t 10)⟩,
    ⟨some 12, none, .len (.t 11)⟩,
    ⟨some 13, none, .bin .lss (.t 9) (.t 12)⟩]
    [1, 2, 3, 7, 8, 13])
  (.cond (.t 13)
    .skip
    (.exit 0)))
  (.seq (.block 1
    (.seq (.region [⟨some 16, none, .mov (.t 1)⟩,
      ⟨some 17, none, .bin .lss (.t 16) (.c (.int .i64 0))⟩,
      ⟨some 18, none, .mov (.t 17)⟩,
      ⟨some 19, some (18, false), .fieldAddr 3 (.t 3)⟩,
      ⟨some 20, some (18, false), .load false 1 (.t 19)⟩,
      ⟨some 21, some (18, false), .mov (.t 8)⟩,
      ⟨some 22, some (18, false), .idxS 2 (.t 20) (.t 21)⟩,
      ⟨some 23, some (18, false), .fieldAddr 0 (.t 22)⟩,
      ⟨some 24, some (18, false), .load false 1 (.t 23)⟩,
      ⟨some 25, some (18, false), .mov (.t 1)⟩,
      ⟨some 26, some (18, false), .bin .eql (.t 24) (.t 25)⟩,
      ⟨some 27, none, .pick (.t 18) (.c (.bool true)) (.t 26)⟩,
      ⟨some 28, none, .mov (.t 27)⟩,
      ⟨some 29, some (28, true), .fieldAddr 3 (.t 3)⟩,
      ⟨some 30, some (28, true), .load false 1 (.t 29)⟩,
      ⟨some 31, some (28, true), .mov (.t 8)⟩,
      ⟨some 32, some (28, true), .idxS 2 (.t 30) (.t 31)⟩,
      ⟨some 33, some (28, true), .fieldAddr 1 (.t 32)⟩,
      ⟨some 34, some (28, true), .load false 1 (.t 33)⟩,
      ⟨some 35, some (28, true), .mov (.t 2)⟩,
      ⟨some 36, some (28, true), .call F.ref04_Has [.t 34, .t 35]⟩,
      ⟨some 37, none, .pick (.t 28) (.t 36) (.c (.bool false))⟩]
      [1, 2, 3, 7, 8, 37])
    (.cond (.t 37)
      (.region [⟨some 38, none, .mov (.t 7)⟩,
        ⟨some 39, none, .bin .add (.t 38) (.c (.int .i64 1))⟩,
        ⟨some 7, none, .mov (.t 39)⟩]
        [1, 2, 3, 7, 8])
      .skip)) [1, 2, 3, 7, 8])
  (.region [⟨some 14, none, .mov (.t 8)⟩,
    ⟨some 15, none, .bin .add (.t 14) (.c (.int .i64 1))⟩,
    ⟨some 8, none, .mov (.t 15)⟩]
    [1, 2, 3, 7, 8])))
def RC.ref16_At : RFn := ⟨3, [.slot 6],
  (.seq (.region [⟨some 3, none, .box (.t 0)⟩,
    ⟨some 6, none, .mov (.c (.int .i64 0))⟩]
    [1, 2, 3])
  (.seq (.region [⟨some 7, none, .mov (.c (.int .i64 0))⟩]
    [1, 2, 3, 7])
  (.seq (.seq (.region [⟨some 8, none, .mov (.c (.int .i64 0))⟩]
    [1, 2, 3, 7, 8])
  (.block 0
    (.loop [1, 2, 3, 7, 8] RB.ref16_At_1) [7]))
  (.seq (.region [⟨some 40, none, .mov (.t 7)⟩,
    ⟨some 6, none, .mov (.t 40)⟩]
    [6])
  .ret))))⟩

def RC.ref04_Count : RFn := ⟨1, [.slot 2],
  (.seq (.region [⟨some 2, none, .mov (.c (.int .i64 0))⟩]
    [0])
  (.seq (.region [⟨some 3, none, .mov (.t 0)⟩,
    ⟨some 4, none, .call F.ref04_Ticks [.t 3]⟩,
    ⟨some 5, none, .len (.t 4)⟩,
    ⟨some 2, none, .mov (.t 5)⟩]
    [2])
  .ret))⟩

def RB.ref16_Wholes_1 : RCode :=
  (.seq (.seq (.region [⟨some 9, none, .mov (.t 6)⟩,
    ⟨some 10, none, .fieldAddr 2 (.t 2)⟩,
    ⟨some 11, none, .load false 1 (.t 10)⟩,
    ⟨some 12, none, .len (.t 11)⟩,
    ⟨some 13, none, .bin .lss (.t 9) (.t 12)⟩]
    [1, 2, 5, 6, 13])
  (.cond (.t 13)
    .skip
    (.exit 0)))
  (.seq (.block 1
    (.seq (.region [⟨some 16, none, .fieldAddr 2 (.t 2)⟩,
      ⟨some 17, none, .load false 1 (.t 16)⟩,
      ⟨some 18, none, .mov (.t 6)⟩,
      ⟨some 19, none, .idxS 4 (.t 17) (.t 18)⟩,
      ⟨some 20, none, .load true 4 (.t 19)⟩,
      ⟨some 7, none, .alloc [(.int .i64 0), (.int .i64 0), (.int .i64 0), (.slice none 0 0)]⟩,
      ⟨none, none, .store 4 (.t 7) (.t 20)⟩]
      [1, 2, 5, 6, 7])
    (.seq (.region [⟨some 21, none, .fieldAddr 3 (.t 7)⟩,
      ⟨some 22, none, .load false 1 (.t 21)⟩,
      ⟨some 23, none, .len (.t 22)⟩,
      ⟨some 24, none, .bin .eql (.t 23) (.c (.int .i64 0))⟩,
      ⟨some 25, none, .mov (.t 24)⟩,
      ⟨some 26, some (25, true), .fieldAddr 2 (.t 7)⟩,
      ⟨some 27, some (25, true), .load false 1 (.t 26)⟩,
      ⟨some 28, some (25, true), .mov (.t 1)⟩,
      ⟨some 29, some (25, true), .bin .eql (.t 27) (.t 28)⟩,
      ⟨some 30, none, .pick (.t 25) (.t 29) (.c (.bool false))⟩]
      [1, 2, 5, 6, 7, 30])
    (.cond (.t 30)
      (.region [⟨some 31, none, .mov (.t 5)⟩,
        ⟨some 32, none, .fieldAddr 0 (.t 7)⟩,
        ⟨some 33, none, .load false 1 (.t 32)⟩,
        ⟨some 34, none, .fieldAddr 1 (.t 7)⟩,
        ⟨some 35, none, .load false 1 (.t 34)⟩,
        ⟨some 36, none, .build [(.int .i64 0), (.int .i64 0)] [(0, 1, .t 33), (1, 1, .t 35)]⟩,
        ⟨some 37, none, .bslice [(.int .i64 0), (.int .i64 0)] [(0, 2, .t 36)] 1 2⟩,
        ⟨some 38, none, .app 2 16 (.t 31) (.t 37)⟩,
        ⟨some 5, none, .mov (.t 38)⟩]
        [1, 2, 5, 6])
      .skip))) [1, 2, 5, 6])
  (.region [⟨some 14, none, .mov (.t 6)⟩,
    ⟨some 15, none, .bin .add (.t 14) (.c (.int .i64 1))⟩,
    ⟨some 6, none, .mov (.t 15)⟩]
    [1, 2, 5, 6])))
def RC.ref16_Wholes : RFn := ⟨2, [.slot 4],
  (.seq (.region [⟨some 2, none, .box (.t 0)⟩,
    ⟨some 4, none, .mov (.c (.slice none 0 0))⟩]
    [1, 2])
  (.seq (.region [⟨some 8, none, .bslice [] [] 0 2⟩,
    ⟨some 5, none, .mov (.t 8)⟩]
    [1, 2, 5])
  (.seq (.seq (.region [⟨some 6, none, .mov (.c (.int .i64 0))⟩]
    [1, 2, 5, 6])
  (.block 0
    (.loop [1, 2, 5, 6] RB.ref16_Wholes_1) [5]))
  (.seq (.region [⟨some 39, none, .mov (.t 5)⟩,
    ⟨some 4, none, .mov (.t 39)⟩]
    [4])
  .ret))))⟩

def RC.plan_place : RFn := ⟨2, [.slot 4],
  (.seq (.region [⟨some 2, none, .box (.t 0)⟩,
    ⟨some 3, none, .box (.t 1)⟩,
    ⟨some 4, none, .mov (.c (.bool false))⟩]
    [2, 3])
  (.seq (.seq (.region [⟨some 9, none, .fieldAddr 0 (.t 3)⟩,
    ⟨some 10, none, .load false 1 (.t 9)⟩,
    ⟨some 11, none, .call F.order_Kind [.t 10]⟩,
    ⟨some 8, none, .mov (.t 11)⟩,
    ⟨some 12, none, .ext 0 (.t 8)⟩,
    ⟨some 13, none, .ext 1 (.t 8)⟩,
    ⟨some 14, none, .ext 2 (.t 8)⟩,
    ⟨some 5, none, .mov (.t 12)⟩,
    ⟨some 6, none, .mov (.t 13)⟩,
    ⟨some 7, none, .mov (.t 14)⟩]
    [2, 3, 7])
  (.seq (.region [⟨some 15, none, .mov (.t 7)⟩,
    ⟨some 16, none, .un .not (.t 15)⟩,
    ⟨some 17, none, .mov (.t 16)⟩,
    ⟨some 18, some (17, false), .fieldAddr 1 (.t 3)⟩,
    ⟨some 19, some (17, false), .load false 1 (.t 18)⟩,
    ⟨some 20, some (17, false), .bin .lss (.t 19) (.c (.int .i64 1))⟩,
    ⟨some 21, none, .pick (.t 17) (.c (.bool true)) (.t 20)⟩,
    ⟨some 22, none, .mov (.t 21)⟩,
    ⟨some 23, some (22, false), .fieldAddr 1 (.t 3)⟩,
    ⟨some 24, some (22, false), .load false 1 (.t 23)⟩,
    ⟨some 25, some (22, false), .fieldAddr 0 (.t 2)⟩,
    ⟨some 26, some (22, false), .load false 1 (.t 25)⟩,
    ⟨some 27, some (22, false), .bin .gtr (.t 24) (.t 26)⟩,
    ⟨some 28, none, .pick (.t 22) (.c (.bool true)) (.t 27)⟩]
    [2, 3, 28])
  (.cond (.t 28)
    (.seq (.region [⟨some 4, none, .mov (.c (.bool false))⟩]
      [4])
    .ret)
    .skip)))
  (.seq (.seq (.region [⟨some 29, none, .load true 4 (.t 3)⟩,
    ⟨some 30, none, .call F.plan_split [.t 29]⟩]
    [2, 3, 30])
  (.cond (.t 30)
    (.seq (.region [⟨some 31, none, .load true 3 (.t 2)⟩,
      ⟨some 32, none, .load true 4 (.t 3)⟩,
      ⟨some 33, none, .call F.plan_pieces [.t 31, .t 32]⟩,
      ⟨some 4, none, .mov (.t 33)⟩]
      [4])
    .ret)
    .skip))
  (.seq (.region [⟨some 34, none, .load true 3 (.t 2)⟩,
    ⟨some 35, none, .fieldAddr 2 (.t 3)⟩,
    ⟨some 36, none, .load false 1 (.t 35)⟩,
    ⟨some 37, none, .call F.plan_has [.t 34, .t 36]⟩,
    ⟨some 4, none, .mov (.t 37)⟩]
    [4])
  .ret))))⟩

def RB.plan_apart_1 : RCode :=
  (.seq (.region [⟨some 19, none, .bin .lss (.t 18) (.t 17)⟩]
    [3, 9, 10, 11, 16, 17, 18, 19])
  (.seq (.cond (.t 19)
    .skip
    (.exit 2))
  (.seq (.block 3
    (.seq (.region [⟨some 20, none, .idxS 2 (.t 16) (.t 18)⟩,
      ⟨some 21, none, .load true 2 (.t 20)⟩,
      ⟨some 7, none, .alloc [(.int .i64 0), (u64 0#64)]⟩,
      ⟨none, none, .store 2 (.t 7) (.t 21)⟩]
      [3, 7, 9, 10, 11, 16, 17, 18])
    (.seq (.seq (.drawn [⟨some 22, none, .fieldAddr 0 (.t 7)⟩,
      ⟨some 23, none, .load false 1 (.t 22)⟩,
      ⟨some 24, none, .idxP 16 1 (.t 3) (.t 23)⟩,
      ⟨some 25, none, .load false 1 (.t 24)⟩,
      ⟨some 26, none, .fieldAddr 1 (.t 7)⟩,
      ⟨some 27, none, .load false 1 (.t 26)⟩,
      ⟨some 28, none, .bin .and (.t 25) (.t 27)⟩,
      ⟨some 29, none, .bin .neq (.t 28) (.c (u64 0#64))⟩]
      [[], [0], [1], [2], [], [4], [3, 5], [6]]
      [(0, []), (4, []), (1, []), (2, []), (3, []), (5, []), (6, []), (7, [])]
      [[], [0], [0, 1], [0, 1, 2], [], [4], [0, 1, 2, 3, 4, 5], [0, 1, 2, 3, 4, 5, 6]]
      [3, 7, 9, 10, 11, 16, 17, 18, 29])
    (.cond (.t 29)
      (.seq (.region [⟨some 2, none, .mov (.c (.bool false))⟩]
        [2])
      .ret)
      .skip))
    (.drawn [⟨some 30, none, .fieldAddr 0 (.t 7)⟩,
      ⟨some 31, none, .load false 1 (.t 30)⟩,
      ⟨some 32, none, .idxP 16 1 (.t 3) (.t 31)⟩,
      ⟨some 33, none, .load false 1 (.t 32)⟩,
      ⟨some 34, none, .fieldAddr 1 (.t 7)⟩,
      ⟨some 35, none, .load false 1 (.t 34)⟩,
      ⟨some 36, none, .bin .or (.t 33) (.t 35)⟩,
      ⟨some 37, none, .idxP 16 1 (.t 3) (.t 31)⟩,
      ⟨none, none, .store 1 (.t 37) (.t 36)⟩]
      [[], [0], [1], [2], [], [4], [3, 5], [1, 0, 1, 2, 3, 4, 5, 6], [7, 6, 0, 1, 2, 3, 4, 5, 6]]
      [(0, []), (4, []), (1, []), (2, []), (3, []), (5, []), (6, []), (7, []), (8, [])]
      [[], [0], [0, 1], [0, 1, 2], [], [4], [0, 1, 2, 3, 4, 5], [0, 1, 2, 3, 4, 5, 6], [0, 1, 2, 3, 4, 5, 6, 7]]
      [3, 9, 10, 11, 16, 17, 18]))) [3, 9, 10, 11, 16, 17, 18])
  (.region [⟨some 38, none, .bin .add (.t 18) (.c (.int .i64 1))⟩,
    ⟨some 18, none, .mov (.t 38)⟩]
    [3, 9, 10, 11, 16, 17, 18]))))
def RB.plan_apart_2 : RCode :=
  (.seq (.region [⟨some 12, none, .bin .lss (.t 11) (.t 10)⟩]
    [3, 9, 10, 11, 12])
  (.seq (.cond (.t 12)
    .skip
    (.exit 0))
  (.seq (.block 1
    (.seq (.region [⟨some 13, none, .idxS 4 (.t 9) (.t 11)⟩,
      ⟨some 14, none, .load true 4 (.t 13)⟩,
      ⟨some 5, none, .alloc [(.int .i64 0), (.int .i64 0), (.int .i64 0), (.slice none 0 0)]⟩,
      ⟨none, none, .store 4 (.t 5) (.t 14)⟩]
      [3, 5, 9, 10, 11])
    (.seq (.region [⟨some 15, none, .fieldAddr 3 (.t 5)⟩,
      ⟨some 16, none, .load false 1 (.t 15)⟩,
      ⟨some 17, none, .len (.t 16)⟩,
      ⟨some 18, none, .mov (.c (.int .i64 0))⟩]
      [3, 9, 10, 11, 16, 17, 18])
    (.block 2
      (.loop [3, 9, 10, 11, 16, 17, 18] RB.plan_apart_1) [3, 9, 10, 11]))) [3, 9, 10, 11])
  (.region [⟨some 39, none, .bin .add (.t 11) (.c (.int .i64 1))⟩,
    ⟨some 11, none, .mov (.t 39)⟩]
    [3, 9, 10, 11]))))
def RC.plan_apart : RFn := ⟨1, [.slot 2],
  (.seq (.region [⟨some 1, none, .box (.t 0)⟩,
    ⟨some 2, none, .mov (.c (.bool false))⟩]
    [1])
  (.seq (.region [⟨some 3, none, .alloc [(u64 0#64), (u64 0#64), (u64 0#64), (u64 0#64), (u64 0#64), (u64 0#64), (u64 0#64), (u64 0#64), (u64 0#64), (u64 0#64), (u64 0#64), (u64 0#64), (u64 0#64), (u64 0#64), (u64 0#64), (u64 0#64)]⟩]
    [1, 3])
  (.seq (.seq (.region [⟨some 8, none, .fieldAddr 2 (.t 1)⟩,
    ⟨some 9, none, .load false 1 (.t 8)⟩,
    ⟨some 10, none, .len (.t 9)⟩,
    ⟨some 11, none, .mov (.c (.int .i64 0))⟩]
    [3, 9, 10, 11])
  (.block 0
    (.loop [3, 9, 10, 11] RB.plan_apart_2) []))
  (.seq (.region [⟨some 2, none, .mov (.c (.bool true))⟩]
    [2])
  .ret))))⟩

def RB.plan_Splits_1 : RCode :=
  (.seq (.region [⟨some 10, none, .bin .lss (.t 9) (.t 8)⟩]
    [3, 7, 8, 9, 10])
  (.seq (.cond (.t 10)
    .skip
    (.exit 0))
  (.seq (.block 1
    (.seq (.region [⟨some 11, none, .idxS 4 (.t 7) (.t 9)⟩,
      ⟨some 12, none, .load true 4 (.t 11)⟩,
      ⟨some 5, none, .alloc [(.int .i64 0), (.int .i64 0), (.int .i64 0), (.slice none 0 0)]⟩,
      ⟨none, none, .store 4 (.t 5) (.t 12)⟩]
      [3, 5, 7, 8, 9])
    (.seq (.region [⟨some 13, none, .load true 4 (.t 5)⟩,
      ⟨some 14, none, .call F.plan_split [.t 13]⟩]
      [3, 7, 8, 9, 14])
    (.cond (.t 14)
      (.region [⟨some 15, none, .mov (.t 3)⟩,
        ⟨some 16, none, .bin .add (.t 15) (.c (.int .i64 1))⟩,
        ⟨some 3, none, .mov (.t 16)⟩]
        [3, 7, 8, 9])
      .skip))) [3, 7, 8, 9])
  (.region [⟨some 17, none, .bin .add (.t 9) (.c (.int .i64 1))⟩,
    ⟨some 9, none, .mov (.t 17)⟩]
    [3, 7, 8, 9]))))
def RC.plan_Splits : RFn := ⟨1, [.slot 2],
  (.seq (.region [⟨some 1, none, .box (.t 0)⟩,
    ⟨some 2, none, .mov (.c (.int .i64 0))⟩]
    [1])
  (.seq (.region [⟨some 3, none, .mov (.c (.int .i64 0))⟩]
    [1, 3])
  (.seq (.seq (.region [⟨some 6, none, .fieldAddr 2 (.t 1)⟩,
    ⟨some 7, none, .load false 1 (.t 6)⟩,
    ⟨some 8, none, .len (.t 7)⟩,
    ⟨some 9, none, .mov (.c (.int .i64 0))⟩]
    [3, 7, 8, 9])
  (.block 0
    (.loop [3, 7, 8, 9] RB.plan_Splits_1) [3]))
  (.seq (.region [⟨some 18, none, .mov (.t 3)⟩,
    ⟨some 2, none, .mov (.t 18)⟩]
    [2])
  .ret))))⟩

def RB.plan_Cores_1 : RCode :=
  (.seq (.region [⟨some 6, none, .bin .lss (.t 5) (.c (.int .i64 16))⟩]
    [1, 3, 5, 6])
  (.seq (.cond (.t 6)
    .skip
    (.exit 0))
  (.seq (.block 1
    (.seq (.region [⟨some 7, none, .mov (.t 5)⟩,
      ⟨some 4, none, .mov (.t 7)⟩]
      [1, 3, 4, 5])
    (.seq (.region [⟨some 8, none, .load true 3 (.t 1)⟩,
      ⟨some 9, none, .mov (.t 4)⟩,
      ⟨some 10, none, .call F.plan_has [.t 8, .t 9]⟩]
      [1, 3, 4, 5, 10])
    (.cond (.t 10)
      (.region [⟨some 11, none, .mov (.t 3)⟩,
        ⟨some 12, none, .mov (.t 4)⟩,
        ⟨some 13, none, .bslice [(.int .i64 0)] [(0, 1, .t 12)] 1 1⟩,
        ⟨some 14, none, .app 1 8 (.t 11) (.t 13)⟩,
        ⟨some 3, none, .mov (.t 14)⟩]
        [1, 3, 5])
      .skip))) [1, 3, 5])
  (.region [⟨some 15, none, .bin .add (.t 5) (.c (.int .i64 1))⟩,
    ⟨some 5, none, .mov (.t 15)⟩]
    [1, 3, 5]))))
def RC.plan_Cores : RFn := ⟨1, [.slot 2],
  (.seq (.region [⟨some 1, none, .box (.t 0)⟩,
    ⟨some 2, none, .mov (.c (.slice none 0 0))⟩]
    [1])
  (.seq (.region [⟨some 3, none, .mov (.c (.slice none 0 0))⟩]
    [1, 3])
  (.seq (.seq (.region [⟨some 5, none, .mov (.c (.int .i64 0))⟩]
    [1, 3, 5])
  (.block 0
    (.loop [1, 3, 5] RB.plan_Cores_1) [3]))
  (.seq (.region [⟨some 16, none, .mov (.t 3)⟩,
    ⟨some 2, none, .mov (.t 16)⟩]
    [2])
  .ret))))⟩

def RB.plan_left_1 : RCode :=
  (.seq (.region [⟨some 20, none, .bin .lss (.t 19) (.t 18)⟩]
    [5, 17, 18, 19, 20])
  (.seq (.cond (.t 20)
    .skip
    (.exit 0))
  (.seq (.block 1
    (.seq (.region [⟨some 21, none, .idxS 2 (.t 17) (.t 19)⟩,
      ⟨some 22, none, .load true 2 (.t 21)⟩,
      ⟨some 7, none, .alloc [(.int .i64 0), (.int .i64 0)]⟩,
      ⟨none, none, .store 2 (.t 7) (.t 22)⟩]
      [5, 7, 17, 18, 19])
    (.region [⟨some 23, none, .mov (.t 5)⟩,
      ⟨some 24, none, .fieldAddr 1 (.t 7)⟩,
      ⟨some 25, none, .load false 1 (.t 24)⟩,
      ⟨some 26, none, .bin .sub (.t 23) (.t 25)⟩,
      ⟨some 5, none, .mov (.t 26)⟩]
      [5, 17, 18, 19])) [5, 17, 18, 19])
  (.region [⟨some 27, none, .bin .add (.t 19) (.c (.int .i64 1))⟩,
    ⟨some 19, none, .mov (.t 27)⟩]
    [5, 17, 18, 19]))))
def RC.plan_left : RFn := ⟨2, [.slot 4],
  (.seq (.region [⟨some 2, none, .box (.t 0)⟩,
    ⟨some 4, none, .mov (.c (.int .i64 0))⟩]
    [1, 2])
  (.seq (.drawn [⟨some 8, none, .fieldAddr 0 (.t 2)⟩,
    ⟨some 9, none, .load false 1 (.t 8)⟩,
    ⟨some 10, none, .load true 3 (.t 2)⟩,
    ⟨some 11, none, .mov (.t 1)⟩,
    ⟨some 12, none, .call F.plan_Windows [.t 10, .t 11]⟩,
    ⟨some 13, none, .call F.mask_Count [.t 12]⟩,
    ⟨some 14, none, .bin .sub (.t 9) (.t 13)⟩,
    ⟨some 5, none, .mov (.t 14)⟩]
    [[], [0], [], [], [2, 3], [4, 4], [1, 5], [6, 5, 0, 1, 2, 3, 4, 5, 6]]
    [(0, []), (3, []), (1, []), (2, []), (4, [8]), (5, [8]), (6, []), (7, [])]
    [[], [0], [], [], [2, 3], [2, 3, 4], [0, 1, 2, 3, 4, 5], [0, 1, 2, 3, 4, 5, 6]]
    [1, 2, 5])
  (.seq (.seq (.region [⟨some 15, none, .load true 3 (.t 2)⟩,
    ⟨some 16, none, .mov (.t 1)⟩,
    ⟨some 17, none, .call F.plan_Wholes [.t 15, .t 16]⟩,
    ⟨some 18, none, .len (.t 17)⟩,
    ⟨some 19, none, .mov (.c (.int .i64 0))⟩]
    [5, 17, 18, 19])
  (.block 0
    (.loop [5, 17, 18, 19] RB.plan_left_1) [5]))
  (.seq (.region [⟨some 28, none, .mov (.t 5)⟩,
    ⟨some 4, none, .mov (.t 28)⟩]
    [4])
  .ret))))⟩

def RC.mask_All : RFn := ⟨1, [.slot 2],
  (.seq (.region [⟨some 2, none, .mov (.c (u64 0#64))⟩]
    [0])
  (.seq (.region [⟨some 3, none, .mov (.t 0)⟩,
    ⟨some 4, none, .call F.mask_frame [.t 3]⟩,
    ⟨some 0, none, .mov (.t 4)⟩]
    [0])
  (.seq (.seq (.region [⟨some 5, none, .mov (.t 0)⟩,
    ⟨some 6, none, .bin .eql (.t 5) (.c (.int .i64 64))⟩]
    [0, 6])
  (.cond (.t 6)
    (.seq (.region [⟨some 2, none, .mov (.c (u64 18446744073709551615#64))⟩]
      [2])
    .ret)
    .skip))
  (.seq (.region [⟨some 7, none, .mov (.t 0)⟩,
    ⟨some 8, none, .bin .shl (.c (u64 1#64)) (.t 7)⟩,
    ⟨some 9, none, .bin .sub (.t 8) (.c (u64 1#64))⟩,
    ⟨some 2, none, .mov (.t 9)⟩]
    [2])
  .ret))))⟩

def RB.plan_Windows_1 : RCode :=
  (.seq (.region [⟨some 21, none, .bin .lss (.t 20) (.t 19)⟩]
    [1, 5, 11, 12, 13, 18, 19, 20, 21])
  (.seq (.cond (.t 21)
    .skip
    (.exit 2))
  (.seq (.block 3
    (.seq (.region [⟨some 22, none, .idxS 2 (.t 18) (.t 20)⟩,
      ⟨some 23, none, .load true 2 (.t 22)⟩,
      ⟨some 9, none, .alloc [(.int .i64 0), (u64 0#64)]⟩,
      ⟨none, none, .store 2 (.t 9) (.t 23)⟩]
      [1, 5, 9, 11, 12, 13, 18, 19, 20])
    (.seq (.region [⟨some 24, none, .fieldAddr 0 (.t 9)⟩,
      ⟨some 25, none, .load false 1 (.t 24)⟩,
      ⟨some 26, none, .mov (.t 1)⟩,
      ⟨some 27, none, .bin .eql (.t 25) (.t 26)⟩]
      [1, 5, 9, 11, 12, 13, 18, 19, 20, 27])
    (.cond (.t 27)
      (.region [⟨some 28, none, .mov (.t 5)⟩,
        ⟨some 29, none, .fieldAddr 1 (.t 9)⟩,
        ⟨some 30, none, .load false 1 (.t 29)⟩,
        ⟨some 31, none, .bin .or (.t 28) (.t 30)⟩,
        ⟨some 5, none, .mov (.t 31)⟩]
        [1, 5, 11, 12, 13, 18, 19, 20])
      .skip))) [1, 5, 11, 12, 13, 18, 19, 20])
  (.region [⟨some 32, none, .bin .add (.t 20) (.c (.int .i64 1))⟩,
    ⟨some 20, none, .mov (.t 32)⟩]
    [1, 5, 11, 12, 13, 18, 19, 20]))))
def RB.plan_Windows_2 : RCode :=
  (.seq (.region [⟨some 14, none, .bin .lss (.t 13) (.t 12)⟩]
    [1, 5, 11, 12, 13, 14])
  (.seq (.cond (.t 14)
    .skip
    (.exit 0))
  (.seq (.block 1
    (.seq (.region [⟨some 15, none, .idxS 4 (.t 11) (.t 13)⟩,
      ⟨some 16, none, .load true 4 (.t 15)⟩,
      ⟨some 7, none, .alloc [(.int .i64 0), (.int .i64 0), (.int .i64 0), (.slice none 0 0)]⟩,
      ⟨none, none, .store 4 (.t 7) (.t 16)⟩]
      [1, 5, 7, 11, 12, 13])
    (.seq (.region [⟨some 17, none, .fieldAddr 3 (.t 7)⟩,
      ⟨some 18, none, .load false 1 (.t 17)⟩,
      ⟨some 19, none, .len (.t 18)⟩,
      ⟨some 20, none, .mov (.c (.int .i64 0))⟩]
      [1, 5, 11, 12, 13, 18, 19, 20])
    (.block 2
      (.loop [1, 5, 11, 12, 13, 18, 19, 20] RB.plan_Windows_1) [1, 5, 11, 12, 13]))) [1, 5, 11, 12, 13])
  (.region [⟨some 33, none, .bin .add (.t 13) (.c (.int .i64 1))⟩,
    ⟨some 13, none, .mov (.t 33)⟩]
    [1, 5, 11, 12, 13]))))
def RC.plan_Windows : RFn := ⟨2, [.slot 4],
  (.seq (.region [⟨some 2, none, .box (.t 0)⟩,
    ⟨some 4, none, .mov (.c (u64 0#64))⟩]
    [1, 2])
  (.seq (.region [⟨some 5, none, .mov (.c (u64 0#64))⟩]
    [1, 2, 5])
  (.seq (.seq (.region [⟨some 10, none, .fieldAddr 2 (.t 2)⟩,
    ⟨some 11, none, .load false 1 (.t 10)⟩,
    ⟨some 12, none, .len (.t 11)⟩,
    ⟨some 13, none, .mov (.c (.int .i64 0))⟩]
    [1, 5, 11, 12, 13])
  (.block 0
    (.loop [1, 5, 11, 12, 13] RB.plan_Windows_2) [5]))
  (.seq (.region [⟨some 34, none, .mov (.t 5)⟩,
    ⟨some 4, none, .mov (.t 34)⟩]
    [4])
  .ret))))⟩

def RC.plan_Room : RFn := ⟨2, [.slot 4],
  (.seq (.region [⟨some 2, none, .box (.t 0)⟩,
    ⟨some 4, none, .mov (.c (.int .i64 0))⟩]
    [1, 2])
  (.seq (.seq (.region [⟨some 5, none, .load true 3 (.t 2)⟩,
    ⟨some 6, none, .mov (.t 1)⟩,
    ⟨some 7, none, .call F.plan_has [.t 5, .t 6]⟩,
    ⟨some 8, none, .un .not (.t 7)⟩]
    [1, 2, 8])
  (.cond (.t 8)
    (.seq (.region [⟨some 4, none, .mov (.c (.int .i64 0))⟩]
      [4])
    .ret)
    .skip))
  (.seq (.region [⟨some 9, none, .load true 3 (.t 2)⟩,
    ⟨some 10, none, .mov (.t 1)⟩,
    ⟨some 11, none, .call F.plan_left [.t 9, .t 10]⟩,
    ⟨some 12, none, .minmax true [.c (.int .i64 0), .t 11]⟩,
    ⟨some 4, none, .mov (.t 12)⟩]
    [4])
  .ret)))⟩

def RB.weave_match_try_1 : RCode :=
  (.seq (.region [⟨some 17, none, .bin .lss (.t 16) (.t 15)⟩]
    [0, 1, 2, 15, 16, 17])
  (.seq (.cond (.t 17)
    .skip
    (.exit 0))
  (.seq (.block 1
    (.seq (.region [⟨some 18, none, .mov (.t 16)⟩,
      ⟨some 7, none, .mov (.t 18)⟩]
      [0, 1, 2, 7, 15, 16])
    (.seq (.seq (.region [⟨some 19, none, .mov (.t 0)⟩,
      ⟨some 20, none, .nilchk (.t 19)⟩,
      ⟨some 21, none, .fieldAddr 0 (.t 20)⟩,
      ⟨some 22, none, .load false 1 (.t 21)⟩,
      ⟨some 23, none, .nilchk (.t 22)⟩,
      ⟨some 24, none, .fieldAddr 2 (.t 23)⟩,
      ⟨some 25, none, .load false 1 (.t 24)⟩,
      ⟨some 26, none, .mov (.t 7)⟩,
      ⟨some 27, none, .idxS 1 (.t 25) (.t 26)⟩,
      ⟨some 28, none, .load false 1 (.t 27)⟩,
      ⟨some 29, none, .mov (.t 1)⟩,
      ⟨some 30, none, .call F.mask_Has [.t 28, .t 29]⟩,
      ⟨some 31, none, .un .not (.t 30)⟩,
      ⟨some 32, none, .mov (.t 31)⟩,
      ⟨some 33, some (32, false), .mov (.t 2)⟩,
      ⟨some 34, some (32, false), .nilchk (.t 33)⟩,
      ⟨some 35, some (32, false), .load false 1 (.t 34)⟩,
      ⟨some 36, some (32, false), .mov (.t 7)⟩,
      ⟨some 37, some (32, false), .bin .shr (.t 35) (.t 36)⟩,
      ⟨some 38, some (32, false), .bin .and (.t 37) (.c (u32 1#32))⟩,
      ⟨some 39, some (32, false), .bin .eql (.t 38) (.c (u32 1#32))⟩,
      ⟨some 40, none, .pick (.t 32) (.c (.bool true)) (.t 39)⟩]
      [0, 1, 2, 7, 15, 16, 40])
    (.cond (.t 40)
      (.exit 1)
      .skip))
    (.seq (.drawn [⟨some 41, none, .mov (.t 2)⟩,
      ⟨some 42, none, .nilchk (.t 41)⟩,
      ⟨some 43, none, .load false 1 (.t 42)⟩,
      ⟨some 44, none, .mov (.t 7)⟩,
      ⟨some 45, none, .bin .shl (.c (u32 1#32)) (.t 44)⟩,
      ⟨some 46, none, .bin .or (.t 43) (.t 45)⟩,
      ⟨some 47, none, .nilchk (.t 41)⟩,
      ⟨none, none, .store 1 (.t 47) (.t 46)⟩]
      [[], [0], [1], [], [3], [2, 4], [0, 0, 1, 2, 3, 4, 5], [6, 5, 0, 1, 2, 3, 4, 5]]
      [(0, []), (1, []), (3, []), (4, []), (2, []), (5, []), (6, []), (7, [])]
      [[], [0], [0, 1], [], [3], [0, 1, 2, 3, 4], [0, 1, 2, 3, 4, 5], [0, 1, 2, 3, 4, 5, 6]]
      [0, 1, 2, 7, 15, 16])
    (.seq (.drawn [⟨some 48, none, .mov (.t 0)⟩,
      ⟨some 49, none, .nilchk (.t 48)⟩,
      ⟨some 50, none, .fieldAddr 65 (.t 49)⟩,
      ⟨some 51, none, .load false 1 (.t 50)⟩,
      ⟨some 52, none, .mov (.t 7)⟩,
      ⟨some 53, none, .idxS 1 (.t 51) (.t 52)⟩,
      ⟨some 54, none, .load false 1 (.t 53)⟩,
      ⟨some 55, none, .mov (.t 0)⟩,
      ⟨some 56, none, .nilchk (.t 55)⟩,
      ⟨some 57, none, .fieldAddr 0 (.t 56)⟩,
      ⟨some 58, none, .load false 1 (.t 57)⟩,
      ⟨some 59, none, .nilchk (.t 58)⟩,
      ⟨some 60, none, .fieldAddr 3 (.t 59)⟩,
      ⟨some 61, none, .load false 1 (.t 60)⟩,
      ⟨some 62, none, .mov (.t 7)⟩,
      ⟨some 63, none, .idxS 1 (.t 61) (.t 62)⟩,
      ⟨some 64, none, .load false 1 (.t 63)⟩,
      ⟨some 65, none, .bin .lss (.t 54) (.t 64)⟩,
      ⟨some 66, none, .mov (.t 65)⟩,
      ⟨some 67, some (66, false), .mov (.t 0)⟩,
      ⟨some 68, some (66, false), .mov (.t 7)⟩,
      ⟨some 69, some (66, false), .mov (.t 2)⟩,
      ⟨some 70, some (66, false), .call F.weave_match_push [.t 67, .t 68, .t 69]⟩,
      ⟨some 71, none, .pick (.t 66) (.c (.bool true)) (.t 70)⟩]
      [[], [0], [1], [2], [], [3, 4], [5], [], [7], [8], [9], [10], [11], [12], [], [13, 14], [15], [6, 16], [17], [18], [18], [18], [19, 20, 21, 18, 18], [18, 22]]
      [(0, []), (1, []), (2, []), (4, []), (7, []), (8, []), (9, []), (14, []), (3, []), (5, []), (6, []), (10, []), (11, []), (12, []), (13, []), (15, []), (16, []), (17, []), (18, []), (19, []), (20, []), (21, []), (22, []), (23, [])]
      [[], [0], [0, 1], [0, 1, 2], [], [0, 1, 2, 3, 4], [0, 1, 2, 3, 4, 5], [], [7], [7, 8], [7, 8, 9], [7, 8, 9, 10], [7, 8, 9, 10, 11], [7, 8, 9, 10, 11, 12], [], [7, 8, 9, 10, 11, 12, 13, 14], [7, 8, 9, 10, 11, 12, 13, 14, 15], [0, 1, 2, 3, 4, 5, 6, 7, 8, 9, 10, 11, 12, 13, 14, 15, 16], [0, 1, 2, 3, 4, 5, 6, 7, 8, 9, 10, 11, 12, 13, 14, 15, 16, 17], [0, 1, 2, 3, 4, 5, 6, 7, 8, 9, 10, 11, 12, 13, 14, 15, 16, 17, 18], [0, 1, 2, 3, 4, 5, 6, 7, 8, 9, 10, 11, 12, 13, 14, 15, 16, 17, 18], [0, 1, 2, 3, 4, 5, 6, 7, 8, 9, 10, 11, 12, 13, 14, 15, 16, 17, 18], [0, 1, 2, 3, 4, 5, 6, 7, 8, 9, 10, 11, 12, 13, 14, 15, 16, 17, 18, 19, 20, 21], [0, 1, 2, 3, 4, 5, 6, 7, 8, 9, 10, 11, 12, 13, 14, 15, 16, 17, 18, 19, 20, 21, 22]]
      [0, 1, 2, 7, 15, 16, 71])
    (.cond (.t 71)
      (.seq (.region [⟨some 72, none, .mov (.t 0)⟩,
        ⟨some 73, none, .nilchk (.t 72)⟩,
        ⟨some 74, none, .fieldAddr 65 (.t 73)⟩,
        ⟨some 75, none, .load false 1 (.t 74)⟩,
        ⟨some 76, none, .mov (.t 7)⟩,
        ⟨some 77, none, .idxS 1 (.t 75) (.t 76)⟩,
        ⟨some 78, none, .load false 1 (.t 77)⟩,
        ⟨some 79, none, .bin .add (.t 78) (.c (.int .i64 1))⟩,
        ⟨some 80, none, .idxS 1 (.t 75) (.t 76)⟩,
        ⟨none, none, .store 1 (.t 80) (.t 79)⟩]
        [0, 1, 7])
      (.seq (.region [⟨some 81, none, .mov (.t 0)⟩,
        ⟨some 82, none, .mov (.t 1)⟩,
        ⟨some 83, none, .mov (.t 7)⟩,
        ⟨some 84, none, .bin .add (.t 83) (.c (.int .i64 1))⟩,
        ⟨some 85, none, .nilchk (.t 81)⟩,
        ⟨some 86, none, .fieldAddr 1 (.t 85)⟩,
        ⟨some 87, none, .idxP 64 1 (.t 86) (.t 82)⟩,
        ⟨none, none, .store 1 (.t 87) (.t 84)⟩]
        [])
      (.seq (.region [⟨some 6, none, .mov (.c (.bool true))⟩]
        [6])
      .ret)))
      .skip))))) [0, 1, 2, 15, 16])
  (.region [⟨some 88, none, .bin .add (.t 16) (.c (.int .i64 1))⟩,
    ⟨some 16, none, .mov (.t 88)⟩]
    [0, 1, 2, 15, 16]))))
def RC.weave_match_try : RFn := ⟨3, [.slot 6],
  (.seq (.region [⟨some 6, none, .mov (.c (.bool false))⟩]
    [0, 1, 2])
  (.seq (.seq (.region [⟨some 8, none, .mov (.t 0)⟩,
    ⟨some 9, none, .nilchk (.t 8)⟩,
    ⟨some 10, none, .fieldAddr 0 (.t 9)⟩,
    ⟨some 11, none, .load false 1 (.t 10)⟩,
    ⟨some 12, none, .nilchk (.t 11)⟩,
    ⟨some 13, none, .fieldAddr 1 (.t 12)⟩,
    ⟨some 14, none, .load false 1 (.t 13)⟩,
    ⟨some 15, none, .len (.t 14)⟩,
    ⟨some 16, none, .mov (.c (.int .i64 0))⟩]
    [0, 1, 2, 15, 16])
  (.block 0
    (.loop [0, 1, 2, 15, 16] RB.weave_match_try_1) []))
  (.seq (.region [⟨some 6, none, .mov (.c (.bool false))⟩]
    [6])
  .ret)))⟩

def RC.ref04_Frame : RFn := ⟨1, [.slot 2],
  (.seq (.region [⟨some 2, none, .mov (.c (.int .i64 0))⟩]
    [0])
  (.seq (.seq (.region [⟨some 3, none, .mov (.t 0)⟩,
    ⟨some 4, none, .bin .lss (.t 3) (.c (.int .i64 0))⟩]
    [0, 4])
  (.cond (.t 4)
    (.seq (.region [⟨some 2, none, .mov (.c (.int .i64 0))⟩]
      [2])
    .ret)
    .skip))
  (.seq (.seq (.region [⟨some 5, none, .mov (.t 0)⟩,
    ⟨some 6, none, .bin .gtr (.t 5) (.c (.int .i64 64))⟩]
    [0, 6])
  (.cond (.t 6)
    (.seq (.region [⟨some 2, none, .mov (.c (.int .i64 64))⟩]
      [2])
    .ret)
    .skip))
  (.seq (.region [⟨some 7, none, .mov (.t 0)⟩,
    ⟨some 2, none, .mov (.t 7)⟩]
    [2])
  .ret))))⟩

def RB.order_Check_1 : RCode :=
  (.seq (.region [⟨some 23, none, .bin .lss (.t 22) (.t 21)⟩]
    [0, 5, 20, 21, 22, 23])
  (.seq (.cond (.t 23)
    .skip
    (.exit 0))
  (.seq (.block 1
    (.seq (.region [⟨some 24, none, .idxS 2 (.t 20) (.t 22)⟩,
      ⟨some 25, none, .load true 2 (.t 24)⟩,
      ⟨some 7, none, .alloc [(.int .i64 0), (.int .i64 0)]⟩,
      ⟨none, none, .store 2 (.t 7) (.t 25)⟩]
      [0, 5, 7, 20, 21, 22])
    (.seq (.seq (.region [⟨some 27, none, .fieldAddr 0 (.t 7)⟩,
      ⟨some 28, none, .load false 1 (.t 27)⟩,
      ⟨some 29, none, .call F.order_Kind [.t 28]⟩,
      ⟨some 26, none, .mov (.t 29)⟩,
      ⟨some 30, none, .ext 0 (.t 26)⟩,
      ⟨some 31, none, .ext 1 (.t 26)⟩,
      ⟨some 32, none, .ext 2 (.t 26)⟩,
      ⟨some 8, none, .mov (.t 30)⟩,
      ⟨some 9, none, .mov (.t 31)⟩,
      ⟨some 10, none, .mov (.t 32)⟩]
      [0, 5, 7, 10, 20, 21, 22])
    (.seq (.region [⟨some 33, none, .mov (.t 10)⟩,
      ⟨some 34, none, .un .not (.t 33)⟩]
      [0, 5, 7, 20, 21, 22, 34])
    (.cond (.t 34)
      (.seq (.region [⟨some 4, none, .mov (.c (.int .i64 20))⟩]
        [4])
      .ret)
      .skip)))
    (.seq (.seq (.region [⟨some 35, none, .fieldAddr 1 (.t 7)⟩,
      ⟨some 36, none, .load false 1 (.t 35)⟩,
      ⟨some 37, none, .bin .lss (.t 36) (.c (.int .i64 1))⟩,
      ⟨some 38, none, .mov (.t 37)⟩,
      ⟨some 39, some (38, false), .fieldAddr 1 (.t 7)⟩,
      ⟨some 40, some (38, false), .load false 1 (.t 39)⟩,
      ⟨some 41, some (38, false), .mov (.t 0)⟩,
      ⟨some 42, some (38, false), .bin .gtr (.t 40) (.t 41)⟩,
      ⟨some 43, none, .pick (.t 38) (.c (.bool true)) (.t 42)⟩]
      [0, 5, 7, 20, 21, 22, 43])
    (.cond (.t 43)
      (.seq (.region [⟨some 4, none, .mov (.c (.int .i64 21))⟩]
        [4])
      .ret)
      .skip))
    (.seq (.seq (.region [⟨some 45, none, .mov (.t 5)⟩,
      ⟨some 46, none, .fieldAddr 0 (.t 7)⟩,
      ⟨some 47, none, .load false 1 (.t 46)⟩,
      ⟨some 48, none, .look .int (.agg #[]) true (.t 45) (.t 47)⟩,
      ⟨some 44, none, .mov (.t 48)⟩,
      ⟨some 49, none, .ext 0 (.t 44)⟩,
      ⟨some 50, none, .ext 1 (.t 44)⟩,
      ⟨some 11, none, .alloc []⟩,
      ⟨none, none, .store 0 (.t 11) (.t 49)⟩,
      ⟨some 12, none, .mov (.t 50)⟩]
      [0, 5, 7, 12, 20, 21, 22])
    (.seq (.region [⟨some 51, none, .mov (.t 12)⟩]
      [0, 5, 7, 20, 21, 22, 51])
    (.cond (.t 51)
      (.seq (.region [⟨some 4, none, .mov (.c (.int .i64 11))⟩]
        [4])
      .ret)
      .skip)))
    (.region [⟨some 52, none, .mov (.t 5)⟩,
      ⟨some 53, none, .fieldAddr 0 (.t 7)⟩,
      ⟨some 54, none, .load false 1 (.t 53)⟩,
      ⟨some 55, none, .build [] []⟩,
      ⟨none, none, .upd .int (.t 52) (.t 54) (.t 55)⟩]
      [0, 5, 20, 21, 22]))))) [0, 5, 20, 21, 22])
  (.region [⟨some 56, none, .bin .add (.t 22) (.c (.int .i64 1))⟩,
    ⟨some 22, none, .mov (.t 56)⟩]
    [0, 5, 20, 21, 22]))))
def RC.order_Check : RFn := ⟨2, [.slot 4],
  (.seq (.region [⟨some 4, none, .mov (.c (.int .i64 0))⟩]
    [0, 1])
  (.seq (.seq (.region [⟨some 13, none, .mov (.t 0)⟩,
    ⟨some 14, none, .bin .lss (.t 13) (.c (.int .i64 2))⟩,
    ⟨some 15, none, .mov (.t 14)⟩,
    ⟨some 16, some (15, false), .mov (.t 0)⟩,
    ⟨some 17, some (15, false), .bin .gtr (.t 16) (.c (.int .i64 64))⟩,
    ⟨some 18, none, .pick (.t 15) (.c (.bool true)) (.t 17)⟩]
    [0, 1, 18])
  (.cond (.t 18)
    (.seq (.region [⟨some 4, none, .mov (.c (.int .i64 1))⟩]
      [4])
    .ret)
    .skip))
  (.seq (.region [⟨some 19, none, .mkmap⟩,
    ⟨some 5, none, .mov (.t 19)⟩]
    [0, 1, 5])
  (.seq (.seq (.region [⟨some 20, none, .mov (.t 1)⟩,
    ⟨some 21, none, .len (.t 20)⟩,
    ⟨some 22, none, .mov (.c (.int .i64 0))⟩]
    [0, 5, 20, 21, 22])
  (.block 0
    (.loop [0, 5, 20, 21, 22] RB.order_Check_1) []))
  (.seq (.region [⟨some 4, none, .mov (.c (.int .i64 0))⟩]
    [4])
  .ret)))))⟩

def RC.plan_Find : RFn := ⟨2, [.cell 4 true 4, .slot 5],
  (.seq (.region [⟨some 2, none, .box (.t 0)⟩,
    ⟨some 4, none, .alloc [(.int .i64 0), (.int .i64 0), (.int .i64 0), (.slice none 0 0)]⟩,
    ⟨some 5, none, .mov (.c (.bool false))⟩]
    [1, 2, 4])
  (.seq (.region [⟨some 10, none, .load true 3 (.t 2)⟩,
    ⟨some 11, none, .mov (.t 1)⟩,
    ⟨some 12, none, .call F.plan_find [.t 10, .t 11]⟩,
    ⟨some 9, none, .mov (.t 12)⟩,
    ⟨some 13, none, .ext 0 (.t 9)⟩,
    ⟨some 14, none, .ext 1 (.t 9)⟩,
    ⟨some 6, none, .mov (.t 13)⟩,
    ⟨some 7, none, .mov (.t 14)⟩]
    [2, 4, 6, 7])
  (.seq (.seq (.region [⟨some 15, none, .mov (.t 7)⟩,
    ⟨some 16, none, .un .not (.t 15)⟩]
    [2, 4, 6, 16])
  (.cond (.t 16)
    (.seq (.region [⟨some 17, none, .build [(.int .i64 0), (.int .i64 0), (.int .i64 0), (.slice none 0 0)] []⟩,
      ⟨none, none, .store 4 (.t 4) (.t 17)⟩,
      ⟨some 5, none, .mov (.c (.bool false))⟩]
      [4, 5])
    .ret)
    .skip))
  (.seq (.region [⟨some 18, none, .fieldAddr 2 (.t 2)⟩,
    ⟨some 19, none, .load false 1 (.t 18)⟩,
    ⟨some 20, none, .mov (.t 6)⟩,
    ⟨some 21, none, .idxS 4 (.t 19) (.t 20)⟩,
    ⟨some 22, none, .load true 4 (.t 21)⟩,
    ⟨some 8, none, .alloc [(.int .i64 0), (.int .i64 0), (.int .i64 0), (.slice none 0 0)]⟩,
    ⟨none, none, .store 4 (.t 8) (.t 22)⟩]
    [4, 8])
  (.seq (.region [⟨some 23, none, .fieldAddr 3 (.t 8)⟩,
    ⟨some 24, none, .load false 1 (.t 23)⟩,
    ⟨some 25, none, .call F.slices_Clone_api_Piece_api_Piece [.t 24]⟩,
    ⟨some 26, none, .fieldAddr 3 (.t 8)⟩,
    ⟨none, none, .store 1 (.t 26) (.t 25)⟩]
    [4, 8])
  (.seq (.region [⟨some 27, none, .load true 4 (.t 8)⟩,
    ⟨none, none, .store 4 (.t 4) (.t 27)⟩,
    ⟨some 5, none, .mov (.c (.bool true))⟩]
    [4, 5])
  .ret))))))⟩

def RC.ffd_First : RFn := ⟨2, [.slot 4, .slot 5],
  (.seq (.region [⟨some 2, none, .box (.t 0)⟩,
    ⟨some 4, none, .mov (.c (.int .i64 0))⟩,
    ⟨some 5, none, .mov (.c (.bool false))⟩]
    [1, 2])
  (.seq (.seq (.region [⟨some 6, none, .load true 3 (.t 2)⟩,
    ⟨some 7, none, .call F.plan_Check [.t 6]⟩,
    ⟨some 8, none, .bin .neq (.t 7) (.c (.int .i64 0))⟩,
    ⟨some 9, none, .mov (.t 8)⟩,
    ⟨some 10, some (9, false), .mov (.t 1)⟩,
    ⟨some 11, some (9, false), .bin .lss (.t 10) (.c (.int .i64 1))⟩,
    ⟨some 12, none, .pick (.t 9) (.c (.bool true)) (.t 11)⟩]
    [1, 2, 12])
  (.cond (.t 12)
    (.seq (.region [⟨some 4, none, .mov (.c (.int .i64 0))⟩,
      ⟨some 5, none, .mov (.c (.bool false))⟩]
      [4, 5])
    .ret)
    .skip))
  (.seq (.region [⟨some 13, none, .load true 3 (.t 2)⟩,
    ⟨some 14, none, .mov (.t 1)⟩,
    ⟨some 15, none, .call F.ffd_first [.t 13, .t 14]⟩,
    ⟨some 16, none, .ext 0 (.t 15)⟩,
    ⟨some 17, none, .ext 1 (.t 15)⟩,
    ⟨some 4, none, .mov (.t 16)⟩,
    ⟨some 5, none, .mov (.t 17)⟩]
    [4, 5])
  .ret)))⟩

def RC.mask_Has : RFn := ⟨2, [.slot 4],
  (.seq (.region [⟨some 4, none, .mov (.c (.bool false))⟩]
    [0, 1])
  (.seq (.region [⟨some 5, none, .mov (.t 1)⟩,
    ⟨some 6, none, .bin .geq (.t 5) (.c (.int .i64 0))⟩,
    ⟨some 7, none, .mov (.t 6)⟩,
    ⟨some 8, some (7, true), .mov (.t 1)⟩,
    ⟨some 9, some (7, true), .bin .lss (.t 8) (.c (.int .i64 64))⟩,
    ⟨some 10, none, .pick (.t 7) (.t 9) (.c (.bool false))⟩,
    ⟨some 11, none, .mov (.t 10)⟩,
    ⟨some 12, some (11, true), .mov (.t 0)⟩,
    ⟨some 13, some (11, true), .mov (.t 1)⟩,
    ⟨some 14, some (11, true), .bin .shr (.t 12) (.t 13)⟩,
    ⟨some 15, some (11, true), .bin .and (.t 14) (.c (u64 1#64))⟩,
    ⟨some 16, some (11, true), .bin .eql (.t 15) (.c (u64 1#64))⟩,
    ⟨some 17, none, .pick (.t 11) (.t 16) (.c (.bool false))⟩,
    ⟨some 4, none, .mov (.t 17)⟩]
    [4])
  .ret))⟩

def RB.ref08_Check_1 : RCode :=
  (.seq (.seq (.region [⟨some 41, none, .mov (.t 6)⟩,
    ⟨some 42, none, .mov (.t 5)⟩,
    ⟨some 43, none, .bin .lss (.t 41) (.t 42)⟩]
    [0, 1, 5, 6, 43])
  (.cond (.t 43)
    .skip
    (.exit 2)))
  (.seq (.block 3
    (.seq (.drawn [⟨some 46, none, .mov (.t 1)⟩,
      ⟨some 47, none, .mov (.t 6)⟩,
      ⟨some 48, none, .idxS 2 (.t 46) (.t 47)⟩,
      ⟨some 49, none, .fieldAddr 0 (.t 48)⟩,
      ⟨some 50, none, .load false 1 (.t 49)⟩,
      ⟨some 51, none, .mov (.t 1)⟩,
      ⟨some 52, none, .mov (.t 5)⟩,
      ⟨some 53, none, .idxS 2 (.t 51) (.t 52)⟩,
      ⟨some 54, none, .fieldAddr 0 (.t 53)⟩,
      ⟨some 55, none, .load false 1 (.t 54)⟩,
      ⟨some 56, none, .bin .eql (.t 50) (.t 55)⟩]
      [[], [], [0, 1], [2], [3], [], [], [5, 6], [7], [8], [4, 9]]
      [(0, []), (1, []), (2, []), (3, []), (5, []), (6, []), (7, []), (8, []), (4, []), (9, []), (10, [])]
      [[], [], [0, 1], [0, 1, 2], [0, 1, 2, 3], [], [], [5, 6], [5, 6, 7], [5, 6, 7, 8], [0, 1, 2, 3, 4, 5, 6, 7, 8, 9]]
      [0, 1, 5, 6, 56])
    (.cond (.t 56)
      (.seq (.region [⟨some 4, none, .mov (.c (.int .i64 11))⟩]
        [4])
      .ret)
      .skip)) [0, 1, 5, 6])
  (.region [⟨some 44, none, .mov (.t 6)⟩,
    ⟨some 45, none, .bin .add (.t 44) (.c (.int .i64 1))⟩,
    ⟨some 6, none, .mov (.t 45)⟩]
    [0, 1, 5, 6])))
def RB.ref08_Check_2 : RCode :=
  (.seq (.seq (.region [⟨some 13, none, .mov (.t 5)⟩,
    ⟨some 14, none, .mov (.t 1)⟩,
    ⟨some 15, none, .len (.t 14)⟩,
    ⟨some 16, none, .bin .lss (.t 13) (.t 15)⟩]
    [0, 1, 5, 16])
  (.cond (.t 16)
    .skip
    (.exit 0)))
  (.seq (.block 1
    (.seq (.seq (.region [⟨some 19, none, .mov (.t 1)⟩,
      ⟨some 20, none, .mov (.t 5)⟩,
      ⟨some 21, none, .idxS 2 (.t 19) (.t 20)⟩,
      ⟨some 22, none, .fieldAddr 0 (.t 21)⟩,
      ⟨some 23, none, .load false 1 (.t 22)⟩,
      ⟨some 24, none, .call F.ref08_Is [.t 23]⟩,
      ⟨some 25, none, .un .not (.t 24)⟩]
      [0, 1, 5, 25])
    (.cond (.t 25)
      (.seq (.region [⟨some 4, none, .mov (.c (.int .i64 20))⟩]
        [4])
      .ret)
      .skip))
    (.seq (.seq (.region [⟨some 26, none, .mov (.t 1)⟩,
      ⟨some 27, none, .mov (.t 5)⟩,
      ⟨some 28, none, .idxS 2 (.t 26) (.t 27)⟩,
      ⟨some 29, none, .fieldAddr 1 (.t 28)⟩,
      ⟨some 30, none, .load false 1 (.t 29)⟩,
      ⟨some 31, none, .bin .lss (.t 30) (.c (.int .i64 1))⟩,
      ⟨some 32, none, .mov (.t 31)⟩,
      ⟨some 33, some (32, false), .mov (.t 1)⟩,
      ⟨some 34, some (32, false), .mov (.t 5)⟩,
      ⟨some 35, some (32, false), .idxS 2 (.t 33) (.t 34)⟩,
      ⟨some 36, some (32, false), .fieldAddr 1 (.t 35)⟩,
      ⟨some 37, some (32, false), .load false 1 (.t 36)⟩,
      ⟨some 38, some (32, false), .mov (.t 0)⟩,
      ⟨some 39, some (32, false), .bin .gtr (.t 37) (.t 38)⟩,
      ⟨some 40, none, .pick (.t 32) (.c (.bool true)) (.t 39)⟩]
      [0, 1, 5, 40])
    (.cond (.t 40)
      (.seq (.region [⟨some 4, none, .mov (.c (.int .i64 21))⟩]
        [4])
      .ret)
      .skip))
    (.seq (.region [⟨some 6, none, .mov (.c (.int .i64 0))⟩]
      [0, 1, 5, 6])
    (.block 2
      (.loop [0, 1, 5, 6] RB.ref08_Check_1) [0, 1, 5])))) [0, 1, 5])
  (.region [⟨some 17, none, .mov (.t 5)⟩,
    ⟨some 18, none, .bin .add (.t 17) (.c (.int .i64 1))⟩,
    ⟨some 5, none, .mov (.t 18)⟩]
    [0, 1, 5])))
def RC.ref08_Check : RFn := ⟨2, [.slot 4],
  (.seq (.region [⟨some 4, none, .mov (.c (.int .i64 0))⟩]
    [0, 1])
  (.seq (.seq (.region [⟨some 7, none, .mov (.t 0)⟩,
    ⟨some 8, none, .bin .lss (.t 7) (.c (.int .i64 2))⟩,
    ⟨some 9, none, .mov (.t 8)⟩,
    ⟨some 10, some (9, false), .mov (.t 0)⟩,
    ⟨some 11, some (9, false), .bin .gtr (.t 10) (.c (.int .i64 64))⟩,
    ⟨some 12, none, .pick (.t 9) (.c (.bool true)) (.t 11)⟩]
    [0, 1, 12])
  (.cond (.t 12)
    (.seq (.region [⟨some 4, none, .mov (.c (.int .i64 1))⟩]
      [4])
    .ret)
    .skip))
  (.seq (.seq (.region [⟨some 5, none, .mov (.c (.int .i64 0))⟩]
    [0, 1, 5])
  (.block 0
    (.loop [0, 1, 5] RB.ref08_Check_2) []))
  (.seq (.region [⟨some 4, none, .mov (.c (.int .i64 0))⟩]
    [4])
  .ret))))⟩

def RB.ref16_Find_1 : RCode :=
  (.seq (.seq (.region [⟨some 7, none, .mov (.t 6)⟩,
    ⟨some 8, none, .fieldAddr 2 (.t 2)⟩,
    ⟨some 9, none, .load false 1 (.t 8)⟩,
    ⟨some 10, none, .len (.t 9)⟩,
    ⟨some 11, none, .bin .lss (.t 7) (.t 10)⟩]
    [1, 2, 4, 6, 11])
  (.cond (.t 11)
    .skip
    (.exit 0)))
  (.seq (.block 1
    (.seq (.region [⟨some 14, none, .fieldAddr 2 (.t 2)⟩,
      ⟨some 15, none, .load false 1 (.t 14)⟩,
      ⟨some 16, none, .mov (.t 6)⟩,
      ⟨some 17, none, .idxS 4 (.t 15) (.t 16)⟩,
      ⟨some 18, none, .fieldAddr 0 (.t 17)⟩,
      ⟨some 19, none, .load false 1 (.t 18)⟩,
      ⟨some 20, none, .mov (.t 1)⟩,
      ⟨some 21, none, .bin .eql (.t 19) (.t 20)⟩]
      [1, 2, 4, 6, 21])
    (.cond (.t 21)
      (.seq (.region [⟨some 22, none, .fieldAddr 2 (.t 2)⟩,
        ⟨some 23, none, .load false 1 (.t 22)⟩,
        ⟨some 24, none, .mov (.t 6)⟩,
        ⟨some 25, none, .idxS 4 (.t 23) (.t 24)⟩,
        ⟨some 26, none, .load true 4 (.t 25)⟩,
        ⟨none, none, .store 4 (.t 4) (.t 26)⟩,
        ⟨some 5, none, .mov (.c (.bool true))⟩]
        [4, 5])
      .ret)
      .skip)) [1, 2, 4, 6])
  (.region [⟨some 12, none, .mov (.t 6)⟩,
    ⟨some 13, none, .bin .add (.t 12) (.c (.int .i64 1))⟩,
    ⟨some 6, none, .mov (.t 13)⟩]
    [1, 2, 4, 6])))
def RC.ref16_Find : RFn := ⟨2, [.cell 4 true 4, .slot 5],
  (.seq (.region [⟨some 2, none, .box (.t 0)⟩,
    ⟨some 4, none, .alloc [(.int .i64 0), (.int .i64 0), (.int .i64 0), (.slice none 0 0)]⟩,
    ⟨some 5, none, .mov (.c (.bool false))⟩]
    [1, 2, 4])
  (.seq (.seq (.region [⟨some 6, none, .mov (.c (.int .i64 0))⟩]
    [1, 2, 4, 6])
  (.block 0
    (.loop [1, 2, 4, 6] RB.ref16_Find_1) [4]))
  (.seq (.region [⟨some 27, none, .build [(.int .i64 0), (.int .i64 0), (.int .i64 0), (.slice none 0 0)] []⟩,
    ⟨none, none, .store 4 (.t 4) (.t 27)⟩,
    ⟨some 5, none, .mov (.c (.bool false))⟩]
    [4, 5])
  .ret)))⟩

def RB.ref04_Ticks_1 : RCode :=
  (.seq (.seq (.region [⟨some 6, none, .mov (.t 4)⟩,
    ⟨some 7, none, .bin .lss (.t 6) (.c (.int .i64 64))⟩]
    [0, 3, 4, 7])
  (.cond (.t 7)
    .skip
    (.exit 0)))
  (.seq (.block 1
    (.seq (.region [⟨some 10, none, .mov (.t 0)⟩,
      ⟨some 11, none, .mov (.t 4)⟩,
      ⟨some 12, none, .call F.ref04_Has [.t 10, .t 11]⟩]
      [0, 3, 4, 12])
    (.cond (.t 12)
      (.region [⟨some 13, none, .mov (.t 3)⟩,
        ⟨some 14, none, .mov (.t 4)⟩,
        ⟨some 15, none, .bslice [(.int .i64 0)] [(0, 1, .t 14)] 1 1⟩,
        ⟨some 16, none, .app 1 8 (.t 13) (.t 15)⟩,
        ⟨some 3, none, .mov (.t 16)⟩]
        [0, 3, 4])
      .skip)) [0, 3, 4])
  (.region [⟨some 8, none, .mov (.t 4)⟩,
    ⟨some 9, none, .bin .add (.t 8) (.c (.int .i64 1))⟩,
    ⟨some 4, none, .mov (.t 9)⟩]
    [0, 3, 4])))
def RC.ref04_Ticks : RFn := ⟨1, [.slot 2],
  (.seq (.region [⟨some 2, none, .mov (.c (.slice none 0 0))⟩]
    [0])
  (.seq (.region [⟨some 5, none, .bslice [] [] 0 1⟩,
    ⟨some 3, none, .mov (.t 5)⟩]
    [0, 3])
  (.seq (.seq (.region [⟨some 4, none, .mov (.c (.int .i64 0))⟩]
    [0, 3, 4])
  (.block 0
    (.loop [0, 3, 4] RB.ref04_Ticks_1) [3]))
  (.seq (.region [⟨some 17, none, .mov (.t 3)⟩,
    ⟨some 2, none, .mov (.t 17)⟩]
    [2])
  .ret))))⟩

def RC.order_Kind : RFn := ⟨1, [.slot 2, .slot 3, .slot 4],
  (.seq (.region [⟨some 2, none, .mov (.c (.int .i64 0))⟩,
    ⟨some 3, none, .mov (.c (.bool false))⟩,
    ⟨some 4, none, .mov (.c (.bool false))⟩]
    [0])
  (.seq (.block 0
    (.seq (.region [⟨some 6, none, .mov (.t 0)⟩,
      ⟨some 7, none, .bin .geq (.t 6) (.c (.int .i64 1))⟩,
      ⟨some 8, none, .mov (.t 7)⟩,
      ⟨some 9, some (8, true), .mov (.t 0)⟩,
      ⟨some 10, some (8, true), .bin .leq (.t 9) (.c (.int .i64 200))⟩,
      ⟨some 11, none, .pick (.t 8) (.t 10) (.c (.bool false))⟩,
      ⟨some 5, none, .mov (.t 11)⟩]
      [0, 5])
    (.cond (.t 5)
      (.seq (.region [⟨some 12, none, .mov (.t 0)⟩,
        ⟨some 2, none, .mov (.t 12)⟩,
        ⟨some 3, none, .mov (.c (.bool false))⟩,
        ⟨some 4, none, .mov (.c (.bool true))⟩]
        [2, 3, 4])
      .ret)
      (.seq (.region [⟨some 14, none, .mov (.t 0)⟩,
        ⟨some 15, none, .bin .gtr (.t 14) (.c (.int .i64 1000))⟩,
        ⟨some 16, none, .mov (.t 15)⟩,
        ⟨some 17, some (16, true), .mov (.t 0)⟩,
        ⟨some 18, some (16, true), .bin .leq (.t 17) (.c (.int .i64 1040))⟩,
        ⟨some 19, none, .pick (.t 16) (.t 18) (.c (.bool false))⟩,
        ⟨some 13, none, .mov (.t 19)⟩]
        [0, 13])
      (.cond (.t 13)
        (.seq (.region [⟨some 20, none, .mov (.t 0)⟩,
          ⟨some 21, none, .bin .sub (.t 20) (.c (.int .i64 1000))⟩,
          ⟨some 2, none, .mov (.t 21)⟩,
          ⟨some 3, none, .mov (.c (.bool true))⟩,
          ⟨some 4, none, .mov (.c (.bool true))⟩]
          [2, 3, 4])
        .ret)
        .skip)))) [])
  (.seq (.region [⟨some 2, none, .mov (.c (.int .i64 0))⟩,
    ⟨some 3, none, .mov (.c (.bool false))⟩,
    ⟨some 4, none, .mov (.c (.bool false))⟩]
    [2, 3, 4])
  .ret)))⟩

def RC.plan_split : RFn := ⟨1, [.slot 2],
  (.seq (.region [⟨some 1, none, .box (.t 0)⟩,
    ⟨some 2, none, .mov (.c (.bool false))⟩]
    [1])
  (.seq (.region [⟨some 3, none, .fieldAddr 3 (.t 1)⟩,
    ⟨some 4, none, .load false 1 (.t 3)⟩,
    ⟨some 5, none, .len (.t 4)⟩,
    ⟨some 6, none, .bin .gtr (.t 5) (.c (.int .i64 0))⟩,
    ⟨some 2, none, .mov (.t 6)⟩]
    [2])
  .ret))⟩

def RB.plan_pieces_1 : RCode :=
  (.seq (.region [⟨some 12, none, .bin .lss (.t 11) (.t 10)⟩]
    [2, 3, 5, 9, 10, 11, 12])
  (.seq (.cond (.t 12)
    .skip
    (.exit 0))
  (.seq (.block 1
    (.seq (.region [⟨some 13, none, .mov (.t 11)⟩,
      ⟨some 14, none, .idxS 2 (.t 9) (.t 11)⟩,
      ⟨some 15, none, .load true 2 (.t 14)⟩,
      ⟨some 7, none, .alloc [(.int .i64 0), (u64 0#64)]⟩,
      ⟨some 6, none, .mov (.t 13)⟩,
      ⟨none, none, .store 2 (.t 7) (.t 15)⟩]
      [2, 3, 5, 6, 7, 9, 10, 11])
    (.seq (.seq (.drawn [⟨some 16, none, .load true 3 (.t 2)⟩,
      ⟨some 17, none, .fieldAddr 0 (.t 7)⟩,
      ⟨some 18, none, .load false 1 (.t 17)⟩,
      ⟨some 19, none, .call F.plan_has [.t 16, .t 18]⟩,
      ⟨some 20, none, .un .not (.t 19)⟩,
      ⟨some 21, none, .mov (.t 20)⟩,
      ⟨some 22, some (21, false), .mov (.t 6)⟩,
      ⟨some 23, some (21, false), .bin .gtr (.t 22) (.c (.int .i64 0))⟩,
      ⟨some 24, some (21, false), .mov (.t 23)⟩,
      ⟨some 25, some (24, true), .fieldAddr 0 (.t 7)⟩,
      ⟨some 26, some (24, true), .load false 1 (.t 25)⟩,
      ⟨some 27, some (24, true), .fieldAddr 3 (.t 3)⟩,
      ⟨some 28, some (24, true), .load false 1 (.t 27)⟩,
      ⟨some 29, some (24, true), .mov (.t 6)⟩,
      ⟨some 30, some (24, true), .bin .sub (.t 29) (.c (.int .i64 1))⟩,
      ⟨some 31, some (24, true), .idxS 2 (.t 28) (.t 30)⟩,
      ⟨some 32, some (24, true), .fieldAddr 0 (.t 31)⟩,
      ⟨some 33, some (24, true), .load false 1 (.t 32)⟩,
      ⟨some 34, some (24, true), .bin .leq (.t 26) (.t 33)⟩,
      ⟨some 35, some (21, false), .pick (.t 24) (.t 34) (.c (.bool false))⟩,
      ⟨some 36, none, .pick (.t 21) (.c (.bool true)) (.t 35)⟩,
      ⟨some 37, none, .mov (.t 36)⟩,
      ⟨some 38, some (37, false), .fieldAddr 1 (.t 7)⟩,
      ⟨some 39, some (37, false), .load false 1 (.t 38)⟩,
      ⟨some 40, some (37, false), .bin .eql (.t 39) (.c (u64 0#64))⟩,
      ⟨some 41, none, .pick (.t 37) (.c (.bool true)) (.t 40)⟩,
      ⟨some 42, none, .mov (.t 41)⟩,
      ⟨some 43, some (42, false), .fieldAddr 1 (.t 7)⟩,
      ⟨some 44, some (42, false), .load false 1 (.t 43)⟩,
      ⟨some 45, some (42, false), .fieldAddr 0 (.t 2)⟩,
      ⟨some 46, some (42, false), .load false 1 (.t 45)⟩,
      ⟨some 47, some (42, false), .call F.mask_All [.t 46]⟩,
      ⟨some 48, some (42, false), .bin .andNot (.t 44) (.t 47)⟩,
      ⟨some 49, some (42, false), .bin .neq (.t 48) (.c (u64 0#64))⟩,
      ⟨some 50, none, .pick (.t 42) (.c (.bool true)) (.t 49)⟩,
      ⟨some 51, none, .mov (.t 50)⟩,
      ⟨some 52, some (51, false), .fieldAddr 1 (.t 7)⟩,
      ⟨some 53, some (51, false), .load false 1 (.t 52)⟩,
      ⟨some 54, some (51, false), .mov (.t 5)⟩,
      ⟨some 55, some (51, false), .bin .and (.t 53) (.t 54)⟩,
      ⟨some 56, some (51, false), .bin .neq (.t 55) (.c (u64 0#64))⟩,
      ⟨some 57, none, .pick (.t 51) (.c (.bool true)) (.t 56)⟩]
      [[], [], [1], [0, 2], [3], [4, 3], [5], [6, 5], [7, 5, 5], [8], [9, 8], [8], [11, 8], [8], [13, 8], [12, 14, 8], [15, 8], [16, 8], [10, 17, 8], [8, 18, 5], [5, 19], [20, 8], [21], [22, 21], [23, 21], [21, 24], [25, 21], [26], [27, 26], [26], [29, 26], [30, 26, 26], [28, 31, 26], [32, 26], [26, 33], [34, 31], [35], [36, 35], [35], [37, 38, 35], [39, 35], [35, 40]]
      [(1, []), (0, []), (2, []), (3, []), (4, []), (5, []), (6, []), (7, []), (8, []), (9, []), (11, []), (13, []), (14, []), (10, []), (12, []), (15, []), (16, []), (17, []), (18, []), (19, []), (20, []), (21, []), (22, []), (23, []), (24, []), (25, []), (26, []), (27, []), (29, []), (28, []), (30, []), (31, [43]), (32, []), (33, []), (34, []), (35, []), (36, []), (38, []), (37, []), (39, []), (40, []), (41, [])]
      [[], [], [1], [0, 1, 2], [0, 1, 2, 3], [0, 1, 2, 3, 4], [0, 1, 2, 3, 4, 5], [0, 1, 2, 3, 4, 5, 6], [0, 1, 2, 3, 4, 5, 6, 7], [0, 1, 2, 3, 4, 5, 6, 7, 8], [0, 1, 2, 3, 4, 5, 6, 7, 8, 9], [0, 1, 2, 3, 4, 5, 6, 7, 8], [0, 1, 2, 3, 4, 5, 6, 7, 8, 11], [0, 1, 2, 3, 4, 5, 6, 7, 8], [0, 1, 2, 3, 4, 5, 6, 7, 8, 13], [0, 1, 2, 3, 4, 5, 6, 7, 8, 11, 12, 13, 14], [0, 1, 2, 3, 4, 5, 6, 7, 8, 11, 12, 13, 14, 15], [0, 1, 2, 3, 4, 5, 6, 7, 8, 11, 12, 13, 14, 15, 16], [0, 1, 2, 3, 4, 5, 6, 7, 8, 9, 10, 11, 12, 13, 14, 15, 16, 17], [0, 1, 2, 3, 4, 5, 6, 7, 8, 9, 10, 11, 12, 13, 14, 15, 16, 17, 18], [0, 1, 2, 3, 4, 5, 6, 7, 8, 9, 10, 11, 12, 13, 14, 15, 16, 17, 18, 19], [0, 1, 2, 3, 4, 5, 6, 7, 8, 9, 10, 11, 12, 13, 14, 15, 16, 17, 18, 19, 20], [0, 1, 2, 3, 4, 5, 6, 7, 8, 9, 10, 11, 12, 13, 14, 15, 16, 17, 18, 19, 20, 21], [0, 1, 2, 3, 4, 5, 6, 7, 8, 9, 10, 11, 12, 13, 14, 15, 16, 17, 18, 19, 20, 21, 22], [0, 1, 2, 3, 4, 5, 6, 7, 8, 9, 10, 11, 12, 13, 14, 15, 16, 17, 18, 19, 20, 21, 22, 23], [0, 1, 2, 3, 4, 5, 6, 7, 8, 9, 10, 11, 12, 13, 14, 15, 16, 17, 18, 19, 20, 21, 22, 23, 24], [0, 1, 2, 3, 4, 5, 6, 7, 8, 9, 10, 11, 12, 13, 14, 15, 16, 17, 18, 19, 20, 21, 22, 23, 24, 25], [0, 1, 2, 3, 4, 5, 6, 7, 8, 9, 10, 11, 12, 13, 14, 15, 16, 17, 18, 19, 20, 21, 22, 23, 24, 25, 26], [0, 1, 2, 3, 4, 5, 6, 7, 8, 9, 10, 11, 12, 13, 14, 15, 16, 17, 18, 19, 20, 21, 22, 23, 24, 25, 26, 27], [0, 1, 2, 3, 4, 5, 6, 7, 8, 9, 10, 11, 12, 13, 14, 15, 16, 17, 18, 19, 20, 21, 22, 23, 24, 25, 26], [0, 1, 2, 3, 4, 5, 6, 7, 8, 9, 10, 11, 12, 13, 14, 15, 16, 17, 18, 19, 20, 21, 22, 23, 24, 25, 26, 29], [0, 1, 2, 3, 4, 5, 6, 7, 8, 9, 10, 11, 12, 13, 14, 15, 16, 17, 18, 19, 20, 21, 22, 23, 24, 25, 26, 29, 30], [0, 1, 2, 3, 4, 5, 6, 7, 8, 9, 10, 11, 12, 13, 14, 15, 16, 17, 18, 19, 20, 21, 22, 23, 24, 25, 26, 27, 28, 29, 30, 31], [0, 1, 2, 3, 4, 5, 6, 7, 8, 9, 10, 11, 12, 13, 14, 15, 16, 17, 18, 19, 20, 21, 22, 23, 24, 25, 26, 27, 28, 29, 30, 31, 32], [0, 1, 2, 3, 4, 5, 6, 7, 8, 9, 10, 11, 12, 13, 14, 15, 16, 17, 18, 19, 20, 21, 22, 23, 24, 25, 26, 27, 28, 29, 30, 31, 32, 33], [0, 1, 2, 3, 4, 5, 6, 7, 8, 9, 10, 11, 12, 13, 14, 15, 16, 17, 18, 19, 20, 21, 22, 23, 24, 25, 26, 27, 28, 29, 30, 31, 32, 33, 34], [0, 1, 2, 3, 4, 5, 6, 7, 8, 9, 10, 11, 12, 13, 14, 15, 16, 17, 18, 19, 20, 21, 22, 23, 24, 25, 26, 27, 28, 29, 30, 31, 32, 33, 34, 35], [0, 1, 2, 3, 4, 5, 6, 7, 8, 9, 10, 11, 12, 13, 14, 15, 16, 17, 18, 19, 20, 21, 22, 23, 24, 25, 26, 27, 28, 29, 30, 31, 32, 33, 34, 35, 36], [0, 1, 2, 3, 4, 5, 6, 7, 8, 9, 10, 11, 12, 13, 14, 15, 16, 17, 18, 19, 20, 21, 22, 23, 24, 25, 26, 27, 28, 29, 30, 31, 32, 33, 34, 35], [0, 1, 2, 3, 4, 5, 6, 7, 8, 9, 10, 11, 12, 13, 14, 15, 16, 17, 18, 19, 20, 21, 22, 23, 24, 25, 26, 27, 28, 29, 30, 31, 32, 33, 34, 35, 36, 37, 38], [0, 1, 2, 3, 4, 5, 6, 7, 8, 9, 10, 11, 12, 13, 14, 15, 16, 17, 18, 19, 20, 21, 22, 23, 24, 25, 26, 27, 28, 29, 30, 31, 32, 33, 34, 35, 36, 37, 38, 39], [0, 1, 2, 3, 4, 5, 6, 7, 8, 9, 10, 11, 12, 13, 14, 15, 16, 17, 18, 19, 20, 21, 22, 23, 24, 25, 26, 27, 28, 29, 30, 31, 32, 33, 34, 35, 36, 37, 38, 39, 40]]
      [2, 3, 5, 7, 9, 10, 11, 57])
    (.cond (.t 57)
      (.seq (.region [⟨some 4, none, .mov (.c (.bool false))⟩]
        [4])
      .ret)
      .skip))
    (.region [⟨some 58, none, .mov (.t 5)⟩,
      ⟨some 59, none, .fieldAddr 1 (.t 7)⟩,
      ⟨some 60, none, .load false 1 (.t 59)⟩,
      ⟨some 61, none, .bin .or (.t 58) (.t 60)⟩,
      ⟨some 5, none, .mov (.t 61)⟩]
      [2, 3, 5, 9, 10, 11]))) [2, 3, 5, 9, 10, 11])
  (.region [⟨some 62, none, .bin .add (.t 11) (.c (.int .i64 1))⟩,
    ⟨some 11, none, .mov (.t 62)⟩]
    [2, 3, 5, 9, 10, 11]))))
def RC.plan_pieces : RFn := ⟨2, [.slot 4],
  (.seq (.region [⟨some 2, none, .box (.t 0)⟩,
    ⟨some 3, none, .box (.t 1)⟩,
    ⟨some 4, none, .mov (.c (.bool false))⟩]
    [2, 3])
  (.seq (.region [⟨some 5, none, .mov (.c (u64 0#64))⟩]
    [2, 3, 5])
  (.seq (.seq (.region [⟨some 8, none, .fieldAddr 3 (.t 3)⟩,
    ⟨some 9, none, .load false 1 (.t 8)⟩,
    ⟨some 10, none, .len (.t 9)⟩,
    ⟨some 11, none, .mov (.c (.int .i64 0))⟩]
    [2, 3, 5, 9, 10, 11])
  (.block 0
    (.loop [2, 3, 5, 9, 10, 11] RB.plan_pieces_1) [3, 5]))
  (.seq (.drawn [⟨some 63, none, .fieldAddr 3 (.t 3)⟩,
    ⟨some 64, none, .load false 1 (.t 63)⟩,
    ⟨some 65, none, .len (.t 64)⟩,
    ⟨some 66, none, .bin .gtr (.t 65) (.c (.int .i64 1))⟩,
    ⟨some 67, none, .mov (.t 66)⟩,
    ⟨some 68, some (67, true), .fieldAddr 2 (.t 3)⟩,
    ⟨some 69, some (67, true), .load false 1 (.t 68)⟩,
    ⟨some 70, some (67, true), .bin .eql (.t 69) (.c (.int .i64 0))⟩,
    ⟨some 71, none, .pick (.t 67) (.t 70) (.c (.bool false))⟩,
    ⟨some 72, none, .mov (.t 71)⟩,
    ⟨some 73, some (72, true), .mov (.t 5)⟩,
    ⟨some 74, some (72, true), .call F.mask_Count [.t 73]⟩,
    ⟨some 75, some (72, true), .fieldAddr 1 (.t 3)⟩,
    ⟨some 76, some (72, true), .load false 1 (.t 75)⟩,
    ⟨some 77, some (72, true), .bin .eql (.t 74) (.t 76)⟩,
    ⟨some 78, none, .pick (.t 72) (.t 77) (.c (.bool false))⟩,
    ⟨some 4, none, .mov (.t 78)⟩]
    [[], [0], [1], [2], [3], [4], [5, 4], [6, 4], [4, 7], [8, 4], [9], [10, 9, 9], [9], [12, 9], [11, 13, 9], [9, 14], [15, 11, 0, 1, 2, 3, 4, 5, 6, 7, 8, 9, 10, 11, 12, 13, 14, 15]]
    [(0, []), (1, []), (2, []), (3, []), (4, []), (5, []), (6, []), (7, []), (8, []), (9, []), (10, []), (12, []), (13, []), (11, [75]), (14, []), (15, []), (16, [])]
    [[], [0], [0, 1], [0, 1, 2], [0, 1, 2, 3], [0, 1, 2, 3, 4], [0, 1, 2, 3, 4, 5], [0, 1, 2, 3, 4, 5, 6], [0, 1, 2, 3, 4, 5, 6, 7], [0, 1, 2, 3, 4, 5, 6, 7, 8], [0, 1, 2, 3, 4, 5, 6, 7, 8, 9], [0, 1, 2, 3, 4, 5, 6, 7, 8, 9, 10], [0, 1, 2, 3, 4, 5, 6, 7, 8, 9], [0, 1, 2, 3, 4, 5, 6, 7, 8, 9, 12], [0, 1, 2, 3, 4, 5, 6, 7, 8, 9, 10, 11, 12, 13], [0, 1, 2, 3, 4, 5, 6, 7, 8, 9, 10, 11, 12, 13, 14], [0, 1, 2, 3, 4, 5, 6, 7, 8, 9, 10, 11, 12, 13, 14, 15]]
    [4])
  .ret))))⟩

def RC.plan_has : RFn := ⟨2, [.slot 4],
  (.seq (.region [⟨some 2, none, .box (.t 0)⟩,
    ⟨some 4, none, .mov (.c (.bool false))⟩]
    [1, 2])
  (.seq (.region [⟨some 5, none, .mov (.t 1)⟩,
    ⟨some 6, none, .bin .geq (.t 5) (.c (.int .i64 0))⟩,
    ⟨some 7, none, .mov (.t 6)⟩,
    ⟨some 8, some (7, true), .mov (.t 1)⟩,
    ⟨some 9, some (7, true), .bin .lss (.t 8) (.c (.int .i64 16))⟩,
    ⟨some 10, none, .pick (.t 7) (.t 9) (.c (.bool false))⟩,
    ⟨some 11, none, .mov (.t 10)⟩,
    ⟨some 12, some (11, true), .fieldAddr 1 (.t 2)⟩,
    ⟨some 13, some (11, true), .load false 1 (.t 12)⟩,
    ⟨some 14, some (11, true), .mov (.t 1)⟩,
    ⟨some 15, some (11, true), .bin .shr (.t 13) (.t 14)⟩,
    ⟨some 16, some (11, true), .bin .and (.t 15) (.c (u32 1#32))⟩,
    ⟨some 17, some (11, true), .bin .eql (.t 16) (.c (u32 1#32))⟩,
    ⟨some 18, none, .pick (.t 11) (.t 17) (.c (.bool false))⟩,
    ⟨some 4, none, .mov (.t 18)⟩]
    [4])
  .ret))⟩

def RC.mask_Count : RFn := ⟨1, [.slot 2],
  (.seq (.region [⟨some 2, none, .mov (.c (.int .i64 0))⟩]
    [0])
  (.seq (.region [⟨some 3, none, .mov (.t 0)⟩,
    ⟨some 4, none, .call F.math_bits_OnesCount64 [.t 3]⟩,
    ⟨some 2, none, .mov (.t 4)⟩]
    [2])
  .ret))⟩

def RB.plan_Wholes_1 : RCode :=
  (.seq (.region [⟨some 12, none, .bin .lss (.t 11) (.t 10)⟩]
    [1, 5, 9, 10, 11, 12])
  (.seq (.cond (.t 12)
    .skip
    (.exit 0))
  (.seq (.block 1
    (.seq (.region [⟨some 13, none, .idxS 4 (.t 9) (.t 11)⟩,
      ⟨some 14, none, .load true 4 (.t 13)⟩,
      ⟨some 7, none, .alloc [(.int .i64 0), (.int .i64 0), (.int .i64 0), (.slice none 0 0)]⟩,
      ⟨none, none, .store 4 (.t 7) (.t 14)⟩]
      [1, 5, 7, 9, 10, 11])
    (.seq (.region [⟨some 15, none, .load true 4 (.t 7)⟩,
      ⟨some 16, none, .call F.plan_split [.t 15]⟩,
      ⟨some 17, none, .un .not (.t 16)⟩,
      ⟨some 18, none, .mov (.t 17)⟩,
      ⟨some 19, some (18, true), .fieldAddr 2 (.t 7)⟩,
      ⟨some 20, some (18, true), .load false 1 (.t 19)⟩,
      ⟨some 21, some (18, true), .mov (.t 1)⟩,
      ⟨some 22, some (18, true), .bin .eql (.t 20) (.t 21)⟩,
      ⟨some 23, none, .pick (.t 18) (.t 22) (.c (.bool false))⟩]
      [1, 5, 7, 9, 10, 11, 23])
    (.cond (.t 23)
      (.region [⟨some 24, none, .mov (.t 5)⟩,
        ⟨some 25, none, .fieldAddr 0 (.t 7)⟩,
        ⟨some 26, none, .load false 1 (.t 25)⟩,
        ⟨some 27, none, .fieldAddr 1 (.t 7)⟩,
        ⟨some 28, none, .load false 1 (.t 27)⟩,
        ⟨some 29, none, .build [(.int .i64 0), (.int .i64 0)] [(0, 1, .t 26), (1, 1, .t 28)]⟩,
        ⟨some 30, none, .bslice [(.int .i64 0), (.int .i64 0)] [(0, 2, .t 29)] 1 2⟩,
        ⟨some 31, none, .app 2 16 (.t 24) (.t 30)⟩,
        ⟨some 5, none, .mov (.t 31)⟩]
        [1, 5, 9, 10, 11])
      .skip))) [1, 5, 9, 10, 11])
  (.region [⟨some 32, none, .bin .add (.t 11) (.c (.int .i64 1))⟩,
    ⟨some 11, none, .mov (.t 32)⟩]
    [1, 5, 9, 10, 11]))))
def RC.plan_Wholes : RFn := ⟨2, [.slot 4],
  (.seq (.region [⟨some 2, none, .box (.t 0)⟩,
    ⟨some 4, none, .mov (.c (.slice none 0 0))⟩]
    [1, 2])
  (.seq (.region [⟨some 5, none, .mov (.c (.slice none 0 0))⟩]
    [1, 2, 5])
  (.seq (.seq (.region [⟨some 8, none, .fieldAddr 2 (.t 2)⟩,
    ⟨some 9, none, .load false 1 (.t 8)⟩,
    ⟨some 10, none, .len (.t 9)⟩,
    ⟨some 11, none, .mov (.c (.int .i64 0))⟩]
    [1, 5, 9, 10, 11])
  (.block 0
    (.loop [1, 5, 9, 10, 11] RB.plan_Wholes_1) [5]))
  (.seq (.region [⟨some 33, none, .mov (.t 5)⟩,
    ⟨some 4, none, .mov (.t 33)⟩]
    [4])
  .ret))))⟩

def RC.mask_frame : RFn := ⟨1, [.slot 2],
  (.seq (.region [⟨some 2, none, .mov (.c (.int .i64 0))⟩]
    [0])
  (.seq (.region [⟨some 3, none, .mov (.t 0)⟩,
    ⟨some 4, none, .minmax true [.t 3, .c (.int .i64 0)]⟩,
    ⟨some 5, none, .minmax false [.t 4, .c (.int .i64 64)]⟩,
    ⟨some 2, none, .mov (.t 5)⟩]
    [2])
  .ret))⟩

def RB.weave_match_push_1 : RCode :=
  (.seq (.region [⟨some 16, none, .bin .lss (.t 15) (.t 14)⟩]
    [0, 1, 2, 14, 15, 16])
  (.seq (.cond (.t 16)
    .skip
    (.exit 0))
  (.seq (.block 1
    (.seq (.region [⟨some 17, none, .mov (.t 15)⟩,
      ⟨some 7, none, .mov (.t 17)⟩]
      [0, 1, 2, 7, 14, 15])
    (.seq (.seq (.region [⟨some 18, none, .mov (.t 0)⟩,
      ⟨some 19, none, .mov (.t 7)⟩,
      ⟨some 20, none, .nilchk (.t 18)⟩,
      ⟨some 21, none, .fieldAddr 1 (.t 20)⟩,
      ⟨some 22, none, .idxP 64 1 (.t 21) (.t 19)⟩,
      ⟨some 23, none, .load false 1 (.t 22)⟩,
      ⟨some 24, none, .mov (.t 1)⟩,
      ⟨some 25, none, .bin .add (.t 24) (.c (.int .i64 1))⟩,
      ⟨some 26, none, .bin .neq (.t 23) (.t 25)⟩]
      [0, 1, 2, 7, 14, 15, 26])
    (.cond (.t 26)
      (.exit 1)
      .skip))
    (.seq (.region [⟨some 27, none, .mov (.t 0)⟩,
      ⟨some 28, none, .mov (.t 7)⟩,
      ⟨some 29, none, .mov (.t 2)⟩,
      ⟨some 30, none, .call F.weave_match_try [.t 27, .t 28, .t 29]⟩]
      [0, 1, 2, 14, 15, 30])
    (.cond (.t 30)
      (.seq (.region [⟨some 31, none, .mov (.t 0)⟩,
        ⟨some 32, none, .nilchk (.t 31)⟩,
        ⟨some 33, none, .fieldAddr 65 (.t 32)⟩,
        ⟨some 34, none, .load false 1 (.t 33)⟩,
        ⟨some 35, none, .mov (.t 1)⟩,
        ⟨some 36, none, .idxS 1 (.t 34) (.t 35)⟩,
        ⟨some 37, none, .load false 1 (.t 36)⟩,
        ⟨some 38, none, .bin .sub (.t 37) (.c (.int .i64 1))⟩,
        ⟨some 39, none, .idxS 1 (.t 34) (.t 35)⟩,
        ⟨none, none, .store 1 (.t 39) (.t 38)⟩]
        [])
      (.seq (.region [⟨some 6, none, .mov (.c (.bool true))⟩]
        [6])
      .ret))
      .skip)))) [0, 1, 2, 14, 15])
  (.region [⟨some 40, none, .bin .add (.t 15) (.c (.int .i64 1))⟩,
    ⟨some 15, none, .mov (.t 40)⟩]
    [0, 1, 2, 14, 15]))))
def RC.weave_match_push : RFn := ⟨3, [.slot 6],
  (.seq (.region [⟨some 6, none, .mov (.c (.bool false))⟩]
    [0, 1, 2])
  (.seq (.seq (.region [⟨some 8, none, .mov (.t 0)⟩,
    ⟨some 9, none, .nilchk (.t 8)⟩,
    ⟨some 10, none, .fieldAddr 0 (.t 9)⟩,
    ⟨some 11, none, .load false 1 (.t 10)⟩,
    ⟨some 12, none, .nilchk (.t 11)⟩,
    ⟨some 13, none, .fieldAddr 0 (.t 12)⟩,
    ⟨some 14, none, .load false 1 (.t 13)⟩,
    ⟨some 15, none, .mov (.c (.int .i64 0))⟩]
    [0, 1, 2, 14, 15])
  (.block 0
    (.loop [0, 1, 2, 14, 15] RB.weave_match_push_1) []))
  (.seq (.region [⟨some 6, none, .mov (.c (.bool false))⟩]
    [6])
  .ret)))⟩

def RC.plan_find : RFn := ⟨2, [.slot 4, .slot 5],
  (.seq (.region [⟨some 2, none, .box (.t 0)⟩,
    ⟨some 4, none, .mov (.c (.int .i64 0))⟩,
    ⟨some 5, none, .mov (.c (.bool false))⟩]
    [1, 2])
  (.seq (.region [⟨some 6, none, .fieldAddr 2 (.t 2)⟩,
    ⟨some 7, none, .load false 1 (.t 6)⟩,
    ⟨some 8, none, .mov (.t 1)⟩,
    ⟨some 9, none, .call F.slices_BinarySearchFunc_api_Place_api_Place_int [.t 7, .t 8, .f F.plan_find_1]⟩,
    ⟨some 10, none, .ext 0 (.t 9)⟩,
    ⟨some 11, none, .ext 1 (.t 9)⟩,
    ⟨some 4, none, .mov (.t 10)⟩,
    ⟨some 5, none, .mov (.t 11)⟩]
    [4, 5])
  .ret))⟩

def RC.slices_Clone_api_Piece_api_Piece : RFn := ⟨1, [.slot 2],
  (.seq (.region [⟨some 2, none, .mov (.c (.slice none 0 0))⟩]
    [0])
  (.seq (.seq (.region [⟨some 3, none, .mov (.t 0)⟩,
    ⟨some 4, none, .eq false .slice (.t 3) (.c (.slice none 0 0))⟩]
    [0, 4])
  (.cond (.t 4)
    (.seq (.region [⟨some 2, none, .mov (.c (.slice none 0 0))⟩]
      [2])
    .ret)
    .skip))
  (.seq (.region [⟨some 5, none, .bslice [] [] 0 2⟩,
    ⟨some 6, none, .mov (.t 0)⟩,
    ⟨some 7, none, .app 2 16 (.t 5) (.t 6)⟩,
    ⟨some 2, none, .mov (.t 7)⟩]
    [2])
  .ret)))⟩

def RB.ffd_first_1 : RCode :=
  (.seq (.region [⟨some 12, none, .bin .lss (.t 11) (.t 10)⟩]
    [1, 2, 9, 10, 11, 12])
  (.seq (.cond (.t 12)
    .skip
    (.exit 0))
  (.seq (.block 1
    (.seq (.region [⟨some 13, none, .idxS 1 (.t 9) (.t 11)⟩,
      ⟨some 14, none, .load false 1 (.t 13)⟩,
      ⟨some 7, none, .mov (.t 14)⟩]
      [1, 2, 7, 9, 10, 11])
    (.seq (.region [⟨some 15, none, .load true 3 (.t 2)⟩,
      ⟨some 16, none, .mov (.t 7)⟩,
      ⟨some 17, none, .call F.plan_Room [.t 15, .t 16]⟩,
      ⟨some 18, none, .mov (.t 1)⟩,
      ⟨some 19, none, .bin .geq (.t 17) (.t 18)⟩]
      [1, 2, 7, 9, 10, 11, 19])
    (.cond (.t 19)
      (.seq (.region [⟨some 20, none, .mov (.t 7)⟩,
        ⟨some 4, none, .mov (.t 20)⟩,
        ⟨some 5, none, .mov (.c (.bool true))⟩]
        [4, 5])
      .ret)
      .skip))) [1, 2, 9, 10, 11])
  (.region [⟨some 21, none, .bin .add (.t 11) (.c (.int .i64 1))⟩,
    ⟨some 11, none, .mov (.t 21)⟩]
    [1, 2, 9, 10, 11]))))
def RC.ffd_first : RFn := ⟨2, [.slot 4, .slot 5],
  (.seq (.region [⟨some 2, none, .box (.t 0)⟩,
    ⟨some 4, none, .mov (.c (.int .i64 0))⟩,
    ⟨some 5, none, .mov (.c (.bool false))⟩]
    [1, 2])
  (.seq (.seq (.region [⟨some 8, none, .load true 3 (.t 2)⟩,
    ⟨some 9, none, .call F.plan_Cores [.t 8]⟩,
    ⟨some 10, none, .len (.t 9)⟩,
    ⟨some 11, none, .mov (.c (.int .i64 0))⟩]
    [1, 2, 9, 10, 11])
  (.block 0
    (.loop [1, 2, 9, 10, 11] RB.ffd_first_1) []))
  (.seq (.region [⟨some 4, none, .mov (.c (.int .i64 0))⟩,
    ⟨some 5, none, .mov (.c (.bool false))⟩]
    [4, 5])
  .ret)))⟩

def RC.math_bits_OnesCount64 : RFn := ⟨1, [.slot 2],
  (.seq (.region [⟨some 2, none, .mov (.c (.int .i64 0))⟩]
    [0])
  (.seq (.region [⟨some 3, none, .mov (.t 0)⟩,
    ⟨some 4, none, .bin .shr (.t 3) (.c (u64 1#64))⟩,
    ⟨some 5, none, .bin .and (.t 4) (.c (u64 6148914691236517205#64))⟩,
    ⟨some 6, none, .mov (.t 0)⟩,
    ⟨some 7, none, .bin .and (.t 6) (.c (u64 6148914691236517205#64))⟩,
    ⟨some 8, none, .bin .add (.t 5) (.t 7)⟩,
    ⟨some 0, none, .mov (.t 8)⟩]
    [0])
  (.seq (.region [⟨some 9, none, .mov (.t 0)⟩,
    ⟨some 10, none, .bin .shr (.t 9) (.c (u64 2#64))⟩,
    ⟨some 11, none, .bin .and (.t 10) (.c (u64 3689348814741910323#64))⟩,
    ⟨some 12, none, .mov (.t 0)⟩,
    ⟨some 13, none, .bin .and (.t 12) (.c (u64 3689348814741910323#64))⟩,
    ⟨some 14, none, .bin .add (.t 11) (.t 13)⟩,
    ⟨some 0, none, .mov (.t 14)⟩]
    [0])
  (.seq (.region [⟨some 15, none, .mov (.t 0)⟩,
    ⟨some 16, none, .bin .shr (.t 15) (.c (u64 4#64))⟩,
    ⟨some 17, none, .mov (.t 0)⟩,
    ⟨some 18, none, .bin .add (.t 16) (.t 17)⟩,
    ⟨some 19, none, .bin .and (.t 18) (.c (u64 1085102592571150095#64))⟩,
    ⟨some 0, none, .mov (.t 19)⟩]
    [0])
  (.seq (.region [⟨some 20, none, .mov (.t 0)⟩,
    ⟨some 21, none, .mov (.t 0)⟩,
    ⟨some 22, none, .bin .shr (.t 21) (.c (u64 8#64))⟩,
    ⟨some 23, none, .bin .add (.t 20) (.t 22)⟩,
    ⟨some 0, none, .mov (.t 23)⟩]
    [0])
  (.seq (.region [⟨some 24, none, .mov (.t 0)⟩,
    ⟨some 25, none, .mov (.t 0)⟩,
    ⟨some 26, none, .bin .shr (.t 25) (.c (u64 16#64))⟩,
    ⟨some 27, none, .bin .add (.t 24) (.t 26)⟩,
    ⟨some 0, none, .mov (.t 27)⟩]
    [0])
  (.seq (.region [⟨some 28, none, .mov (.t 0)⟩,
    ⟨some 29, none, .mov (.t 0)⟩,
    ⟨some 30, none, .bin .shr (.t 29) (.c (u64 32#64))⟩,
    ⟨some 31, none, .bin .add (.t 28) (.t 30)⟩,
    ⟨some 0, none, .mov (.t 31)⟩]
    [0])
  (.seq (.region [⟨some 32, none, .mov (.t 0)⟩,
    ⟨some 33, none, .conv .i64 (.t 32)⟩,
    ⟨some 34, none, .bin .and (.t 33) (.c (.int .i64 127))⟩,
    ⟨some 2, none, .mov (.t 34)⟩]
    [2])
  .ret))))))))⟩

def RB.slices_BinarySearchFunc_api_Place_api_Place_int_1 : RCode :=
  (.seq (.seq (.region [⟨some 15, none, .mov (.t 9)⟩,
    ⟨some 16, none, .mov (.t 10)⟩,
    ⟨some 17, none, .bin .lss (.t 15) (.t 16)⟩]
    [0, 1, 2, 8, 9, 10, 17])
  (.cond (.t 17)
    .skip
    (.exit 0)))
  (.block 1
    (.seq (.region [⟨some 18, none, .mov (.t 9)⟩,
      ⟨some 19, none, .mov (.t 10)⟩,
      ⟨some 20, none, .bin .add (.t 18) (.t 19)⟩,
      ⟨some 21, none, .conv .u64 (.t 20)⟩,
      ⟨some 22, none, .bin .shr (.t 21) (.c (u64 1#64))⟩,
      ⟨some 23, none, .conv .i64 (.t 22)⟩,
      ⟨some 11, none, .mov (.t 23)⟩]
      [0, 1, 2, 8, 9, 10, 11])
    (.seq (.region [⟨some 24, none, .mov (.t 2)⟩,
      ⟨some 25, none, .mov (.t 0)⟩,
      ⟨some 26, none, .mov (.t 11)⟩,
      ⟨some 27, none, .idxS 4 (.t 25) (.t 26)⟩,
      ⟨some 28, none, .load true 4 (.t 27)⟩,
      ⟨some 29, none, .mov (.t 1)⟩,
      ⟨some 30, none, .callv (.t 24) [.t 28, .t 29]⟩,
      ⟨some 31, none, .bin .lss (.t 30) (.c (.int .i64 0))⟩]
      [0, 1, 2, 8, 9, 10, 11, 31])
    (.cond (.t 31)
      (.region [⟨some 32, none, .mov (.t 11)⟩,
        ⟨some 33, none, .bin .add (.t 32) (.c (.int .i64 1))⟩,
        ⟨some 9, none, .mov (.t 33)⟩]
        [0, 1, 2, 8, 9, 10])
      (.region [⟨some 34, none, .mov (.t 11)⟩,
        ⟨some 10, none, .mov (.t 34)⟩]
        [0, 1, 2, 8, 9, 10])))) [0, 1, 2, 8, 9, 10]))
def RC.slices_BinarySearchFunc_api_Place_api_Place_int : RFn := ⟨3, [.slot 6, .slot 7],
  (.seq (.region [⟨some 6, none, .mov (.c (.int .i64 0))⟩,
    ⟨some 7, none, .mov (.c (.bool false))⟩]
    [0, 1, 2])
  (.seq (.region [⟨some 12, none, .mov (.t 0)⟩,
    ⟨some 13, none, .len (.t 12)⟩,
    ⟨some 8, none, .mov (.t 13)⟩]
    [0, 1, 2, 8])
  (.seq (.region [⟨some 14, none, .mov (.t 8)⟩,
    ⟨some 9, none, .mov (.c (.int .i64 0))⟩,
    ⟨some 10, none, .mov (.t 14)⟩]
    [0, 1, 2, 8, 9, 10])
  (.seq (.block 0
    (.loop [0, 1, 2, 8, 9, 10] RB.slices_BinarySearchFunc_api_Place_api_Place_int_1) [0, 1, 2, 8, 9])
  (.seq (.region [⟨some 35, none, .mov (.t 9)⟩,
    ⟨some 36, none, .mov (.t 9)⟩,
    ⟨some 37, none, .mov (.t 8)⟩,
    ⟨some 38, none, .bin .lss (.t 36) (.t 37)⟩,
    ⟨some 39, none, .mov (.t 38)⟩,
    ⟨some 40, some (39, true), .mov (.t 2)⟩,
    ⟨some 41, some (39, true), .mov (.t 0)⟩,
    ⟨some 42, some (39, true), .mov (.t 9)⟩,
    ⟨some 43, some (39, true), .idxS 4 (.t 41) (.t 42)⟩,
    ⟨some 44, some (39, true), .load true 4 (.t 43)⟩,
    ⟨some 45, some (39, true), .mov (.t 1)⟩,
    ⟨some 46, some (39, true), .callv (.t 40) [.t 44, .t 45]⟩,
    ⟨some 47, some (39, true), .bin .eql (.t 46) (.c (.int .i64 0))⟩,
    ⟨some 48, none, .pick (.t 39) (.t 47) (.c (.bool false))⟩,
    ⟨some 6, none, .mov (.t 35)⟩,
    ⟨some 7, none, .mov (.t 48)⟩]
    [6, 7])
  .ret)))))⟩

def RC.plan_find_1 : RFn := ⟨2, [.slot 4],
  (.seq (.region [⟨some 2, none, .box (.t 0)⟩,
    ⟨some 4, none, .mov (.c (.int .i64 0))⟩]
    [1, 2])
  (.seq (.region [⟨some 5, none, .fieldAddr 0 (.t 2)⟩,
    ⟨some 6, none, .load false 1 (.t 5)⟩,
    ⟨some 7, none, .mov (.t 1)⟩,
    ⟨some 8, none, .call F.cmp_Compare_int [.t 6, .t 7]⟩,
    ⟨some 4, none, .mov (.t 8)⟩]
    [4])
  .ret))⟩

def RC.cmp_Compare_int : RFn := ⟨2, [.slot 4],
  (.seq (.region [⟨some 4, none, .mov (.c (.int .i64 0))⟩]
    [0, 1])
  (.seq (.region [⟨some 7, none, .mov (.t 0)⟩,
    ⟨some 8, none, .call F.cmp_isNaN_int [.t 7]⟩,
    ⟨some 5, none, .mov (.t 8)⟩]
    [0, 1, 5])
  (.seq (.region [⟨some 9, none, .mov (.t 1)⟩,
    ⟨some 10, none, .call F.cmp_isNaN_int [.t 9]⟩,
    ⟨some 6, none, .mov (.t 10)⟩]
    [0, 1, 5, 6])
  (.seq (.seq (.region [⟨some 11, none, .mov (.t 5)⟩]
    [0, 1, 6, 11])
  (.cond (.t 11)
    (.seq (.seq (.region [⟨some 12, none, .mov (.t 6)⟩]
      [12])
    (.cond (.t 12)
      (.seq (.region [⟨some 4, none, .mov (.c (.int .i64 0))⟩]
        [4])
      .ret)
      .skip))
    (.seq (.region [⟨some 4, none, .mov (.c (.int .i64 (-1)))⟩]
      [4])
    .ret))
    .skip))
  (.seq (.seq (.region [⟨some 13, none, .mov (.t 6)⟩]
    [0, 1, 13])
  (.cond (.t 13)
    (.seq (.region [⟨some 4, none, .mov (.c (.int .i64 1))⟩]
      [4])
    .ret)
    .skip))
  (.seq (.seq (.region [⟨some 14, none, .mov (.t 0)⟩,
    ⟨some 15, none, .mov (.t 1)⟩,
    ⟨some 16, none, .bin .lss (.t 14) (.t 15)⟩]
    [0, 1, 16])
  (.cond (.t 16)
    (.seq (.region [⟨some 4, none, .mov (.c (.int .i64 (-1)))⟩]
      [4])
    .ret)
    .skip))
  (.seq (.seq (.region [⟨some 17, none, .mov (.t 0)⟩,
    ⟨some 18, none, .mov (.t 1)⟩,
    ⟨some 19, none, .bin .gtr (.t 17) (.t 18)⟩]
    [19])
  (.cond (.t 19)
    (.seq (.region [⟨some 4, none, .mov (.c (.int .i64 1))⟩]
      [4])
    .ret)
    .skip))
  (.seq (.region [⟨some 4, none, .mov (.c (.int .i64 0))⟩]
    [4])
  .ret))))))))⟩

def RC.cmp_isNaN_int : RFn := ⟨1, [.slot 2],
  (.seq (.region [⟨some 2, none, .mov (.c (.bool false))⟩]
    [0])
  (.seq (.region [⟨some 3, none, .mov (.t 0)⟩,
    ⟨some 4, none, .mov (.t 0)⟩,
    ⟨some 5, none, .bin .neq (.t 3) (.t 4)⟩,
    ⟨some 2, none, .mov (.t 5)⟩]
    [2])
  .ret))⟩

def tab0 : List (Nat × FEnt) := [(F.law21_WeaveMost, .rc RC.law21_WeaveMost),
  (F.law21_WeavePlaces, .rc RC.law21_WeavePlaces),
  (F.law21_WeaveFits, .rc RC.law21_WeaveFits),
  (F.law16_Light, .rc RC.law16_Light),
  (F.law21_awake, .rc RC.law21_awake),
  (F.ref16_Right, .rc RC.ref16_Right),
  (F.weave_Most, .rc RC.weave_Most),
  (F.ref16_Cores, .rc RC.ref16_Cores),
  (F.ref21_Most, .rc RC.ref21_Most),
  (F.ref21_Gaps, .rc RC.ref21_Gaps),
  (F.ref21_Rooms, .rc RC.ref21_Rooms),
  (F.weave_Place, .rc RC.weave_Place),
  (F.ref16_SamePlace, .rc RC.ref16_SamePlace),
  (F.law21_small, .rc RC.law21_small),
  (F.ref21_Why, .rc RC.ref21_Why),
  (F.ref21_Place, .rc RC.ref21_Place),
  (F.ref16_Put, .rc RC.ref16_Put),
  (F.ref16_Free, .rc RC.ref16_Free),
  (F.law21_example, .rc RC.law21_example),
  (F.ref16_place, .rc RC.ref16_place),
  (F.ref16_apart, .rc RC.ref16_apart),
  (F.ref16_Splits, .rc RC.ref16_Splits),
  (F.ref16_Load, .rc RC.ref16_Load),
  (F.plan_Check, .rc RC.plan_Check),
  (F.weave_begin, .rc RC.weave_begin),
  (F.weave_loom_most, .rc RC.weave_loom_most),
  (F.ref16_Has, .rc RC.ref16_Has),
  (F.ref04_Has, .rc RC.ref04_Has),
  (F.ref04_With, .rc RC.ref04_With),
  (F.ref21_least, .rc RC.ref21_least),
  (F.ref04_All, .rc RC.ref04_All),
  (F.ref16_Windows, .rc RC.ref16_Windows),
  (F.ref16_Room, .rc RC.ref16_Room),
  (F.weave_why, .rc RC.weave_why),
  (F.weave_loom_give, .rc RC.weave_loom_give),
  (F.ref18_Why, .rc RC.ref18_Why),
  (F.ref18_First, .rc RC.ref18_First),
  (F.ref16_Drop, .rc RC.ref16_Drop),
  (F.ref08_Is, .rc RC.ref08_Is),
  (F.ref16_At, .rc RC.ref16_At),
  (F.ref04_Count, .rc RC.ref04_Count),
  (F.ref16_Wholes, .rc RC.ref16_Wholes),
  (F.plan_place, .rc RC.plan_place),
  (F.plan_apart, .rc RC.plan_apart),
  (F.plan_Splits, .rc RC.plan_Splits),
  (F.plan_Cores, .rc RC.plan_Cores),
  (F.plan_left, .rc RC.plan_left),
  (F.mask_All, .rc RC.mask_All),
  (F.plan_Windows, .rc RC.plan_Windows),
  (F.plan_Room, .rc RC.plan_Room),
  (F.weave_match_try, .rc RC.weave_match_try),
  (F.ref04_Frame, .rc RC.ref04_Frame),
  (F.order_Check, .rc RC.order_Check),
  (F.plan_Find, .rc RC.plan_Find),
  (F.ffd_First, .rc RC.ffd_First),
  (F.mask_Has, .rc RC.mask_Has),
  (F.ref08_Check, .rc RC.ref08_Check),
  (F.ref16_Find, .rc RC.ref16_Find),
  (F.ref04_Ticks, .rc RC.ref04_Ticks),
  (F.order_Kind, .rc RC.order_Kind),
  (F.plan_split, .rc RC.plan_split),
  (F.plan_pieces, .rc RC.plan_pieces),
  (F.plan_has, .rc RC.plan_has),
  (F.mask_Count, .rc RC.mask_Count),
  (F.plan_Wholes, .rc RC.plan_Wholes),
  (F.mask_frame, .rc RC.mask_frame),
  (F.weave_match_push, .rc RC.weave_match_push),
  (F.plan_find, .rc RC.plan_find),
  (F.slices_Clone_api_Piece_api_Piece, .rc RC.slices_Clone_api_Piece_api_Piece),
  (F.ffd_first, .rc RC.ffd_first),
  (F.math_bits_OnesCount64, .rc RC.math_bits_OnesCount64),
  (F.slices_BinarySearchFunc_api_Place_api_Place_int, .rc RC.slices_BinarySearchFunc_api_Place_api_Place_int),
  (F.plan_find_1, .rc RC.plan_find_1),
  (F.cmp_Compare_int, .rc RC.cmp_Compare_int),
  (F.cmp_isNaN_int, .rc RC.cmp_isNaN_int)]
/-- What each number stands for. -/
def R0 : Nat → Option FEnt := lookF tab0
/-- The same, with the examples as known. -/
def tab : List (Nat × FEnt) := (F.law21_awake, .ext X.ok) :: tab0
def R : Nat → Option FEnt := lookF tab
theorem R.law21_awake : R F.law21_awake = some (.ext X.ok) := by with_unfolding_all rfl
theorem R.law21_WeaveMost : R F.law21_WeaveMost = some (.rc RC.law21_WeaveMost) := by with_unfolding_all rfl
theorem R.law21_WeavePlaces : R F.law21_WeavePlaces = some (.rc RC.law21_WeavePlaces) := by with_unfolding_all rfl
theorem R.law21_WeaveFits : R F.law21_WeaveFits = some (.rc RC.law21_WeaveFits) := by with_unfolding_all rfl
theorem R.law16_Light : R F.law16_Light = some (.rc RC.law16_Light) := by with_unfolding_all rfl
theorem R.ref16_Right : R F.ref16_Right = some (.rc RC.ref16_Right) := by with_unfolding_all rfl
theorem R.weave_Most : R F.weave_Most = some (.rc RC.weave_Most) := by with_unfolding_all rfl
theorem R.ref16_Cores : R F.ref16_Cores = some (.rc RC.ref16_Cores) := by with_unfolding_all rfl
theorem R.ref21_Most : R F.ref21_Most = some (.rc RC.ref21_Most) := by with_unfolding_all rfl
theorem R.ref21_Gaps : R F.ref21_Gaps = some (.rc RC.ref21_Gaps) := by with_unfolding_all rfl
theorem R.ref21_Rooms : R F.ref21_Rooms = some (.rc RC.ref21_Rooms) := by with_unfolding_all rfl
theorem R.weave_Place : R F.weave_Place = some (.rc RC.weave_Place) := by with_unfolding_all rfl
theorem R.ref16_SamePlace : R F.ref16_SamePlace = some (.rc RC.ref16_SamePlace) := by with_unfolding_all rfl
theorem R.law21_small : R F.law21_small = some (.rc RC.law21_small) := by with_unfolding_all rfl
theorem R.ref21_Why : R F.ref21_Why = some (.rc RC.ref21_Why) := by with_unfolding_all rfl
theorem R.ref21_Place : R F.ref21_Place = some (.rc RC.ref21_Place) := by with_unfolding_all rfl
theorem R.ref16_Put : R F.ref16_Put = some (.rc RC.ref16_Put) := by with_unfolding_all rfl
theorem R.ref16_Free : R F.ref16_Free = some (.rc RC.ref16_Free) := by with_unfolding_all rfl
theorem R.law21_example : R F.law21_example = some (.rc RC.law21_example) := by with_unfolding_all rfl
theorem R.ref16_place : R F.ref16_place = some (.rc RC.ref16_place) := by with_unfolding_all rfl
theorem R.ref16_apart : R F.ref16_apart = some (.rc RC.ref16_apart) := by with_unfolding_all rfl
theorem R.ref16_Splits : R F.ref16_Splits = some (.rc RC.ref16_Splits) := by with_unfolding_all rfl
theorem R.ref16_Load : R F.ref16_Load = some (.rc RC.ref16_Load) := by with_unfolding_all rfl
theorem R.plan_Check : R F.plan_Check = some (.rc RC.plan_Check) := by with_unfolding_all rfl
theorem R.weave_begin : R F.weave_begin = some (.rc RC.weave_begin) := by with_unfolding_all rfl
theorem R.weave_loom_most : R F.weave_loom_most = some (.rc RC.weave_loom_most) := by with_unfolding_all rfl
theorem R.ref16_Has : R F.ref16_Has = some (.rc RC.ref16_Has) := by with_unfolding_all rfl
theorem R.ref04_Has : R F.ref04_Has = some (.rc RC.ref04_Has) := by with_unfolding_all rfl
theorem R.ref04_With : R F.ref04_With = some (.rc RC.ref04_With) := by with_unfolding_all rfl
theorem R.ref21_least : R F.ref21_least = some (.rc RC.ref21_least) := by with_unfolding_all rfl
theorem R.ref04_All : R F.ref04_All = some (.rc RC.ref04_All) := by with_unfolding_all rfl
theorem R.ref16_Windows : R F.ref16_Windows = some (.rc RC.ref16_Windows) := by with_unfolding_all rfl
theorem R.ref16_Room : R F.ref16_Room = some (.rc RC.ref16_Room) := by with_unfolding_all rfl
theorem R.weave_why : R F.weave_why = some (.rc RC.weave_why) := by with_unfolding_all rfl
theorem R.weave_loom_give : R F.weave_loom_give = some (.rc RC.weave_loom_give) := by with_unfolding_all rfl
theorem R.ref18_Why : R F.ref18_Why = some (.rc RC.ref18_Why) := by with_unfolding_all rfl
theorem R.ref18_First : R F.ref18_First = some (.rc RC.ref18_First) := by with_unfolding_all rfl
theorem R.ref16_Drop : R F.ref16_Drop = some (.rc RC.ref16_Drop) := by with_unfolding_all rfl
theorem R.ref08_Is : R F.ref08_Is = some (.rc RC.ref08_Is) := by with_unfolding_all rfl
theorem R.ref16_At : R F.ref16_At = some (.rc RC.ref16_At) := by with_unfolding_all rfl
theorem R.ref04_Count : R F.ref04_Count = some (.rc RC.ref04_Count) := by with_unfolding_all rfl
theorem R.ref16_Wholes : R F.ref16_Wholes = some (.rc RC.ref16_Wholes) := by with_unfolding_all rfl
theorem R.plan_place : R F.plan_place = some (.rc RC.plan_place) := by with_unfolding_all rfl
theorem R.plan_apart : R F.plan_apart = some (.rc RC.plan_apart) := by with_unfolding_all rfl
theorem R.plan_Splits : R F.plan_Splits = some (.rc RC.plan_Splits) := by with_unfolding_all rfl
theorem R.plan_Cores : R F.plan_Cores = some (.rc RC.plan_Cores) := by with_unfolding_all rfl
theorem R.plan_left : R F.plan_left = some (.rc RC.plan_left) := by with_unfolding_all rfl
theorem R.mask_All : R F.mask_All = some (.rc RC.mask_All) := by with_unfolding_all rfl
theorem R.plan_Windows : R F.plan_Windows = some (.rc RC.plan_Windows) := by with_unfolding_all rfl
theorem R.plan_Room : R F.plan_Room = some (.rc RC.plan_Room) := by with_unfolding_all rfl
theorem R.weave_match_try : R F.weave_match_try = some (.rc RC.weave_match_try) := by with_unfolding_all rfl
theorem R.ref04_Frame : R F.ref04_Frame = some (.rc RC.ref04_Frame) := by with_unfolding_all rfl
theorem R.order_Check : R F.order_Check = some (.rc RC.order_Check) := by with_unfolding_all rfl
theorem R.plan_Find : R F.plan_Find = some (.rc RC.plan_Find) := by with_unfolding_all rfl
theorem R.ffd_First : R F.ffd_First = some (.rc RC.ffd_First) := by with_unfolding_all rfl
theorem R.mask_Has : R F.mask_Has = some (.rc RC.mask_Has) := by with_unfolding_all rfl
theorem R.ref08_Check : R F.ref08_Check = some (.rc RC.ref08_Check) := by with_unfolding_all rfl
theorem R.ref16_Find : R F.ref16_Find = some (.rc RC.ref16_Find) := by with_unfolding_all rfl
theorem R.ref04_Ticks : R F.ref04_Ticks = some (.rc RC.ref04_Ticks) := by with_unfolding_all rfl
theorem R.order_Kind : R F.order_Kind = some (.rc RC.order_Kind) := by with_unfolding_all rfl
theorem R.plan_split : R F.plan_split = some (.rc RC.plan_split) := by with_unfolding_all rfl
theorem R.plan_pieces : R F.plan_pieces = some (.rc RC.plan_pieces) := by with_unfolding_all rfl
theorem R.plan_has : R F.plan_has = some (.rc RC.plan_has) := by with_unfolding_all rfl
theorem R.mask_Count : R F.mask_Count = some (.rc RC.mask_Count) := by with_unfolding_all rfl
theorem R.plan_Wholes : R F.plan_Wholes = some (.rc RC.plan_Wholes) := by with_unfolding_all rfl
theorem R.mask_frame : R F.mask_frame = some (.rc RC.mask_frame) := by with_unfolding_all rfl
theorem R.weave_match_push : R F.weave_match_push = some (.rc RC.weave_match_push) := by with_unfolding_all rfl
theorem R.plan_find : R F.plan_find = some (.rc RC.plan_find) := by with_unfolding_all rfl
theorem R.slices_Clone_api_Piece_api_Piece : R F.slices_Clone_api_Piece_api_Piece = some (.rc RC.slices_Clone_api_Piece_api_Piece) := by with_unfolding_all rfl
theorem R.ffd_first : R F.ffd_first = some (.rc RC.ffd_first) := by with_unfolding_all rfl
theorem R.math_bits_OnesCount64 : R F.math_bits_OnesCount64 = some (.rc RC.math_bits_OnesCount64) := by with_unfolding_all rfl
theorem R.slices_BinarySearchFunc_api_Place_api_Place_int : R F.slices_BinarySearchFunc_api_Place_api_Place_int = some (.rc RC.slices_BinarySearchFunc_api_Place_api_Place_int) := by with_unfolding_all rfl
theorem R.plan_find_1 : R F.plan_find_1 = some (.rc RC.plan_find_1) := by with_unfolding_all rfl
theorem R.cmp_Compare_int : R F.cmp_Compare_int = some (.rc RC.cmp_Compare_int) := by with_unfolding_all rfl
theorem R.cmp_isNaN_int : R F.cmp_isNaN_int = some (.rc RC.cmp_isNaN_int) := by with_unfolding_all rfl
end Go.Am
