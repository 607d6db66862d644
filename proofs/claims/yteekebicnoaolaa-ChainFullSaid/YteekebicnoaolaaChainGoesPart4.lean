/- Parts of the proofs of the statements of this seat: AmTabChain. No conditions. -/
import Derived.Test.YteekebicnoaolaaChainGoesPart3
set_option linter.unusedVariables false
set_option linter.unusedSimpArgs false

/- The functions of the layer chain in the form of the abstract machine. Printed by amgen.py. -/
set_option linter.unusedVariables false
namespace Go.Am

@[irreducible] def F.law19_ChainSplits : Nat := 3
@[irreducible] def F.law19_ChainGoes : Nat := 4
@[irreducible] def F.law19_ChainFull : Nat := 5
@[irreducible] def F.law16_Light : Nat := 6
@[irreducible] def F.law19_awake : Nat := 7
@[irreducible] def F.chain_Rooms : Nat := 8
@[irreducible] def F.ref16_Right : Nat := 9
@[irreducible] def F.ref03_Same : Nat := 10
@[irreducible] def F.ref19_Rooms : Nat := 11
@[irreducible] def F.chain_Split : Nat := 12
@[irreducible] def F.ref19_Why : Nat := 13
@[irreducible] def F.ref16_Same : Nat := 14
@[irreducible] def F.ref19_Split : Nat := 15
@[irreducible] def F.ref16_Find : Nat := 16
@[irreducible] def F.ref16_SamePlace : Nat := 17
@[irreducible] def F.ref16_Splits : Nat := 18
@[irreducible] def F.ref16_Cores : Nat := 19
@[irreducible] def F.ref16_Room : Nat := 20
@[irreducible] def F.plan_Check : Nat := 21
@[irreducible] def F.plan_Cores : Nat := 22
@[irreducible] def F.plan_Room : Nat := 23
@[irreducible] def F.ref16_place : Nat := 24
@[irreducible] def F.ref16_apart : Nat := 25
@[irreducible] def F.ref16_Load : Nat := 26
@[irreducible] def F.chain_why : Nat := 27
@[irreducible] def F.plan_Drop : Nat := 28
@[irreducible] def F.plan_Put : Nat := 29
@[irreducible] def F.chain_chain_place : Nat := 30
@[irreducible] def F.ref18_Why : Nat := 31
@[irreducible] def F.ref08_Total : Nat := 32
@[irreducible] def F.ref16_Free : Nat := 33
@[irreducible] def F.ref16_Put : Nat := 34
@[irreducible] def F.ref04_With : Nat := 35
@[irreducible] def F.ref16_Has : Nat := 36
@[irreducible] def F.plan_place : Nat := 37
@[irreducible] def F.plan_apart : Nat := 38
@[irreducible] def F.plan_Splits : Nat := 39
@[irreducible] def F.plan_left : Nat := 40
@[irreducible] def F.plan_has : Nat := 41
@[irreducible] def F.ref08_Is : Nat := 42
@[irreducible] def F.ref16_At : Nat := 43
@[irreducible] def F.ref04_Count : Nat := 44
@[irreducible] def F.ref16_Windows : Nat := 45
@[irreducible] def F.ref16_Wholes : Nat := 46
@[irreducible] def F.order_Check : Nat := 47
@[irreducible] def F.plan_Find : Nat := 48
@[irreducible] def F.order_Total : Nat := 49
@[irreducible] def F.plan_Free : Nat := 50
@[irreducible] def F.plan_clone : Nat := 51
@[irreducible] def F.plan_find : Nat := 52
@[irreducible] def F.slices_Delete_api_Place_api_Place : Nat := 53
@[irreducible] def F.slices_Clone_api_Piece_api_Piece : Nat := 54
@[irreducible] def F.slices_Insert_api_Place_api_Place : Nat := 55
@[irreducible] def F.chain_chain_on : Nat := 56
@[irreducible] def F.chain_chain_take : Nat := 57
@[irreducible] def F.ref08_Check : Nat := 58
@[irreducible] def F.ref02_Add : Nat := 59
@[irreducible] def F.ref16_Drop : Nat := 60
@[irreducible] def F.ref04_Has : Nat := 61
@[irreducible] def F.order_Kind : Nat := 62
@[irreducible] def F.plan_split : Nat := 63
@[irreducible] def F.plan_pieces : Nat := 64
@[irreducible] def F.mask_Count : Nat := 65
@[irreducible] def F.plan_Windows : Nat := 66
@[irreducible] def F.plan_Wholes : Nat := 67
@[irreducible] def F.ref04_Ticks : Nat := 68
@[irreducible] def F.fixq_Add : Nat := 69
@[irreducible] def F.slices_BinarySearchFunc_api_Place_api_Place_int : Nat := 70
@[irreducible] def F.plan_find_1 : Nat := 71
@[irreducible] def F.cmp_Compare_int : Nat := 72
@[irreducible] def F.mask_Round : Nat := 75
@[irreducible] def F.mask_All : Nat := 76
@[irreducible] def F.math_bits_OnesCount64 : Nat := 77
@[irreducible] def F.cmp_isNaN_int : Nat := 78
@[irreducible] def F.mask_frame : Nat := 80
@[irreducible] def F.mask_Turn : Nat := 81
@[irreducible] def F.mask_place : Nat := 83

def RC.law19_ChainSplits : RFn := ⟨2, [.slot 4],
  (.seq (.region [⟨some 2, none, .box (.t 0)⟩,
    ⟨some 4, none, .mov (.c (.bool false))⟩]
    [1, 2])
  (.seq (.region [⟨some 9, none, .mov (.t 1)⟩,
    ⟨some 10, none, .mov (.t 1)⟩,
    ⟨some 11, none, .len (.t 10)⟩,
    ⟨some 12, none, .minmax false [.t 11, .c (.int .i64 60)]⟩,
    ⟨some 13, none, .sub 2 (.t 9) none (some (.t 12)) none⟩,
    ⟨some 1, none, .mov (.t 13)⟩]
    [1, 2])
  (.seq (.seq (.region [⟨some 14, none, .load true 3 (.t 2)⟩,
    ⟨some 15, none, .call F.law16_Light [.t 14]⟩,
    ⟨some 16, none, .un .not (.t 15)⟩]
    [1, 2, 16])
  (.cond (.t 16)
    (.seq (.region [⟨some 17, none, .call F.law19_awake []⟩,
      ⟨some 4, none, .mov (.t 17)⟩]
      [4])
    .ret)
    .skip))
  (.seq (.region [⟨some 18, none, .load true 3 (.t 2)⟩,
    ⟨some 19, none, .call F.chain_Rooms [.t 18]⟩,
    ⟨some 5, none, .mov (.t 19)⟩]
    [1, 2, 5])
  (.seq (.seq (.region [⟨some 20, none, .load true 3 (.t 2)⟩,
    ⟨some 21, none, .call F.ref16_Right [.t 20]⟩,
    ⟨some 22, none, .mov (.t 21)⟩,
    ⟨some 23, some (22, true), .mov (.t 5)⟩,
    ⟨some 24, some (22, true), .load true 3 (.t 2)⟩,
    ⟨some 25, some (22, true), .call F.ref19_Rooms [.t 24]⟩,
    ⟨some 26, some (22, true), .call F.ref03_Same [.t 23, .t 25]⟩,
    ⟨some 27, some (22, true), .un .not (.t 26)⟩,
    ⟨some 28, none, .pick (.t 22) (.t 27) (.c (.bool false))⟩,
    ⟨some 29, none, .mov (.t 28)⟩,
    ⟨some 30, some (29, false), .load true 3 (.t 2)⟩,
    ⟨some 31, some (29, false), .call F.ref16_Right [.t 30]⟩,
    ⟨some 32, some (29, false), .un .not (.t 31)⟩,
    ⟨some 33, some (29, false), .mov (.t 32)⟩,
    ⟨some 34, some (33, true), .mov (.t 5)⟩,
    ⟨some 35, some (33, true), .len (.t 34)⟩,
    ⟨some 36, some (33, true), .bin .neq (.t 35) (.c (.int .i64 0))⟩,
    ⟨some 37, some (29, false), .pick (.t 33) (.t 36) (.c (.bool false))⟩,
    ⟨some 38, none, .pick (.t 29) (.c (.bool true)) (.t 37)⟩]
    [1, 2, 38])
  (.cond (.t 38)
    (.seq (.region [⟨some 4, none, .mov (.c (.bool false))⟩]
      [4])
    .ret)
    .skip))
  (.seq (.region [⟨some 40, none, .load true 3 (.t 2)⟩,
    ⟨some 41, none, .mov (.t 1)⟩,
    ⟨some 42, none, .call F.chain_Split [.t 40, .t 41]⟩,
    ⟨some 39, none, .mov (.t 42)⟩,
    ⟨some 43, none, .ext 0 (.t 39)⟩,
    ⟨some 44, none, .ext 1 (.t 39)⟩,
    ⟨some 6, none, .alloc [(.int .i64 0), (u32 0#32), (.slice none 0 0)]⟩,
    ⟨none, none, .store 3 (.t 6) (.t 43)⟩,
    ⟨some 7, none, .mov (.t 44)⟩]
    [1, 2, 6, 7])
  (.seq (.seq (.region [⟨some 45, none, .load true 3 (.t 2)⟩,
    ⟨some 46, none, .mov (.t 1)⟩,
    ⟨some 47, none, .call F.ref19_Why [.t 45, .t 46]⟩,
    ⟨some 8, none, .mov (.t 47)⟩]
    [1, 2, 6, 7, 8])
  (.seq (.region [⟨some 48, none, .mov (.t 8)⟩,
    ⟨some 49, none, .bin .neq (.t 48) (.c (.int .i64 0))⟩]
    [1, 2, 6, 7, 8, 49])
  (.cond (.t 49)
    (.seq (.region [⟨some 50, none, .mov (.t 7)⟩,
      ⟨some 51, none, .mov (.t 8)⟩,
      ⟨some 52, none, .bin .eql (.t 50) (.t 51)⟩,
      ⟨some 53, none, .mov (.t 52)⟩,
      ⟨some 54, some (53, true), .load true 3 (.t 6)⟩,
      ⟨some 55, some (53, true), .build [(.int .i64 0), (u32 0#32), (.slice none 0 0)] []⟩,
      ⟨some 56, some (53, true), .call F.ref16_Same [.t 54, .t 55]⟩,
      ⟨some 57, none, .pick (.t 53) (.t 56) (.c (.bool false))⟩,
      ⟨some 58, none, .mov (.t 57)⟩,
      ⟨some 59, some (58, true), .call F.law19_awake []⟩,
      ⟨some 60, none, .pick (.t 58) (.t 59) (.c (.bool false))⟩,
      ⟨some 4, none, .mov (.t 60)⟩]
      [4])
    .ret)
    .skip)))
  (.seq (.drawn [⟨some 61, none, .mov (.t 7)⟩,
    ⟨some 62, none, .bin .eql (.t 61) (.c (.int .i64 0))⟩,
    ⟨some 63, none, .mov (.t 62)⟩,
    ⟨some 64, some (63, true), .load true 3 (.t 6)⟩,
    ⟨some 65, some (63, true), .load true 3 (.t 2)⟩,
    ⟨some 66, some (63, true), .mov (.t 1)⟩,
    ⟨some 67, some (63, true), .call F.ref19_Split [.t 65, .t 66]⟩,
    ⟨some 68, some (63, true), .call F.ref16_Same [.t 64, .t 67]⟩,
    ⟨some 69, none, .pick (.t 63) (.t 68) (.c (.bool false))⟩,
    ⟨some 70, none, .mov (.t 69)⟩,
    ⟨some 71, some (70, true), .call F.law19_awake []⟩,
    ⟨some 72, none, .pick (.t 70) (.t 71) (.c (.bool false))⟩,
    ⟨some 4, none, .mov (.t 72)⟩]
    [[], [0], [1], [2], [2], [2], [4, 5, 2, 2], [3, 6, 6, 2], [2, 7], [8, 7], [9, 9], [9, 10], [11, 10, 0, 1, 2, 3, 4, 5, 6, 7, 8, 9, 10, 11]]
    [(0, []), (1, []), (2, []), (5, []), (3, []), (4, []), (6, [6]), (7, []), (8, []), (9, []), (10, []), (11, []), (12, [])]
    [[], [0], [0, 1], [0, 1, 2], [0, 1, 2], [0, 1, 2], [0, 1, 2, 4, 5], [0, 1, 2, 3, 4, 5, 6], [0, 1, 2, 3, 4, 5, 6, 7], [0, 1, 2, 3, 4, 5, 6, 7, 8], [0, 1, 2, 3, 4, 5, 6, 7, 8, 9], [0, 1, 2, 3, 4, 5, 6, 7, 8, 9, 10], [0, 1, 2, 3, 4, 5, 6, 7, 8, 9, 10, 11]]
    [4])
  .ret))))))))⟩

def RB.law19_ChainGoes_1 : RCode :=
  (.seq (.seq (.region [⟨some 80, none, .mov (.t 10)⟩,
    ⟨some 81, none, .fieldAddr 2 (.t 2)⟩,
    ⟨some 82, none, .load false 1 (.t 81)⟩,
    ⟨some 83, none, .len (.t 82)⟩,
    ⟨some 84, none, .bin .lss (.t 80) (.t 83)⟩]
    [2, 5, 10, 84])
  (.cond (.t 84)
    .skip
    (.exit 2)))
  (.seq (.block 3
    (.seq (.drawn [⟨some 88, none, .load true 3 (.t 5)⟩,
      ⟨some 89, none, .fieldAddr 2 (.t 2)⟩,
      ⟨some 90, none, .load false 1 (.t 89)⟩,
      ⟨some 91, none, .mov (.t 10)⟩,
      ⟨some 92, none, .idxS 4 (.t 90) (.t 91)⟩,
      ⟨some 93, none, .fieldAddr 0 (.t 92)⟩,
      ⟨some 94, none, .load false 1 (.t 93)⟩,
      ⟨some 95, none, .call F.ref16_Find [.t 88, .t 94]⟩,
      ⟨some 87, none, .mov (.t 95)⟩,
      ⟨some 96, none, .ext 0 (.t 87)⟩,
      ⟨some 97, none, .ext 1 (.t 87)⟩,
      ⟨some 11, none, .alloc [(.int .i64 0), (.int .i64 0), (.int .i64 0), (.slice none 0 0)]⟩,
      ⟨none, none, .store 4 (.t 11) (.t 96)⟩,
      ⟨some 12, none, .mov (.t 97)⟩]
      [[], [], [1], [], [2, 3], [4], [5], [0, 6], [7], [8], [8], [], [11, 9, 7, 0, 1, 2, 3, 4, 5, 6, 7, 8, 9, 11], [10, 12, 0, 1, 2, 3, 4, 5, 6, 7, 8, 9, 10, 11, 12]]
      [(1, []), (3, []), (0, []), (2, []), (4, []), (5, []), (6, []), (7, []), (8, []), (9, []), (10, []), (11, []), (12, []), (13, [])]
      [[], [], [1], [], [1, 2, 3], [1, 2, 3, 4], [1, 2, 3, 4, 5], [0, 1, 2, 3, 4, 5, 6], [0, 1, 2, 3, 4, 5, 6, 7], [0, 1, 2, 3, 4, 5, 6, 7, 8], [0, 1, 2, 3, 4, 5, 6, 7, 8], [], [0, 1, 2, 3, 4, 5, 6, 7, 8, 9, 11], [0, 1, 2, 3, 4, 5, 6, 7, 8, 9, 10, 11, 12]]
      [2, 5, 10, 11, 12])
    (.seq (.drawn [⟨some 98, none, .mov (.t 12)⟩,
      ⟨some 99, none, .un .not (.t 98)⟩,
      ⟨some 100, none, .mov (.t 99)⟩,
      ⟨some 101, some (100, false), .load true 4 (.t 11)⟩,
      ⟨some 102, some (100, false), .fieldAddr 2 (.t 2)⟩,
      ⟨some 103, some (100, false), .load false 1 (.t 102)⟩,
      ⟨some 104, some (100, false), .mov (.t 10)⟩,
      ⟨some 105, some (100, false), .idxS 4 (.t 103) (.t 104)⟩,
      ⟨some 106, some (100, false), .load true 4 (.t 105)⟩,
      ⟨some 107, some (100, false), .call F.ref16_SamePlace [.t 101, .t 106]⟩,
      ⟨some 108, some (100, false), .un .not (.t 107)⟩,
      ⟨some 109, none, .pick (.t 100) (.c (.bool true)) (.t 108)⟩]
      [[], [0], [1], [2], [2], [4, 2], [2], [5, 6, 2], [7, 2], [3, 8, 2, 2], [9, 2], [2, 10]]
      [(0, []), (1, []), (2, []), (4, []), (6, []), (3, []), (5, []), (7, []), (8, []), (9, []), (10, []), (11, [])]
      [[], [0], [0, 1], [0, 1, 2], [0, 1, 2], [0, 1, 2, 4], [0, 1, 2], [0, 1, 2, 4, 5, 6], [0, 1, 2, 4, 5, 6, 7], [0, 1, 2, 3, 4, 5, 6, 7, 8], [0, 1, 2, 3, 4, 5, 6, 7, 8, 9], [0, 1, 2, 3, 4, 5, 6, 7, 8, 9, 10]]
      [2, 5, 10, 109])
    (.cond (.t 109)
      (.seq (.region [⟨some 4, none, .mov (.c (.bool false))⟩]
        [4])
      .ret)
      .skip))) [2, 5, 10])
  (.region [⟨some 85, none, .mov (.t 10)⟩,
    ⟨some 86, none, .bin .add (.t 85) (.c (.int .i64 1))⟩,
    ⟨some 10, none, .mov (.t 86)⟩]
    [2, 5, 10])))
def RB.law19_ChainGoes_2 : RCode :=
  (.seq (.seq (.region [⟨some 52, none, .mov (.t 7)⟩,
    ⟨some 53, none, .mov (.t 1)⟩,
    ⟨some 54, none, .len (.t 53)⟩,
    ⟨some 55, none, .bin .lss (.t 52) (.t 54)⟩]
    [1, 2, 5, 7, 55])
  (.cond (.t 55)
    .skip
    (.exit 0)))
  (.seq (.block 1
    (.seq (.drawn [⟨some 59, none, .load true 3 (.t 5)⟩,
      ⟨some 60, none, .mov (.t 1)⟩,
      ⟨some 61, none, .mov (.t 7)⟩,
      ⟨some 62, none, .idxS 2 (.t 60) (.t 61)⟩,
      ⟨some 63, none, .fieldAddr 0 (.t 62)⟩,
      ⟨some 64, none, .load false 1 (.t 63)⟩,
      ⟨some 65, none, .call F.ref16_Find [.t 59, .t 64]⟩,
      ⟨some 58, none, .mov (.t 65)⟩,
      ⟨some 66, none, .ext 0 (.t 58)⟩,
      ⟨some 67, none, .ext 1 (.t 58)⟩,
      ⟨some 8, none, .alloc [(.int .i64 0), (.int .i64 0), (.int .i64 0), (.slice none 0 0)]⟩,
      ⟨none, none, .store 4 (.t 8) (.t 66)⟩,
      ⟨some 9, none, .mov (.t 67)⟩]
      [[], [], [], [1, 2], [3], [4], [0, 5], [6], [7], [7], [], [10, 8, 6, 0, 1, 2, 3, 4, 5, 6, 7, 8, 10], [9, 11, 0, 1, 2, 3, 4, 5, 6, 7, 8, 9, 10, 11]]
      [(1, []), (2, []), (3, []), (4, []), (0, []), (5, []), (6, []), (7, []), (8, []), (9, []), (10, []), (11, []), (12, [])]
      [[], [], [], [1, 2], [1, 2, 3], [1, 2, 3, 4], [0, 1, 2, 3, 4, 5], [0, 1, 2, 3, 4, 5, 6], [0, 1, 2, 3, 4, 5, 6, 7], [0, 1, 2, 3, 4, 5, 6, 7], [], [0, 1, 2, 3, 4, 5, 6, 7, 8, 10], [0, 1, 2, 3, 4, 5, 6, 7, 8, 9, 10, 11]]
      [1, 2, 5, 7, 8, 9])
    (.seq (.drawn [⟨some 68, none, .mov (.t 9)⟩,
      ⟨some 69, none, .un .not (.t 68)⟩,
      ⟨some 70, none, .mov (.t 69)⟩,
      ⟨some 71, some (70, false), .fieldAddr 1 (.t 8)⟩,
      ⟨some 72, some (70, false), .load false 1 (.t 71)⟩,
      ⟨some 73, some (70, false), .mov (.t 1)⟩,
      ⟨some 74, some (70, false), .mov (.t 7)⟩,
      ⟨some 75, some (70, false), .idxS 2 (.t 73) (.t 74)⟩,
      ⟨some 76, some (70, false), .fieldAddr 1 (.t 75)⟩,
      ⟨some 77, some (70, false), .load false 1 (.t 76)⟩,
      ⟨some 78, some (70, false), .bin .neq (.t 72) (.t 77)⟩,
      ⟨some 79, none, .pick (.t 70) (.c (.bool true)) (.t 78)⟩]
      [[], [0], [1], [2], [3, 2], [2], [2], [5, 6, 2], [7, 2], [8, 2], [4, 9, 2], [2, 10]]
      [(0, []), (1, []), (2, []), (3, []), (5, []), (6, []), (7, []), (8, []), (4, []), (9, []), (10, []), (11, [])]
      [[], [0], [0, 1], [0, 1, 2], [0, 1, 2, 3], [0, 1, 2], [0, 1, 2], [0, 1, 2, 5, 6], [0, 1, 2, 5, 6, 7], [0, 1, 2, 5, 6, 7, 8], [0, 1, 2, 3, 4, 5, 6, 7, 8, 9], [0, 1, 2, 3, 4, 5, 6, 7, 8, 9, 10]]
      [1, 2, 5, 7, 79])
    (.cond (.t 79)
      (.seq (.region [⟨some 4, none, .mov (.c (.bool false))⟩]
        [4])
      .ret)
      .skip))) [1, 2, 5, 7])
  (.region [⟨some 56, none, .mov (.t 7)⟩,
    ⟨some 57, none, .bin .add (.t 56) (.c (.int .i64 1))⟩,
    ⟨some 7, none, .mov (.t 57)⟩]
    [1, 2, 5, 7])))
def RC.law19_ChainGoes : RFn := ⟨2, [.slot 4],
  (.seq (.region [⟨some 2, none, .box (.t 0)⟩,
    ⟨some 4, none, .mov (.c (.bool false))⟩]
    [1, 2])
  (.seq (.region [⟨some 13, none, .mov (.t 1)⟩,
    ⟨some 14, none, .mov (.t 1)⟩,
    ⟨some 15, none, .len (.t 14)⟩,
    ⟨some 16, none, .minmax false [.t 15, .c (.int .i64 60)]⟩,
    ⟨some 17, none, .sub 2 (.t 13) none (some (.t 16)) none⟩,
    ⟨some 1, none, .mov (.t 17)⟩]
    [1, 2])
  (.seq (.seq (.region [⟨some 18, none, .load true 3 (.t 2)⟩,
    ⟨some 19, none, .call F.law16_Light [.t 18]⟩,
    ⟨some 20, none, .un .not (.t 19)⟩]
    [1, 2, 20])
  (.cond (.t 20)
    (.seq (.region [⟨some 21, none, .call F.law19_awake []⟩,
      ⟨some 4, none, .mov (.t 21)⟩]
      [4])
    .ret)
    .skip))
  (.seq (.region [⟨some 23, none, .load true 3 (.t 2)⟩,
    ⟨some 24, none, .mov (.t 1)⟩,
    ⟨some 25, none, .call F.chain_Split [.t 23, .t 24]⟩,
    ⟨some 22, none, .mov (.t 25)⟩,
    ⟨some 26, none, .ext 0 (.t 22)⟩,
    ⟨some 27, none, .ext 1 (.t 22)⟩,
    ⟨some 5, none, .alloc [(.int .i64 0), (u32 0#32), (.slice none 0 0)]⟩,
    ⟨none, none, .store 3 (.t 5) (.t 26)⟩,
    ⟨some 6, none, .mov (.t 27)⟩]
    [1, 2, 5, 6])
  (.seq (.seq (.region [⟨some 28, none, .mov (.t 6)⟩,
    ⟨some 29, none, .bin .neq (.t 28) (.c (.int .i64 0))⟩]
    [1, 2, 5, 29])
  (.cond (.t 29)
    (.seq (.region [⟨some 30, none, .load true 3 (.t 2)⟩,
      ⟨some 31, none, .mov (.t 1)⟩,
      ⟨some 32, none, .call F.ref19_Why [.t 30, .t 31]⟩,
      ⟨some 33, none, .bin .neq (.t 32) (.c (.int .i64 0))⟩,
      ⟨some 34, none, .mov (.t 33)⟩,
      ⟨some 35, some (34, true), .call F.law19_awake []⟩,
      ⟨some 36, none, .pick (.t 34) (.t 35) (.c (.bool false))⟩,
      ⟨some 4, none, .mov (.t 36)⟩]
      [4])
    .ret)
    .skip))
  (.seq (.seq (.region [⟨some 37, none, .load true 3 (.t 5)⟩,
    ⟨some 38, none, .call F.ref16_Right [.t 37]⟩,
    ⟨some 39, none, .un .not (.t 38)⟩,
    ⟨some 40, none, .mov (.t 39)⟩,
    ⟨some 41, some (40, false), .fieldAddr 2 (.t 5)⟩,
    ⟨some 42, some (40, false), .load false 1 (.t 41)⟩,
    ⟨some 43, some (40, false), .len (.t 42)⟩,
    ⟨some 44, some (40, false), .fieldAddr 2 (.t 2)⟩,
    ⟨some 45, some (40, false), .load false 1 (.t 44)⟩,
    ⟨some 46, some (40, false), .len (.t 45)⟩,
    ⟨some 47, some (40, false), .mov (.t 1)⟩,
    ⟨some 48, some (40, false), .len (.t 47)⟩,
    ⟨some 49, some (40, false), .bin .add (.t 46) (.t 48)⟩,
    ⟨some 50, some (40, false), .bin .neq (.t 43) (.t 49)⟩,
    ⟨some 51, none, .pick (.t 40) (.c (.bool true)) (.t 50)⟩]
    [1, 2, 5, 51])
  (.cond (.t 51)
    (.seq (.region [⟨some 4, none, .mov (.c (.bool false))⟩]
      [4])
    .ret)
    .skip))
  (.seq (.seq (.region [⟨some 7, none, .mov (.c (.int .i64 0))⟩]
    [1, 2, 5, 7])
  (.block 0
    (.loop [1, 2, 5, 7] RB.law19_ChainGoes_2) [2, 5]))
  (.seq (.seq (.region [⟨some 10, none, .mov (.c (.int .i64 0))⟩]
    [2, 5, 10])
  (.block 2
    (.loop [2, 5, 10] RB.law19_ChainGoes_1) [5]))
  (.seq (.drawn [⟨some 110, none, .load true 3 (.t 5)⟩,
    ⟨some 111, none, .call F.ref16_Splits [.t 110]⟩,
    ⟨some 112, none, .load true 3 (.t 5)⟩,
    ⟨some 113, none, .call F.ref16_Cores [.t 112]⟩,
    ⟨some 114, none, .len (.t 113)⟩,
    ⟨some 115, none, .bin .lss (.t 111) (.t 114)⟩,
    ⟨some 116, none, .mov (.t 115)⟩,
    ⟨some 117, some (116, true), .call F.law19_awake []⟩,
    ⟨some 118, none, .pick (.t 116) (.t 117) (.c (.bool false))⟩,
    ⟨some 4, none, .mov (.t 118)⟩]
    [[], [0], [], [2, 1], [3], [1, 4], [5, 3], [6, 6], [6, 7], [8, 7, 0, 1, 2, 3, 4, 5, 6, 7, 8]]
    [(0, []), (2, []), (1, [5]), (3, []), (4, []), (5, []), (6, []), (7, []), (8, []), (9, [])]
    [[], [0], [], [0, 1, 2], [0, 1, 2, 3], [0, 1, 2, 3, 4], [0, 1, 2, 3, 4, 5], [0, 1, 2, 3, 4, 5, 6], [0, 1, 2, 3, 4, 5, 6, 7], [0, 1, 2, 3, 4, 5, 6, 7, 8]]
    [4])
  .ret)))))))))⟩

def RB.law19_ChainFull_1 : RCode :=
  (.seq (.seq (.region [⟨some 47, none, .mov (.t 9)⟩,
    ⟨some 48, none, .bin .add (.t 47) (.c (.int .i64 1))⟩,
    ⟨some 49, none, .mov (.t 8)⟩,
    ⟨some 50, none, .len (.t 49)⟩,
    ⟨some 51, none, .bin .lss (.t 48) (.t 50)⟩]
    [5, 7, 8, 9, 51])
  (.cond (.t 51)
    .skip
    (.exit 2)))
  (.seq (.block 3
    (.seq (.drawn [⟨some 54, none, .load true 3 (.t 5)⟩,
      ⟨some 55, none, .mov (.t 8)⟩,
      ⟨some 56, none, .mov (.t 9)⟩,
      ⟨some 57, none, .idxS 2 (.t 55) (.t 56)⟩,
      ⟨some 58, none, .fieldAddr 0 (.t 57)⟩,
      ⟨some 59, none, .load false 1 (.t 58)⟩,
      ⟨some 60, none, .call F.ref16_Room [.t 54, .t 59]⟩,
      ⟨some 61, none, .bin .neq (.t 60) (.c (.int .i64 0))⟩]
      [[], [], [], [1, 2], [3], [4], [0, 5], [6]]
      [(1, []), (2, []), (3, []), (4, []), (0, []), (5, []), (6, []), (7, [])]
      [[], [], [], [1, 2], [1, 2, 3], [1, 2, 3, 4], [0, 1, 2, 3, 4, 5], [0, 1, 2, 3, 4, 5, 6]]
      [5, 7, 8, 9, 61])
    (.cond (.t 61)
      (.seq (.region [⟨some 4, none, .mov (.c (.bool false))⟩]
        [4])
      .ret)
      .skip)) [5, 7, 8, 9])
  (.region [⟨some 52, none, .mov (.t 9)⟩,
    ⟨some 53, none, .bin .add (.t 52) (.c (.int .i64 1))⟩,
    ⟨some 9, none, .mov (.t 53)⟩]
    [5, 7, 8, 9])))
def RB.law19_ChainFull_2 : RCode :=
  (.seq (.seq (.region [⟨some 34, none, .mov (.t 7)⟩,
    ⟨some 35, none, .fieldAddr 2 (.t 5)⟩,
    ⟨some 36, none, .load false 1 (.t 35)⟩,
    ⟨some 37, none, .len (.t 36)⟩,
    ⟨some 38, none, .bin .lss (.t 34) (.t 37)⟩]
    [5, 7, 38])
  (.cond (.t 38)
    .skip
    (.exit 0)))
  (.seq (.block 1
    (.seq (.region [⟨some 41, none, .fieldAddr 2 (.t 5)⟩,
      ⟨some 42, none, .load false 1 (.t 41)⟩,
      ⟨some 43, none, .mov (.t 7)⟩,
      ⟨some 44, none, .idxS 4 (.t 42) (.t 43)⟩,
      ⟨some 45, none, .fieldAddr 3 (.t 44)⟩,
      ⟨some 46, none, .load false 1 (.t 45)⟩,
      ⟨some 8, none, .mov (.t 46)⟩]
      [5, 7, 8])
    (.seq (.region [⟨some 9, none, .mov (.c (.int .i64 0))⟩]
      [5, 7, 8, 9])
    (.block 2
      (.loop [5, 7, 8, 9] RB.law19_ChainFull_1) [5, 7]))) [5, 7])
  (.region [⟨some 39, none, .mov (.t 7)⟩,
    ⟨some 40, none, .bin .add (.t 39) (.c (.int .i64 1))⟩,
    ⟨some 7, none, .mov (.t 40)⟩]
    [5, 7])))
def RC.law19_ChainFull : RFn := ⟨2, [.slot 4],
  (.seq (.region [⟨some 2, none, .box (.t 0)⟩,
    ⟨some 4, none, .mov (.c (.bool false))⟩]
    [1, 2])
  (.seq (.region [⟨some 10, none, .mov (.t 1)⟩,
    ⟨some 11, none, .mov (.t 1)⟩,
    ⟨some 12, none, .len (.t 11)⟩,
    ⟨some 13, none, .minmax false [.t 12, .c (.int .i64 60)]⟩,
    ⟨some 14, none, .sub 2 (.t 10) none (some (.t 13)) none⟩,
    ⟨some 1, none, .mov (.t 14)⟩]
    [1, 2])
  (.seq (.seq (.region [⟨some 15, none, .load true 3 (.t 2)⟩,
    ⟨some 16, none, .call F.law16_Light [.t 15]⟩,
    ⟨some 17, none, .un .not (.t 16)⟩]
    [1, 2, 17])
  (.cond (.t 17)
    (.seq (.region [⟨some 18, none, .call F.law19_awake []⟩,
      ⟨some 4, none, .mov (.t 18)⟩]
      [4])
    .ret)
    .skip))
  (.seq (.region [⟨some 20, none, .load true 3 (.t 2)⟩,
    ⟨some 21, none, .mov (.t 1)⟩,
    ⟨some 22, none, .call F.chain_Split [.t 20, .t 21]⟩,
    ⟨some 19, none, .mov (.t 22)⟩,
    ⟨some 23, none, .ext 0 (.t 19)⟩,
    ⟨some 24, none, .ext 1 (.t 19)⟩,
    ⟨some 5, none, .alloc [(.int .i64 0), (u32 0#32), (.slice none 0 0)]⟩,
    ⟨none, none, .store 3 (.t 5) (.t 23)⟩,
    ⟨some 6, none, .mov (.t 24)⟩]
    [1, 2, 5, 6])
  (.seq (.seq (.region [⟨some 25, none, .mov (.t 6)⟩,
    ⟨some 26, none, .bin .neq (.t 25) (.c (.int .i64 0))⟩]
    [1, 2, 5, 26])
  (.cond (.t 26)
    (.seq (.region [⟨some 27, none, .load true 3 (.t 2)⟩,
      ⟨some 28, none, .mov (.t 1)⟩,
      ⟨some 29, none, .call F.ref19_Why [.t 27, .t 28]⟩,
      ⟨some 30, none, .bin .neq (.t 29) (.c (.int .i64 0))⟩,
      ⟨some 31, none, .mov (.t 30)⟩,
      ⟨some 32, some (31, true), .call F.law19_awake []⟩,
      ⟨some 33, none, .pick (.t 31) (.t 32) (.c (.bool false))⟩,
      ⟨some 4, none, .mov (.t 33)⟩]
      [4])
    .ret)
    .skip))
  (.seq (.seq (.region [⟨some 7, none, .mov (.c (.int .i64 0))⟩]
    [5, 7])
  (.block 0
    (.loop [5, 7] RB.law19_ChainFull_2) []))
  (.seq (.region [⟨some 62, none, .call F.law19_awake []⟩,
    ⟨some 4, none, .mov (.t 62)⟩]
    [4])
  .ret)))))))⟩

def RB.law16_Light_1 : RCode :=
  (.seq (.seq (.region [⟨some 4, none, .mov (.t 3)⟩,
    ⟨some 5, none, .fieldAddr 2 (.t 1)⟩,
    ⟨some 6, none, .load false 1 (.t 5)⟩,
    ⟨some 7, none, .len (.t 6)⟩,
    ⟨some 8, none, .bin .lss (.t 4) (.t 7)⟩,
    ⟨some 9, none, .mov (.t 8)⟩,
    ⟨some 10, some (9, true), .mov (.t 3)⟩,
    ⟨some 11, some (9, true), .bin .lss (.t 10) (.c (.int .i64 300))⟩,
    ⟨some 12, none, .pick (.t 9) (.t 11) (.c (.bool false))⟩]
    [1, 3, 12])
  (.cond (.t 12)
    .skip
    (.exit 0)))
  (.seq (.block 1
    (.seq (.region [⟨some 15, none, .fieldAddr 2 (.t 1)⟩,
      ⟨some 16, none, .load false 1 (.t 15)⟩,
      ⟨some 17, none, .mov (.t 3)⟩,
      ⟨some 18, none, .idxS 4 (.t 16) (.t 17)⟩,
      ⟨some 19, none, .fieldAddr 3 (.t 18)⟩,
      ⟨some 20, none, .load false 1 (.t 19)⟩,
      ⟨some 21, none, .len (.t 20)⟩,
      ⟨some 22, none, .bin .gtr (.t 21) (.c (.int .i64 20))⟩]
      [1, 3, 22])
    (.cond (.t 22)
      (.seq (.region [⟨some 2, none, .mov (.c (.bool false))⟩]
        [2])
      .ret)
      .skip)) [1, 3])
  (.region [⟨some 13, none, .mov (.t 3)⟩,
    ⟨some 14, none, .bin .add (.t 13) (.c (.int .i64 1))⟩,
    ⟨some 3, none, .mov (.t 14)⟩]
    [1, 3])))
def RC.law16_Light : RFn := ⟨1, [.slot 2],
  (.seq (.region [⟨some 1, none, .box (.t 0)⟩,
    ⟨some 2, none, .mov (.c (.bool false))⟩]
    [1])
  (.seq (.seq (.region [⟨some 3, none, .mov (.c (.int .i64 0))⟩]
    [1, 3])
  (.block 0
    (.loop [1, 3] RB.law16_Light_1) [1]))
  (.seq (.region [⟨some 23, none, .fieldAddr 2 (.t 1)⟩,
    ⟨some 24, none, .load false 1 (.t 23)⟩,
    ⟨some 25, none, .len (.t 24)⟩,
    ⟨some 26, none, .bin .leq (.t 25) (.c (.int .i64 60))⟩,
    ⟨some 2, none, .mov (.t 26)⟩]
    [2])
  .ret)))⟩

def RC.law19_awake : RFn := ⟨0, [.slot 0],
  (.seq (.region [⟨some 0, none, .mov (.c (.bool false))⟩]
    [])
  (.seq (.region [⟨some 6, none, .build [(.int .i64 0), (.int .i64 0), (.int .i64 0), (.slice none 0 0)] [(0, 1, .c (.int .i64 1)), (1, 1, .c (.int .i64 3))]⟩,
    ⟨some 7, none, .build [(.int .i64 0), (.int .i64 0), (.int .i64 0), (.slice none 0 0)] [(0, 1, .c (.int .i64 2)), (1, 1, .c (.int .i64 1)), (2, 1, .c (.int .i64 1))]⟩,
    ⟨some 8, none, .bslice [(.int .i64 0), (.int .i64 0), (.int .i64 0), (.slice none 0 0), (.int .i64 0), (.int .i64 0), (.int .i64 0), (.slice none 0 0)] [(0, 4, .t 6), (4, 4, .t 7)] 2 4⟩,
    ⟨some 9, none, .build [(.int .i64 0), (u32 0#32), (.slice none 0 0)] [(0, 1, .c (.int .i64 4)), (1, 1, .c (u32 3#32)), (2, 1, .t 8)]⟩,
    ⟨some 1, none, .alloc [(.int .i64 0), (u32 0#32), (.slice none 0 0)]⟩,
    ⟨none, none, .store 3 (.t 1) (.t 9)⟩]
    [1])
  (.seq (.region [⟨some 11, none, .load true 3 (.t 1)⟩,
    ⟨some 12, none, .build [(.int .i64 0), (.int .i64 0)] [(0, 1, .c (.int .i64 3)), (1, 1, .c (.int .i64 2))]⟩,
    ⟨some 13, none, .bslice [(.int .i64 0), (.int .i64 0)] [(0, 2, .t 12)] 1 2⟩,
    ⟨some 14, none, .call F.chain_Split [.t 11, .t 13]⟩,
    ⟨some 10, none, .mov (.t 14)⟩,
    ⟨some 15, none, .ext 0 (.t 10)⟩,
    ⟨some 16, none, .ext 1 (.t 10)⟩,
    ⟨some 2, none, .alloc [(.int .i64 0), (u32 0#32), (.slice none 0 0)]⟩,
    ⟨none, none, .store 3 (.t 2) (.t 15)⟩,
    ⟨some 3, none, .mov (.t 16)⟩]
    [1, 2, 3])
  (.seq (.region [⟨some 18, none, .load true 3 (.t 2)⟩,
    ⟨some 19, none, .call F.ref16_Find [.t 18, .c (.int .i64 3)]⟩,
    ⟨some 17, none, .mov (.t 19)⟩,
    ⟨some 20, none, .ext 0 (.t 17)⟩,
    ⟨some 21, none, .ext 1 (.t 17)⟩,
    ⟨some 4, none, .alloc [(.int .i64 0), (.int .i64 0), (.int .i64 0), (.slice none 0 0)]⟩,
    ⟨none, none, .store 4 (.t 4) (.t 20)⟩,
    ⟨some 5, none, .mov (.t 21)⟩]
    [1, 3, 4, 5])
  (.seq (.region [⟨some 22, none, .mov (.t 3)⟩,
    ⟨some 23, none, .bin .eql (.t 22) (.c (.int .i64 0))⟩,
    ⟨some 24, none, .mov (.t 23)⟩,
    ⟨some 25, some (24, true), .mov (.t 5)⟩,
    ⟨some 26, none, .pick (.t 24) (.t 25) (.c (.bool false))⟩,
    ⟨some 27, none, .mov (.t 26)⟩,
    ⟨some 28, some (27, true), .load true 4 (.t 4)⟩,
    ⟨some 29, some (27, true), .build [(.int .i64 0), (u64 0#64)] [(0, 1, .c (.int .i64 0)), (1, 1, .c (u64 1#64))]⟩,
    ⟨some 30, some (27, true), .build [(.int .i64 0), (u64 0#64)] [(0, 1, .c (.int .i64 1)), (1, 1, .c (u64 2#64))]⟩,
    ⟨some 31, some (27, true), .bslice [(.int .i64 0), (u64 0#64), (.int .i64 0), (u64 0#64)] [(0, 2, .t 29), (2, 2, .t 30)] 2 2⟩,
    ⟨some 32, some (27, true), .build [(.int .i64 0), (.int .i64 0), (.int .i64 0), (.slice none 0 0)] [(0, 1, .c (.int .i64 3)), (1, 1, .c (.int .i64 2)), (3, 1, .t 31)]⟩,
    ⟨some 33, some (27, true), .call F.ref16_SamePlace [.t 28, .t 32]⟩,
    ⟨some 34, none, .pick (.t 27) (.t 33) (.c (.bool false))⟩,
    ⟨some 35, none, .mov (.t 34)⟩,
    ⟨some 36, some (35, true), .load true 3 (.t 1)⟩,
    ⟨some 37, some (35, true), .call F.chain_Rooms [.t 36]⟩,
    ⟨some 38, some (35, true), .len (.t 37)⟩,
    ⟨some 39, some (35, true), .bin .eql (.t 38) (.c (.int .i64 16))⟩,
    ⟨some 40, none, .pick (.t 35) (.t 39) (.c (.bool false))⟩,
    ⟨some 41, none, .mov (.t 40)⟩,
    ⟨some 42, some (41, true), .load true 3 (.t 1)⟩,
    ⟨some 43, some (41, true), .call F.chain_Rooms [.t 42]⟩,
    ⟨some 44, some (41, true), .idxS 1 (.t 43) (.c (.int .i64 1))⟩,
    ⟨some 45, some (41, true), .load false 1 (.t 44)⟩,
    ⟨some 46, some (41, true), .bin .eql (.t 45) (.c (.int .i64 3))⟩,
    ⟨some 47, none, .pick (.t 41) (.t 46) (.c (.bool false))⟩,
    ⟨some 0, none, .mov (.t 47)⟩]
    [0])
  .ret)))))⟩

def RB.chain_Rooms_1 : RCode :=
  (.seq (.region [⟨some 14, none, .bin .lss (.t 13) (.t 12)⟩]
    [1, 3, 11, 12, 13, 14])
  (.seq (.cond (.t 14)
    .skip
    (.exit 0))
  (.seq (.block 1
    (.seq (.region [⟨some 15, none, .idxS 1 (.t 11) (.t 13)⟩,
      ⟨some 16, none, .load false 1 (.t 15)⟩,
      ⟨some 5, none, .mov (.t 16)⟩]
      [1, 3, 5, 11, 12, 13])
    (.region [⟨some 17, none, .mov (.t 3)⟩,
      ⟨some 18, none, .mov (.t 5)⟩,
      ⟨some 19, none, .load true 3 (.t 1)⟩,
      ⟨some 20, none, .mov (.t 5)⟩,
      ⟨some 21, none, .call F.plan_Room [.t 19, .t 20]⟩,
      ⟨some 22, none, .idxS 1 (.t 17) (.t 18)⟩,
      ⟨none, none, .store 1 (.t 22) (.t 21)⟩]
      [1, 3, 11, 12, 13])) [1, 3, 11, 12, 13])
  (.region [⟨some 23, none, .bin .add (.t 13) (.c (.int .i64 1))⟩,
    ⟨some 13, none, .mov (.t 23)⟩]
    [1, 3, 11, 12, 13]))))
def RC.chain_Rooms : RFn := ⟨1, [.slot 2],
  (.seq (.region [⟨some 1, none, .box (.t 0)⟩,
    ⟨some 2, none, .mov (.c (.slice none 0 0))⟩]
    [1])
  (.seq (.seq (.region [⟨some 6, none, .load true 3 (.t 1)⟩,
    ⟨some 7, none, .call F.plan_Check [.t 6]⟩,
    ⟨some 8, none, .bin .neq (.t 7) (.c (.int .i64 0))⟩]
    [1, 8])
  (.cond (.t 8)
    (.seq (.region [⟨some 2, none, .mov (.c (.slice none 0 0))⟩]
      [2])
    .ret)
    .skip))
  (.seq (.region [⟨some 9, none, .mkslice 1 8 [(.int .i64 0)] (.c (.int .i64 16)) (.c (.int .i64 16))⟩,
    ⟨some 3, none, .mov (.t 9)⟩]
    [1, 3])
  (.seq (.seq (.region [⟨some 10, none, .load true 3 (.t 1)⟩,
    ⟨some 11, none, .call F.plan_Cores [.t 10]⟩,
    ⟨some 12, none, .len (.t 11)⟩,
    ⟨some 13, none, .mov (.c (.int .i64 0))⟩]
    [1, 3, 11, 12, 13])
  (.block 0
    (.loop [1, 3, 11, 12, 13] RB.chain_Rooms_1) [3]))
  (.seq (.region [⟨some 24, none, .mov (.t 3)⟩,
    ⟨some 2, none, .mov (.t 24)⟩]
    [2])
  .ret)))))⟩

def RB.ref16_Right_1 : RCode :=
  (.seq (.seq (.region [⟨some 72, none, .mov (.t 5)⟩,
    ⟨some 73, none, .mov (.t 4)⟩,
    ⟨some 74, none, .len (.t 73)⟩,
    ⟨some 75, none, .bin .lss (.t 72) (.t 74)⟩]
    [1, 4, 5, 75])
  (.cond (.t 75)
    .skip
    (.exit 2)))
  (.seq (.block 3
    (.seq (.drawn [⟨some 78, none, .load true 3 (.t 1)⟩,
      ⟨some 79, none, .mov (.t 4)⟩,
      ⟨some 80, none, .mov (.t 5)⟩,
      ⟨some 81, none, .idxS 1 (.t 79) (.t 80)⟩,
      ⟨some 82, none, .load false 1 (.t 81)⟩,
      ⟨some 83, none, .call F.ref16_Load [.t 78, .t 82]⟩,
      ⟨some 84, none, .fieldAddr 0 (.t 1)⟩,
      ⟨some 85, none, .load false 1 (.t 84)⟩,
      ⟨some 86, none, .bin .gtr (.t 83) (.t 85)⟩]
      [[], [], [], [1, 2], [3], [0, 4], [], [6], [5, 7]]
      [(1, []), (2, []), (3, []), (6, []), (0, []), (4, []), (7, []), (5, [84]), (8, [])]
      [[], [], [], [1, 2], [1, 2, 3], [0, 1, 2, 3, 4], [], [6], [0, 1, 2, 3, 4, 5, 6, 7]]
      [1, 4, 5, 86])
    (.cond (.t 86)
      (.seq (.region [⟨some 2, none, .mov (.c (.bool false))⟩]
        [2])
      .ret)
      .skip)) [1, 4, 5])
  (.region [⟨some 76, none, .mov (.t 5)⟩,
    ⟨some 77, none, .bin .add (.t 76) (.c (.int .i64 1))⟩,
    ⟨some 5, none, .mov (.t 77)⟩]
    [1, 4, 5])))
def RB.ref16_Right_2 : RCode :=
  (.seq (.seq (.region [⟨some 24, none, .mov (.t 3)⟩,
    ⟨some 25, none, .fieldAddr 2 (.t 1)⟩,
    ⟨some 26, none, .load false 1 (.t 25)⟩,
    ⟨some 27, none, .len (.t 26)⟩,
    ⟨some 28, none, .bin .lss (.t 24) (.t 27)⟩]
    [1, 3, 28])
  (.cond (.t 28)
    .skip
    (.exit 0)))
  (.seq (.block 1
    (.seq (.drawn [⟨some 31, none, .load true 3 (.t 1)⟩,
      ⟨some 32, none, .fieldAddr 2 (.t 1)⟩,
      ⟨some 33, none, .load false 1 (.t 32)⟩,
      ⟨some 34, none, .mov (.t 3)⟩,
      ⟨some 35, none, .idxS 4 (.t 33) (.t 34)⟩,
      ⟨some 36, none, .load true 4 (.t 35)⟩,
      ⟨some 37, none, .call F.ref16_place [.t 31, .t 36]⟩,
      ⟨some 38, none, .un .not (.t 37)⟩,
      ⟨some 39, none, .mov (.t 38)⟩,
      ⟨some 40, some (39, false), .mov (.t 3)⟩,
      ⟨some 41, some (39, false), .bin .gtr (.t 40) (.c (.int .i64 0))⟩,
      ⟨some 42, some (39, false), .mov (.t 41)⟩,
      ⟨some 43, some (42, true), .fieldAddr 2 (.t 1)⟩,
      ⟨some 44, some (42, true), .load false 1 (.t 43)⟩,
      ⟨some 45, some (42, true), .mov (.t 3)⟩,
      ⟨some 46, some (42, true), .bin .sub (.t 45) (.c (.int .i64 1))⟩,
      ⟨some 47, some (42, true), .idxS 4 (.t 44) (.t 46)⟩,
      ⟨some 48, some (42, true), .fieldAddr 0 (.t 47)⟩,
      ⟨some 49, some (42, true), .load false 1 (.t 48)⟩,
      ⟨some 50, some (42, true), .fieldAddr 2 (.t 1)⟩,
      ⟨some 51, some (42, true), .load false 1 (.t 50)⟩,
      ⟨some 52, some (42, true), .mov (.t 3)⟩,
      ⟨some 53, some (42, true), .idxS 4 (.t 51) (.t 52)⟩,
      ⟨some 54, some (42, true), .fieldAddr 0 (.t 53)⟩,
      ⟨some 55, some (42, true), .load false 1 (.t 54)⟩,
      ⟨some 56, some (42, true), .bin .geq (.t 49) (.t 55)⟩,
      ⟨some 57, some (39, false), .pick (.t 42) (.t 56) (.c (.bool false))⟩,
      ⟨some 58, none, .pick (.t 39) (.c (.bool true)) (.t 57)⟩]
      [[], [], [1], [], [2, 3], [4], [0, 5], [6], [7, 6], [8], [9, 8], [10, 8, 8], [11], [12, 11], [11], [14, 11], [13, 15, 11], [16, 11], [17, 11], [11], [19, 11], [11], [20, 21, 11], [22, 11], [23, 11], [18, 24, 11], [11, 25, 8], [8, 26]]
      [(1, []), (3, []), (0, []), (2, []), (4, []), (5, []), (6, []), (7, []), (8, []), (9, []), (10, []), (11, []), (12, []), (14, []), (15, []), (19, []), (21, []), (13, []), (16, []), (17, []), (18, []), (20, []), (22, []), (23, []), (24, []), (25, []), (26, []), (27, [])]
      [[], [], [1], [], [1, 2, 3], [1, 2, 3, 4], [0, 1, 2, 3, 4, 5], [0, 1, 2, 3, 4, 5, 6], [0, 1, 2, 3, 4, 5, 6, 7], [0, 1, 2, 3, 4, 5, 6, 7, 8], [0, 1, 2, 3, 4, 5, 6, 7, 8, 9], [0, 1, 2, 3, 4, 5, 6, 7, 8, 9, 10], [0, 1, 2, 3, 4, 5, 6, 7, 8, 9, 10, 11], [0, 1, 2, 3, 4, 5, 6, 7, 8, 9, 10, 11, 12], [0, 1, 2, 3, 4, 5, 6, 7, 8, 9, 10, 11], [0, 1, 2, 3, 4, 5, 6, 7, 8, 9, 10, 11, 14], [0, 1, 2, 3, 4, 5, 6, 7, 8, 9, 10, 11, 12, 13, 14, 15], [0, 1, 2, 3, 4, 5, 6, 7, 8, 9, 10, 11, 12, 13, 14, 15, 16], [0, 1, 2, 3, 4, 5, 6, 7, 8, 9, 10, 11, 12, 13, 14, 15, 16, 17], [0, 1, 2, 3, 4, 5, 6, 7, 8, 9, 10, 11], [0, 1, 2, 3, 4, 5, 6, 7, 8, 9, 10, 11, 19], [0, 1, 2, 3, 4, 5, 6, 7, 8, 9, 10, 11], [0, 1, 2, 3, 4, 5, 6, 7, 8, 9, 10, 11, 19, 20, 21], [0, 1, 2, 3, 4, 5, 6, 7, 8, 9, 10, 11, 19, 20, 21, 22], [0, 1, 2, 3, 4, 5, 6, 7, 8, 9, 10, 11, 19, 20, 21, 22, 23], [0, 1, 2, 3, 4, 5, 6, 7, 8, 9, 10, 11, 12, 13, 14, 15, 16, 17, 18, 19, 20, 21, 22, 23, 24], [0, 1, 2, 3, 4, 5, 6, 7, 8, 9, 10, 11, 12, 13, 14, 15, 16, 17, 18, 19, 20, 21, 22, 23, 24, 25], [0, 1, 2, 3, 4, 5, 6, 7, 8, 9, 10, 11, 12, 13, 14, 15, 16, 17, 18, 19, 20, 21, 22, 23, 24, 25, 26]]
      [1, 3, 58])
    (.cond (.t 58)
      (.seq (.region [⟨some 2, none, .mov (.c (.bool false))⟩]
        [2])
      .ret)
      .skip)) [1, 3])
  (.region [⟨some 29, none, .mov (.t 3)⟩,
    ⟨some 30, none, .bin .add (.t 29) (.c (.int .i64 1))⟩,
    ⟨some 3, none, .mov (.t 30)⟩]
    [1, 3])))
def RC.ref16_Right : RFn := ⟨1, [.slot 2],
  (.seq (.region [⟨some 1, none, .box (.t 0)⟩,
    ⟨some 2, none, .mov (.c (.bool false))⟩]
    [1])
  (.seq (.seq (.region [⟨some 6, none, .fieldAddr 0 (.t 1)⟩,
    ⟨some 7, none, .load false 1 (.t 6)⟩,
    ⟨some 8, none, .bin .lss (.t 7) (.c (.int .i64 2))⟩,
    ⟨some 9, none, .mov (.t 8)⟩,
    ⟨some 10, some (9, false), .fieldAddr 0 (.t 1)⟩,
    ⟨some 11, some (9, false), .load false 1 (.t 10)⟩,
    ⟨some 12, some (9, false), .bin .gtr (.t 11) (.c (.int .i64 64))⟩,
    ⟨some 13, none, .pick (.t 9) (.c (.bool true)) (.t 12)⟩,
    ⟨some 14, none, .mov (.t 13)⟩,
    ⟨some 15, some (14, false), .fieldAddr 1 (.t 1)⟩,
    ⟨some 16, some (14, false), .load false 1 (.t 15)⟩,
    ⟨some 17, some (14, false), .bin .eql (.t 16) (.c (u32 0#32))⟩,
    ⟨some 18, none, .pick (.t 14) (.c (.bool true)) (.t 17)⟩,
    ⟨some 19, none, .mov (.t 18)⟩,
    ⟨some 20, some (19, false), .fieldAddr 1 (.t 1)⟩,
    ⟨some 21, some (19, false), .load false 1 (.t 20)⟩,
    ⟨some 22, some (19, false), .bin .gtr (.t 21) (.c (u32 65535#32))⟩,
    ⟨some 23, none, .pick (.t 19) (.c (.bool true)) (.t 22)⟩]
    [1, 23])
  (.cond (.t 23)
    (.seq (.region [⟨some 2, none, .mov (.c (.bool false))⟩]
      [2])
    .ret)
    .skip))
  (.seq (.seq (.region [⟨some 3, none, .mov (.c (.int .i64 0))⟩]
    [1, 3])
  (.block 0
    (.loop [1, 3] RB.ref16_Right_2) [1]))
  (.seq (.seq (.drawn [⟨some 59, none, .load true 3 (.t 1)⟩,
    ⟨some 60, none, .call F.ref16_apart [.t 59]⟩,
    ⟨some 61, none, .un .not (.t 60)⟩,
    ⟨some 62, none, .mov (.t 61)⟩,
    ⟨some 63, some (62, false), .load true 3 (.t 1)⟩,
    ⟨some 64, some (62, false), .call F.ref16_Splits [.t 63]⟩,
    ⟨some 65, some (62, false), .load true 3 (.t 1)⟩,
    ⟨some 66, some (62, false), .call F.ref16_Cores [.t 65]⟩,
    ⟨some 67, some (62, false), .len (.t 66)⟩,
    ⟨some 68, some (62, false), .bin .geq (.t 64) (.t 67)⟩,
    ⟨some 69, none, .pick (.t 62) (.c (.bool true)) (.t 68)⟩]
    [[], [0], [1], [2, 1], [3], [4, 3, 3], [3], [6, 5, 3], [7, 3], [5, 8, 3], [3, 9]]
    [(0, []), (1, []), (2, []), (3, []), (4, []), (6, []), (5, [1]), (7, []), (8, []), (9, []), (10, [])]
    [[], [0], [0, 1], [0, 1, 2], [0, 1, 2, 3], [0, 1, 2, 3, 4], [0, 1, 2, 3], [0, 1, 2, 3, 4, 5, 6], [0, 1, 2, 3, 4, 5, 6, 7], [0, 1, 2, 3, 4, 5, 6, 7, 8], [0, 1, 2, 3, 4, 5, 6, 7, 8, 9]]
    [1, 69])
  (.cond (.t 69)
    (.seq (.region [⟨some 2, none, .mov (.c (.bool false))⟩]
      [2])
    .ret)
    .skip))
  (.seq (.region [⟨some 70, none, .load true 3 (.t 1)⟩,
    ⟨some 71, none, .call F.ref16_Cores [.t 70]⟩,
    ⟨some 4, none, .mov (.t 71)⟩]
    [1, 4])
  (.seq (.seq (.region [⟨some 5, none, .mov (.c (.int .i64 0))⟩]
    [1, 4, 5])
  (.block 2
    (.loop [1, 4, 5] RB.ref16_Right_1) []))
  (.seq (.region [⟨some 2, none, .mov (.c (.bool true))⟩]
    [2])
  .ret)))))))⟩

def RB.ref03_Same_1 : RCode :=
  (.seq (.seq (.region [⟨some 11, none, .mov (.t 5)⟩,
    ⟨some 12, none, .mov (.t 0)⟩,
    ⟨some 13, none, .len (.t 12)⟩,
    ⟨some 14, none, .bin .lss (.t 11) (.t 13)⟩]
    [0, 1, 5, 14])
  (.cond (.t 14)
    .skip
    (.exit 0)))
  (.seq (.block 1
    (.seq (.drawn [⟨some 17, none, .mov (.t 0)⟩,
      ⟨some 18, none, .mov (.t 5)⟩,
      ⟨some 19, none, .idxS 1 (.t 17) (.t 18)⟩,
      ⟨some 20, none, .load false 1 (.t 19)⟩,
      ⟨some 21, none, .mov (.t 1)⟩,
      ⟨some 22, none, .mov (.t 5)⟩,
      ⟨some 23, none, .idxS 1 (.t 21) (.t 22)⟩,
      ⟨some 24, none, .load false 1 (.t 23)⟩,
      ⟨some 25, none, .bin .neq (.t 20) (.t 24)⟩]
      [[], [], [0, 1], [2], [], [], [4, 5], [6], [3, 7]]
      [(0, []), (1, []), (2, []), (4, []), (5, []), (6, []), (3, []), (7, []), (8, [])]
      [[], [], [0, 1], [0, 1, 2], [], [], [4, 5], [4, 5, 6], [0, 1, 2, 3, 4, 5, 6, 7]]
      [0, 1, 5, 25])
    (.cond (.t 25)
      (.seq (.region [⟨some 4, none, .mov (.c (.bool false))⟩]
        [4])
      .ret)
      .skip)) [0, 1, 5])
  (.region [⟨some 15, none, .mov (.t 5)⟩,
    ⟨some 16, none, .bin .add (.t 15) (.c (.int .i64 1))⟩,
    ⟨some 5, none, .mov (.t 16)⟩]
    [0, 1, 5])))
def RC.ref03_Same : RFn := ⟨2, [.slot 4],
  (.seq (.region [⟨some 4, none, .mov (.c (.bool false))⟩]
    [0, 1])
  (.seq (.seq (.region [⟨some 6, none, .mov (.t 0)⟩,
    ⟨some 7, none, .len (.t 6)⟩,
    ⟨some 8, none, .mov (.t 1)⟩,
    ⟨some 9, none, .len (.t 8)⟩,
    ⟨some 10, none, .bin .neq (.t 7) (.t 9)⟩]
    [0, 1, 10])
  (.cond (.t 10)
    (.seq (.region [⟨some 4, none, .mov (.c (.bool false))⟩]
      [4])
    .ret)
    .skip))
  (.seq (.seq (.region [⟨some 5, none, .mov (.c (.int .i64 0))⟩]
    [0, 1, 5])
  (.block 0
    (.loop [0, 1, 5] RB.ref03_Same_1) []))
  (.seq (.region [⟨some 4, none, .mov (.c (.bool true))⟩]
    [4])
  .ret))))⟩

def RB.ref19_Rooms_1 : RCode :=
  (.seq (.seq (.region [⟨some 6, none, .mov (.t 4)⟩,
    ⟨some 7, none, .bin .lss (.t 6) (.c (.int .i64 16))⟩]
    [1, 3, 4, 7])
  (.cond (.t 7)
    .skip
    (.exit 0)))
  (.seq (.block 1
    (.region [⟨some 10, none, .mov (.t 3)⟩,
      ⟨some 11, none, .load true 3 (.t 1)⟩,
      ⟨some 12, none, .mov (.t 4)⟩,
      ⟨some 13, none, .call F.ref16_Room [.t 11, .t 12]⟩,
      ⟨some 14, none, .bslice [(.int .i64 0)] [(0, 1, .t 13)] 1 1⟩,
      ⟨some 15, none, .app 1 8 (.t 10) (.t 14)⟩,
      ⟨some 3, none, .mov (.t 15)⟩]
      [1, 3, 4]) [1, 3, 4])
  (.region [⟨some 8, none, .mov (.t 4)⟩,
    ⟨some 9, none, .bin .add (.t 8) (.c (.int .i64 1))⟩,
    ⟨some 4, none, .mov (.t 9)⟩]
    [1, 3, 4])))
def RC.ref19_Rooms : RFn := ⟨1, [.slot 2],
  (.seq (.region [⟨some 1, none, .box (.t 0)⟩,
    ⟨some 2, none, .mov (.c (.slice none 0 0))⟩]
    [1])
  (.seq (.region [⟨some 5, none, .bslice [] [] 0 1⟩,
    ⟨some 3, none, .mov (.t 5)⟩]
    [1, 3])
  (.seq (.seq (.region [⟨some 4, none, .mov (.c (.int .i64 0))⟩]
    [1, 3, 4])
  (.block 0
    (.loop [1, 3, 4] RB.ref19_Rooms_1) [3]))
  (.seq (.region [⟨some 16, none, .mov (.t 3)⟩,
    ⟨some 2, none, .mov (.t 16)⟩]
    [2])
  .ret))))⟩

def RB.chain_Split_1 : RCode :=
  (.seq (.region [⟨some 28, none, .bin .lss (.t 27) (.t 26)⟩]
    [2, 4, 7, 25, 26, 27, 28])
  (.seq (.cond (.t 28)
    .skip
    (.exit 0))
  (.seq (.block 1
    (.seq (.region [⟨some 29, none, .idxS 2 (.t 25) (.t 27)⟩,
      ⟨some 30, none, .load true 2 (.t 29)⟩,
      ⟨some 9, none, .alloc [(.int .i64 0), (.int .i64 0)]⟩,
      ⟨none, none, .store 2 (.t 9) (.t 30)⟩]
      [2, 4, 7, 9, 25, 26, 27])
    (.drawn [⟨some 31, none, .load true 3 (.t 2)⟩,
      ⟨some 32, none, .mov (.t 7)⟩,
      ⟨some 33, none, .load true 2 (.t 9)⟩,
      ⟨some 34, none, .call F.chain_chain_place [.t 32, .t 33]⟩,
      ⟨some 35, none, .call F.plan_Put [.t 31, .t 34]⟩,
      ⟨none, none, .store 3 (.t 2) (.t 35)⟩]
      [[], [], [], [1, 2], [0, 3, 3], [4, 4, 0, 1, 2, 3, 4]]
      [(1, []), (0, []), (2, []), (3, [2]), (4, []), (5, [])]
      [[], [], [], [1, 2], [0, 1, 2, 3], [0, 1, 2, 3, 4]]
      [2, 4, 7, 25, 26, 27])) [2, 4, 7, 25, 26, 27])
  (.region [⟨some 36, none, .bin .add (.t 27) (.c (.int .i64 1))⟩,
    ⟨some 27, none, .mov (.t 36)⟩]
    [2, 4, 7, 25, 26, 27]))))
def RC.chain_Split : RFn := ⟨2, [.cell 4 true 3, .slot 5],
  (.seq (.region [⟨some 2, none, .box (.t 0)⟩,
    ⟨some 4, none, .alloc [(.int .i64 0), (u32 0#32), (.slice none 0 0)]⟩,
    ⟨some 5, none, .mov (.c (.int .i64 0))⟩]
    [1, 2, 4])
  (.seq (.seq (.region [⟨some 10, none, .load true 3 (.t 2)⟩,
    ⟨some 11, none, .mov (.t 1)⟩,
    ⟨some 12, none, .call F.chain_why [.t 10, .t 11]⟩,
    ⟨some 6, none, .mov (.t 12)⟩]
    [1, 2, 4, 6])
  (.seq (.region [⟨some 13, none, .mov (.t 6)⟩,
    ⟨some 14, none, .bin .neq (.t 13) (.c (.int .i64 0))⟩]
    [1, 2, 4, 6, 14])
  (.cond (.t 14)
    (.seq (.region [⟨some 15, none, .build [(.int .i64 0), (u32 0#32), (.slice none 0 0)] []⟩,
      ⟨some 16, none, .mov (.t 6)⟩,
      ⟨none, none, .store 3 (.t 4) (.t 15)⟩,
      ⟨some 5, none, .mov (.t 16)⟩]
      [4, 5])
    .ret)
    .skip)))
  (.seq (.drawn [⟨some 17, none, .fieldAddr 0 (.t 2)⟩,
    ⟨some 18, none, .load false 1 (.t 17)⟩,
    ⟨some 19, none, .load true 3 (.t 2)⟩,
    ⟨some 20, none, .call F.chain_Rooms [.t 19]⟩,
    ⟨some 21, none, .build [(.int .i64 0), (.slice none 0 0), (.int .i64 0), (.int .i64 0)] [(0, 1, .t 18), (1, 1, .t 20)]⟩,
    ⟨some 22, none, .box (.t 21)⟩,
    ⟨some 7, none, .mov (.t 22)⟩]
    [[], [0], [], [2], [1, 3], [4], [5, 3, 0, 1, 2, 3, 4, 5]]
    [(0, []), (1, []), (2, []), (3, [17]), (4, []), (5, []), (6, [])]
    [[], [0], [], [2], [0, 1, 2, 3], [0, 1, 2, 3, 4], [0, 1, 2, 3, 4, 5]]
    [1, 2, 4, 7])
  (.seq (.region [⟨some 23, none, .load true 3 (.t 2)⟩,
    ⟨some 24, none, .call F.plan_Drop [.t 23, .c (.int .i64 0)]⟩,
    ⟨none, none, .store 3 (.t 2) (.t 24)⟩]
    [1, 2, 4, 7])
  (.seq (.seq (.region [⟨some 25, none, .mov (.t 1)⟩,
    ⟨some 26, none, .len (.t 25)⟩,
    ⟨some 27, none, .mov (.c (.int .i64 0))⟩]
    [2, 4, 7, 25, 26, 27])
  (.block 0
    (.loop [2, 4, 7, 25, 26, 27] RB.chain_Split_1) [2, 4]))
  (.seq (.region [⟨some 37, none, .load true 3 (.t 2)⟩,
    ⟨none, none, .store 3 (.t 4) (.t 37)⟩,
    ⟨some 5, none, .mov (.c (.int .i64 0))⟩]
    [4, 5])
  .ret))))))⟩

def RC.ref19_Why : RFn := ⟨2, [.slot 4],
  (.seq (.region [⟨some 2, none, .box (.t 0)⟩,
    ⟨some 4, none, .mov (.c (.int .i64 0))⟩]
    [1, 2])
  (.seq (.region [⟨some 8, none, .load true 3 (.t 2)⟩,
    ⟨some 9, none, .mov (.t 1)⟩,
    ⟨some 10, none, .call F.ref18_Why [.t 8, .t 9]⟩,
    ⟨some 5, none, .mov (.t 10)⟩]
    [1, 2, 5])
  (.seq (.seq (.region [⟨some 11, none, .mov (.t 5)⟩,
    ⟨some 12, none, .bin .neq (.t 11) (.c (.int .i64 0))⟩]
    [1, 2, 5, 12])
  (.cond (.t 12)
    (.seq (.region [⟨some 13, none, .mov (.t 5)⟩,
      ⟨some 4, none, .mov (.t 13)⟩]
      [4])
    .ret)
    .skip))
  (.seq (.seq (.region [⟨some 14, none, .load true 3 (.t 2)⟩,
    ⟨some 15, none, .call F.ref16_Splits [.t 14]⟩,
    ⟨some 16, none, .bin .gtr (.t 15) (.c (.int .i64 0))⟩]
    [1, 2, 16])
  (.cond (.t 16)
    (.seq (.region [⟨some 4, none, .mov (.c (.int .i64 15))⟩]
      [4])
    .ret)
    .skip))
  (.seq (.region [⟨some 18, none, .mov (.t 1)⟩,
    ⟨some 19, none, .call F.ref08_Total [.t 18]⟩,
    ⟨some 17, none, .mov (.t 19)⟩,
    ⟨some 20, none, .ext 0 (.t 17)⟩,
    ⟨some 21, none, .ext 1 (.t 17)⟩,
    ⟨some 6, none, .mov (.t 20)⟩,
    ⟨some 7, none, .mov (.t 21)⟩]
    [2, 6])
  (.seq (.seq (.region [⟨some 22, none, .mov (.t 6)⟩,
    ⟨some 23, none, .load true 3 (.t 2)⟩,
    ⟨some 24, none, .call F.ref16_Free [.t 23]⟩,
    ⟨some 25, none, .bin .gtr (.t 22) (.t 24)⟩]
    [25])
  (.cond (.t 25)
    (.seq (.region [⟨some 4, none, .mov (.c (.int .i64 12))⟩]
      [4])
    .ret)
    .skip))
  (.seq (.region [⟨some 4, none, .mov (.c (.int .i64 0))⟩]
    [4])
  .ret)))))))⟩

def RB.ref16_Same_1 : RCode :=
  (.seq (.seq (.region [⟨some 27, none, .mov (.t 5)⟩,
    ⟨some 28, none, .fieldAddr 2 (.t 2)⟩,
    ⟨some 29, none, .load false 1 (.t 28)⟩,
    ⟨some 30, none, .len (.t 29)⟩,
    ⟨some 31, none, .bin .lss (.t 27) (.t 30)⟩]
    [2, 3, 5, 31])
  (.cond (.t 31)
    .skip
    (.exit 0)))
  (.seq (.block 1
    (.seq (.drawn [⟨some 34, none, .fieldAddr 2 (.t 2)⟩,
      ⟨some 35, none, .load false 1 (.t 34)⟩,
      ⟨some 36, none, .mov (.t 5)⟩,
      ⟨some 37, none, .idxS 4 (.t 35) (.t 36)⟩,
      ⟨some 38, none, .load true 4 (.t 37)⟩,
      ⟨some 39, none, .fieldAddr 2 (.t 3)⟩,
      ⟨some 40, none, .load false 1 (.t 39)⟩,
      ⟨some 41, none, .mov (.t 5)⟩,
      ⟨some 42, none, .idxS 4 (.t 40) (.t 41)⟩,
      ⟨some 43, none, .load true 4 (.t 42)⟩,
      ⟨some 44, none, .call F.ref16_SamePlace [.t 38, .t 43]⟩,
      ⟨some 45, none, .un .not (.t 44)⟩]
      [[], [0], [], [1, 2], [3], [], [5], [], [6, 7], [8], [4, 9], [10]]
      [(0, []), (2, []), (5, []), (7, []), (1, []), (3, []), (4, []), (6, []), (8, []), (9, []), (10, []), (11, [])]
      [[], [0], [], [0, 1, 2], [0, 1, 2, 3], [], [5], [], [5, 6, 7], [5, 6, 7, 8], [0, 1, 2, 3, 4, 5, 6, 7, 8, 9], [0, 1, 2, 3, 4, 5, 6, 7, 8, 9, 10]]
      [2, 3, 5, 45])
    (.cond (.t 45)
      (.seq (.region [⟨some 4, none, .mov (.c (.bool false))⟩]
        [4])
      .ret)
      .skip)) [2, 3, 5])
  (.region [⟨some 32, none, .mov (.t 5)⟩,
    ⟨some 33, none, .bin .add (.t 32) (.c (.int .i64 1))⟩,
    ⟨some 5, none, .mov (.t 33)⟩]
    [2, 3, 5])))
def RC.ref16_Same : RFn := ⟨2, [.slot 4],
  (.seq (.region [⟨some 2, none, .box (.t 0)⟩,
    ⟨some 3, none, .box (.t 1)⟩,
    ⟨some 4, none, .mov (.c (.bool false))⟩]
    [2, 3])
  (.seq (.seq (.region [⟨some 6, none, .fieldAddr 0 (.t 2)⟩,
    ⟨some 7, none, .load false 1 (.t 6)⟩,
    ⟨some 8, none, .fieldAddr 0 (.t 3)⟩,
    ⟨some 9, none, .load false 1 (.t 8)⟩,
    ⟨some 10, none, .bin .neq (.t 7) (.t 9)⟩,
    ⟨some 11, none, .mov (.t 10)⟩,
    ⟨some 12, some (11, false), .fieldAddr 1 (.t 2)⟩,
    ⟨some 13, some (11, false), .load false 1 (.t 12)⟩,
    ⟨some 14, some (11, false), .fieldAddr 1 (.t 3)⟩,
    ⟨some 15, some (11, false), .load false 1 (.t 14)⟩,
    ⟨some 16, some (11, false), .bin .neq (.t 13) (.t 15)⟩,
    ⟨some 17, none, .pick (.t 11) (.c (.bool true)) (.t 16)⟩,
    ⟨some 18, none, .mov (.t 17)⟩,
    ⟨some 19, some (18, false), .fieldAddr 2 (.t 2)⟩,
    ⟨some 20, some (18, false), .load false 1 (.t 19)⟩,
    ⟨some 21, some (18, false), .len (.t 20)⟩,
    ⟨some 22, some (18, false), .fieldAddr 2 (.t 3)⟩,
    ⟨some 23, some (18, false), .load false 1 (.t 22)⟩,
    ⟨some 24, some (18, false), .len (.t 23)⟩,
    ⟨some 25, some (18, false), .bin .neq (.t 21) (.t 24)⟩,
    ⟨some 26, none, .pick (.t 18) (.c (.bool true)) (.t 25)⟩]
    [2, 3, 26])
  (.cond (.t 26)
    (.seq (.region [⟨some 4, none, .mov (.c (.bool false))⟩]
      [4])
    .ret)
    .skip))
  (.seq (.seq (.region [⟨some 5, none, .mov (.c (.int .i64 0))⟩]
    [2, 3, 5])
  (.block 0
    (.loop [2, 3, 5] RB.ref16_Same_1) []))
  (.seq (.region [⟨some 4, none, .mov (.c (.bool true))⟩]
    [4])
  .ret))))⟩

def RB.ref19_Split_1 : RCode :=
  (.seq (.seq (.region [⟨some 79, none, .mov (.t 8)⟩,
    ⟨some 80, none, .bin .lss (.t 79) (.c (.int .i64 15))⟩,
    ⟨some 81, none, .mov (.t 80)⟩,
    ⟨some 82, some (81, true), .mov (.t 5)⟩,
    ⟨some 83, some (81, true), .mov (.t 8)⟩,
    ⟨some 84, some (81, true), .idxS 1 (.t 82) (.t 83)⟩,
    ⟨some 85, some (81, true), .load false 1 (.t 84)⟩,
    ⟨some 86, some (81, true), .bin .eql (.t 85) (.c (.int .i64 0))⟩,
    ⟨some 87, none, .pick (.t 81) (.t 86) (.c (.bool false))⟩]
    [1, 2, 4, 5, 6, 7, 8, 9, 10, 87])
  (.cond (.t 87)
    .skip
    (.exit 6)))
  (.block 7
    (.region [⟨some 88, none, .mov (.t 8)⟩,
      ⟨some 89, none, .bin .add (.t 88) (.c (.int .i64 1))⟩,
      ⟨some 8, none, .mov (.t 89)⟩]
      [1, 2, 4, 5, 6, 7, 8, 9, 10]) [1, 2, 4, 5, 6, 7, 8, 9, 10]))
def RB.ref19_Split_2 : RCode :=
  (.seq (.seq (.region [⟨some 70, none, .mov (.t 10)⟩,
    ⟨some 71, none, .mov (.t 1)⟩,
    ⟨some 72, none, .mov (.t 7)⟩,
    ⟨some 73, none, .idxS 2 (.t 71) (.t 72)⟩,
    ⟨some 74, none, .fieldAddr 1 (.t 73)⟩,
    ⟨some 75, none, .load false 1 (.t 74)⟩,
    ⟨some 76, none, .bin .lss (.t 70) (.t 75)⟩]
    [1, 2, 4, 5, 6, 7, 8, 9, 10, 76])
  (.cond (.t 76)
    .skip
    (.exit 4)))
  (.seq (.block 5
    (.seq (.block 6
      (.loop [1, 2, 4, 5, 6, 7, 8, 9, 10] RB.ref19_Split_1) [1, 2, 4, 5, 6, 7, 8, 9, 10])
    (.seq (.region [⟨some 90, none, .fieldAddr 3 (.t 9)⟩,
      ⟨some 91, none, .load false 1 (.t 90)⟩,
      ⟨some 92, none, .len (.t 91)⟩,
      ⟨some 11, none, .mov (.t 92)⟩]
      [1, 2, 4, 5, 6, 7, 8, 9, 10, 11])
    (.seq (.seq (.region [⟨some 93, none, .mov (.t 11)⟩,
      ⟨some 94, none, .bin .eql (.t 93) (.c (.int .i64 0))⟩,
      ⟨some 95, none, .mov (.t 94)⟩,
      ⟨some 96, some (95, false), .fieldAddr 3 (.t 9)⟩,
      ⟨some 97, some (95, false), .load false 1 (.t 96)⟩,
      ⟨some 98, some (95, false), .mov (.t 11)⟩,
      ⟨some 99, some (95, false), .bin .sub (.t 98) (.c (.int .i64 1))⟩,
      ⟨some 100, some (95, false), .idxS 2 (.t 97) (.t 99)⟩,
      ⟨some 101, some (95, false), .fieldAddr 0 (.t 100)⟩,
      ⟨some 102, some (95, false), .load false 1 (.t 101)⟩,
      ⟨some 103, some (95, false), .mov (.t 8)⟩,
      ⟨some 104, some (95, false), .bin .neq (.t 102) (.t 103)⟩,
      ⟨some 105, none, .pick (.t 95) (.c (.bool true)) (.t 104)⟩]
      [1, 2, 4, 5, 6, 7, 8, 9, 10, 11, 105])
    (.cond (.t 105)
      (.seq (.region [⟨some 106, none, .fieldAddr 3 (.t 9)⟩,
        ⟨some 107, none, .load false 1 (.t 106)⟩,
        ⟨some 108, none, .mov (.t 8)⟩,
        ⟨some 109, none, .build [(.int .i64 0), (u64 0#64)] [(0, 1, .t 108)]⟩,
        ⟨some 110, none, .bslice [(.int .i64 0), (u64 0#64)] [(0, 2, .t 109)] 1 2⟩,
        ⟨some 111, none, .app 2 16 (.t 107) (.t 110)⟩,
        ⟨some 112, none, .fieldAddr 3 (.t 9)⟩,
        ⟨none, none, .store 1 (.t 112) (.t 111)⟩]
        [1, 2, 4, 5, 6, 7, 8, 9, 10, 11])
      (.region [⟨some 113, none, .mov (.t 11)⟩,
        ⟨some 114, none, .bin .add (.t 113) (.c (.int .i64 1))⟩,
        ⟨some 11, none, .mov (.t 114)⟩]
        [1, 2, 4, 5, 6, 7, 8, 9, 10, 11]))
      .skip))
    (.seq (.drawn [⟨some 115, none, .fieldAddr 3 (.t 9)⟩,
      ⟨some 116, none, .load false 1 (.t 115)⟩,
      ⟨some 117, none, .mov (.t 11)⟩,
      ⟨some 118, none, .bin .sub (.t 117) (.c (.int .i64 1))⟩,
      ⟨some 119, none, .fieldAddr 3 (.t 9)⟩,
      ⟨some 120, none, .load false 1 (.t 119)⟩,
      ⟨some 121, none, .mov (.t 11)⟩,
      ⟨some 122, none, .bin .sub (.t 121) (.c (.int .i64 1))⟩,
      ⟨some 123, none, .idxS 2 (.t 120) (.t 122)⟩,
      ⟨some 124, none, .fieldAddr 1 (.t 123)⟩,
      ⟨some 125, none, .load false 1 (.t 124)⟩,
      ⟨some 126, none, .mov (.t 6)⟩,
      ⟨some 127, none, .call F.ref04_With [.t 125, .t 126]⟩,
      ⟨some 128, none, .idxS 2 (.t 116) (.t 118)⟩,
      ⟨some 129, none, .fieldAddr 1 (.t 128)⟩,
      ⟨none, none, .store 1 (.t 129) (.t 127)⟩]
      [[], [0], [], [2], [], [4], [], [6], [5, 7], [8], [9], [], [10, 11], [1, 3, 0, 1, 2, 3, 4, 5, 6, 7, 8, 9, 10, 11, 12], [13, 0, 1, 2, 3, 4, 5, 6, 7, 8, 9, 10, 11, 12], [14, 12, 12, 0, 1, 2, 3, 4, 5, 6, 7, 8, 9, 10, 11, 12]]
      [(0, []), (2, []), (3, []), (4, []), (6, []), (7, []), (11, []), (1, []), (5, []), (8, []), (9, []), (10, []), (12, [115]), (13, []), (14, []), (15, [])]
      [[], [0], [], [2], [], [4], [], [6], [4, 5, 6, 7], [4, 5, 6, 7, 8], [4, 5, 6, 7, 8, 9], [], [4, 5, 6, 7, 8, 9, 10, 11], [0, 1, 2, 3, 4, 5, 6, 7, 8, 9, 10, 11, 12], [0, 1, 2, 3, 4, 5, 6, 7, 8, 9, 10, 11, 12, 13], [0, 1, 2, 3, 4, 5, 6, 7, 8, 9, 10, 11, 12, 13, 14]]
      [1, 2, 4, 5, 6, 7, 8, 9, 10])
    (.seq (.region [⟨some 130, none, .mov (.t 5)⟩,
      ⟨some 131, none, .mov (.t 8)⟩,
      ⟨some 132, none, .idxS 1 (.t 130) (.t 131)⟩,
      ⟨some 133, none, .load false 1 (.t 132)⟩,
      ⟨some 134, none, .bin .sub (.t 133) (.c (.int .i64 1))⟩,
      ⟨some 135, none, .idxS 1 (.t 130) (.t 131)⟩,
      ⟨none, none, .store 1 (.t 135) (.t 134)⟩]
      [1, 2, 4, 5, 6, 7, 8, 9, 10])
    (.region [⟨some 136, none, .mov (.t 6)⟩,
      ⟨some 137, none, .bin .add (.t 136) (.c (.int .i64 1))⟩,
      ⟨some 138, none, .fieldAddr 0 (.t 2)⟩,
      ⟨some 139, none, .load false 1 (.t 138)⟩,
      ⟨some 140, none, .bin .rem (.t 137) (.t 139)⟩,
      ⟨some 6, none, .mov (.t 140)⟩]
      [1, 2, 4, 5, 6, 7, 8, 9, 10])))))) [1, 2, 4, 5, 6, 7, 8, 9, 10])
  (.region [⟨some 77, none, .mov (.t 10)⟩,
    ⟨some 78, none, .bin .add (.t 77) (.c (.int .i64 1))⟩,
    ⟨some 10, none, .mov (.t 78)⟩]
    [1, 2, 4, 5, 6, 7, 8, 9, 10])))
def RB.ref19_Split_3 : RCode :=
  (.seq (.seq (.region [⟨some 20, none, .mov (.t 8)⟩,
    ⟨some 21, none, .bin .lss (.t 20) (.c (.int .i64 15))⟩,
    ⟨some 22, none, .mov (.t 21)⟩,
    ⟨some 23, some (22, true), .mov (.t 5)⟩,
    ⟨some 24, some (22, true), .mov (.t 8)⟩,
    ⟨some 25, some (22, true), .idxS 1 (.t 23) (.t 24)⟩,
    ⟨some 26, some (22, true), .load false 1 (.t 25)⟩,
    ⟨some 27, some (22, true), .bin .eql (.t 26) (.c (.int .i64 0))⟩,
    ⟨some 28, none, .pick (.t 22) (.t 27) (.c (.bool false))⟩]
    [1, 2, 4, 5, 6, 7, 8, 28])
  (.cond (.t 28)
    .skip
    (.exit 2)))
  (.block 3
    (.region [⟨some 29, none, .mov (.t 8)⟩,
      ⟨some 30, none, .bin .add (.t 29) (.c (.int .i64 1))⟩,
      ⟨some 8, none, .mov (.t 30)⟩]
      [1, 2, 4, 5, 6, 7, 8]) [1, 2, 4, 5, 6, 7, 8]))
def RB.ref19_Split_4 : RCode :=
  (.seq (.seq (.region [⟨some 14, none, .mov (.t 7)⟩,
    ⟨some 15, none, .mov (.t 1)⟩,
    ⟨some 16, none, .len (.t 15)⟩,
    ⟨some 17, none, .bin .lss (.t 14) (.t 16)⟩]
    [1, 2, 4, 5, 6, 7, 17])
  (.cond (.t 17)
    .skip
    (.exit 0)))
  (.seq (.block 1
    (.seq (.region [⟨some 8, none, .mov (.c (.int .i64 0))⟩]
      [1, 2, 4, 5, 6, 7, 8])
    (.seq (.block 2
      (.loop [1, 2, 4, 5, 6, 7, 8] RB.ref19_Split_3) [1, 2, 4, 5, 6, 7, 8])
    (.seq (.drawn [⟨some 31, none, .mov (.t 1)⟩,
      ⟨some 32, none, .mov (.t 7)⟩,
      ⟨some 33, none, .idxS 2 (.t 31) (.t 32)⟩,
      ⟨some 34, none, .fieldAddr 0 (.t 33)⟩,
      ⟨some 35, none, .load false 1 (.t 34)⟩,
      ⟨some 36, none, .mov (.t 1)⟩,
      ⟨some 37, none, .mov (.t 7)⟩,
      ⟨some 38, none, .idxS 2 (.t 36) (.t 37)⟩,
      ⟨some 39, none, .fieldAddr 1 (.t 38)⟩,
      ⟨some 40, none, .load false 1 (.t 39)⟩,
      ⟨some 41, none, .mov (.t 8)⟩,
      ⟨some 42, none, .build [(.int .i64 0), (.int .i64 0), (.int .i64 0), (.slice none 0 0)] [(0, 1, .t 35), (1, 1, .t 40), (2, 1, .t 41)]⟩,
      ⟨some 9, none, .alloc [(.int .i64 0), (.int .i64 0), (.int .i64 0), (.slice none 0 0)]⟩,
      ⟨none, none, .store 4 (.t 9) (.t 42)⟩]
      [[], [], [0, 1], [2], [3], [], [], [5, 6], [7], [8], [], [4, 9, 10], [], [12, 11, 0, 1, 2, 3, 4, 5, 6, 7, 8, 9, 10, 11, 12]]
      [(0, []), (1, []), (2, []), (3, []), (5, []), (6, []), (7, []), (8, []), (10, []), (4, []), (9, []), (11, []), (12, []), (13, [])]
      [[], [], [0, 1], [0, 1, 2], [0, 1, 2, 3], [], [], [5, 6], [5, 6, 7], [5, 6, 7, 8], [], [0, 1, 2, 3, 4, 5, 6, 7, 8, 9, 10], [], [0, 1, 2, 3, 4, 5, 6, 7, 8, 9, 10, 11, 12]]
      [1, 2, 4, 5, 6, 7, 8, 9])
    (.seq (.seq (.drawn [⟨some 43, none, .mov (.t 5)⟩,
      ⟨some 44, none, .mov (.t 8)⟩,
      ⟨some 45, none, .idxS 1 (.t 43) (.t 44)⟩,
      ⟨some 46, none, .load false 1 (.t 45)⟩,
      ⟨some 47, none, .mov (.t 1)⟩,
      ⟨some 48, none, .mov (.t 7)⟩,
      ⟨some 49, none, .idxS 2 (.t 47) (.t 48)⟩,
      ⟨some 50, none, .fieldAddr 1 (.t 49)⟩,
      ⟨some 51, none, .load false 1 (.t 50)⟩,
      ⟨some 52, none, .bin .geq (.t 46) (.t 51)⟩]
      [[], [], [0, 1], [2], [], [], [4, 5], [6], [7], [3, 8]]
      [(0, []), (1, []), (2, []), (4, []), (5, []), (6, []), (7, []), (3, []), (8, []), (9, [])]
      [[], [], [0, 1], [0, 1, 2], [], [], [4, 5], [4, 5, 6], [4, 5, 6, 7], [0, 1, 2, 3, 4, 5, 6, 7, 8]]
      [1, 2, 4, 5, 6, 7, 8, 9, 52])
    (.cond (.t 52)
      (.seq (.drawn [⟨some 53, none, .mov (.t 5)⟩,
        ⟨some 54, none, .mov (.t 8)⟩,
        ⟨some 55, none, .mov (.t 5)⟩,
        ⟨some 56, none, .mov (.t 8)⟩,
        ⟨some 57, none, .idxS 1 (.t 55) (.t 56)⟩,
        ⟨some 58, none, .load false 1 (.t 57)⟩,
        ⟨some 59, none, .mov (.t 1)⟩,
        ⟨some 60, none, .mov (.t 7)⟩,
        ⟨some 61, none, .idxS 2 (.t 59) (.t 60)⟩,
        ⟨some 62, none, .fieldAddr 1 (.t 61)⟩,
        ⟨some 63, none, .load false 1 (.t 62)⟩,
        ⟨some 64, none, .bin .sub (.t 58) (.t 63)⟩,
        ⟨some 65, none, .idxS 1 (.t 53) (.t 54)⟩,
        ⟨none, none, .store 1 (.t 65) (.t 64)⟩]
        [[], [], [], [], [2, 3], [4], [], [], [6, 7], [8], [9], [5, 10], [0, 1, 0, 1, 2, 3, 4, 5, 6, 7, 8, 9, 10, 11], [12, 11, 0, 1, 2, 3, 4, 5, 6, 7, 8, 9, 10, 11]]
        [(0, []), (1, []), (2, []), (3, []), (4, []), (6, []), (7, []), (8, []), (9, []), (5, []), (10, []), (11, []), (12, []), (13, [])]
        [[], [], [], [], [2, 3], [2, 3, 4], [], [], [6, 7], [6, 7, 8], [6, 7, 8, 9], [2, 3, 4, 5, 6, 7, 8, 9, 10], [0, 1, 2, 3, 4, 5, 6, 7, 8, 9, 10, 11], [0, 1, 2, 3, 4, 5, 6, 7, 8, 9, 10, 11, 12]]
        [1, 2, 4, 5, 6, 7, 9])
      (.seq (.region [⟨some 66, none, .load true 3 (.t 2)⟩,
        ⟨some 67, none, .load true 4 (.t 9)⟩,
        ⟨some 68, none, .call F.ref16_Put [.t 66, .t 67]⟩,
        ⟨none, none, .store 3 (.t 2) (.t 68)⟩]
        [1, 2, 4, 5, 6, 7])
      (.exit 1)))
      .skip))
    (.seq (.region [⟨some 69, none, .fieldAddr 2 (.t 9)⟩,
      ⟨none, none, .store 1 (.t 69) (.c (.int .i64 0))⟩]
      [1, 2, 4, 5, 6, 7, 8, 9])
    (.seq (.seq (.region [⟨some 10, none, .mov (.c (.int .i64 0))⟩]
      [1, 2, 4, 5, 6, 7, 8, 9, 10])
    (.block 4
      (.loop [1, 2, 4, 5, 6, 7, 8, 9, 10] RB.ref19_Split_2) [1, 2, 4, 5, 6, 7, 9]))
    (.region [⟨some 141, none, .load true 3 (.t 2)⟩,
      ⟨some 142, none, .load true 4 (.t 9)⟩,
      ⟨some 143, none, .call F.ref16_Put [.t 141, .t 142]⟩,
      ⟨none, none, .store 3 (.t 2) (.t 143)⟩]
      [1, 2, 4, 5, 6, 7]))))))) [1, 2, 4, 5, 6, 7])
  (.region [⟨some 18, none, .mov (.t 7)⟩,
    ⟨some 19, none, .bin .add (.t 18) (.c (.int .i64 1))⟩,
    ⟨some 7, none, .mov (.t 19)⟩]
    [1, 2, 4, 5, 6, 7])))
def RC.ref19_Split : RFn := ⟨2, [.cell 4 true 3],
  (.seq (.region [⟨some 2, none, .box (.t 0)⟩,
    ⟨some 4, none, .alloc [(.int .i64 0), (u32 0#32), (.slice none 0 0)]⟩]
    [1, 2, 4])
  (.seq (.region [⟨some 12, none, .load true 3 (.t 2)⟩,
    ⟨some 13, none, .call F.ref19_Rooms [.t 12]⟩,
    ⟨some 5, none, .mov (.t 13)⟩]
    [1, 2, 4, 5])
  (.seq (.region [⟨some 6, none, .mov (.c (.int .i64 0))⟩]
    [1, 2, 4, 5, 6])
  (.seq (.seq (.region [⟨some 7, none, .mov (.c (.int .i64 0))⟩]
    [1, 2, 4, 5, 6, 7])
  (.block 0
    (.loop [1, 2, 4, 5, 6, 7] RB.ref19_Split_4) [2, 4]))
  (.seq (.region [⟨some 144, none, .load true 3 (.t 2)⟩,
    ⟨none, none, .store 3 (.t 4) (.t 144)⟩]
    [4])
  .ret)))))⟩

def RB.ref16_Find_1 : RCode :=
  (.seq (.seq (.region [⟨some 7, none, .mov (.t 6)⟩,
    ⟨some 8, none, .fieldAddr 2 (.t 2)⟩,
    ⟨some 9, none, .load false 1 (.t 8)⟩,
    ⟨some 10, none, .len (.t 9)⟩,
    ⟨some 11, none, .bin .lss (.t 7) (.t 10)⟩]
    [1, 2, 4, 6, 11])
  (.cond (.t 11)
    .skip
    (.exit 0)))
  (.seq (.block 1
    (.seq (.region [⟨some 14, none, .fieldAddr 2 (.t 2)⟩,
      ⟨some 15, none, .load false 1 (.t 14)⟩,
      ⟨some 16, none, .mov (.t 6)⟩,
      ⟨some 17, none, .idxS 4 (.t 15) (.t 16)⟩,
      ⟨some 18, none, .fieldAddr 0 (.t 17)⟩,
      ⟨some 19, none, .load false 1 (.t 18)⟩,
      ⟨some 20, none, .mov (.t 1)⟩,
      ⟨some 21, none, .bin .eql (.t 19) (.t 20)⟩]
      [1, 2, 4, 6, 21])
    (.cond (.t 21)
      (.seq (.region [⟨some 22, none, .fieldAddr 2 (.t 2)⟩,
        ⟨some 23, none, .load false 1 (.t 22)⟩,
        ⟨some 24, none, .mov (.t 6)⟩,
        ⟨some 25, none, .idxS 4 (.t 23) (.t 24)⟩,
        ⟨some 26, none, .load true 4 (.t 25)⟩,
        ⟨none, none, .store 4 (.t 4) (.t 26)⟩,
        ⟨some 5, none, .mov (.c (.bool true))⟩]
        [4, 5])
      .ret)
      .skip)) [1, 2, 4, 6])
  (.region [⟨some 12, none, .mov (.t 6)⟩,
    ⟨some 13, none, .bin .add (.t 12) (.c (.int .i64 1))⟩,
    ⟨some 6, none, .mov (.t 13)⟩]
    [1, 2, 4, 6])))
def RC.ref16_Find : RFn := ⟨2, [.cell 4 true 4, .slot 5],
  (.seq (.region [⟨some 2, none, .box (.t 0)⟩,
    ⟨some 4, none, .alloc [(.int .i64 0), (.int .i64 0), (.int .i64 0), (.slice none 0 0)]⟩,
    ⟨some 5, none, .mov (.c (.bool false))⟩]
    [1, 2, 4])
  (.seq (.seq (.region [⟨some 6, none, .mov (.c (.int .i64 0))⟩]
    [1, 2, 4, 6])
  (.block 0
    (.loop [1, 2, 4, 6] RB.ref16_Find_1) [4]))
  (.seq (.region [⟨some 27, none, .build [(.int .i64 0), (.int .i64 0), (.int .i64 0), (.slice none 0 0)] []⟩,
    ⟨none, none, .store 4 (.t 4) (.t 27)⟩,
    ⟨some 5, none, .mov (.c (.bool false))⟩]
    [4, 5])
  .ret)))⟩

def RB.ref16_SamePlace_1 : RCode :=
  (.seq (.seq (.region [⟨some 34, none, .mov (.t 5)⟩,
    ⟨some 35, none, .fieldAddr 3 (.t 2)⟩,
    ⟨some 36, none, .load false 1 (.t 35)⟩,
    ⟨some 37, none, .len (.t 36)⟩,
    ⟨some 38, none, .bin .lss (.t 34) (.t 37)⟩]
    [2, 3, 5, 38])
  (.cond (.t 38)
    .skip
    (.exit 0)))
  (.seq (.block 1
    (.seq (.drawn [⟨some 41, none, .fieldAddr 3 (.t 2)⟩,
      ⟨some 42, none, .load false 1 (.t 41)⟩,
      ⟨some 43, none, .mov (.t 5)⟩,
      ⟨some 44, none, .idxS 2 (.t 42) (.t 43)⟩,
      ⟨some 45, none, .load true 2 (.t 44)⟩,
      ⟨some 46, none, .fieldAddr 3 (.t 3)⟩,
      ⟨some 47, none, .load false 1 (.t 46)⟩,
      ⟨some 48, none, .mov (.t 5)⟩,
      ⟨some 49, none, .idxS 2 (.t 47) (.t 48)⟩,
      ⟨some 50, none, .load true 2 (.t 49)⟩,
      ⟨some 51, none, .eq true (.flat [.int, .int]) (.t 45) (.t 50)⟩]
      [[], [0], [], [1, 2], [3], [], [5], [], [6, 7], [8], [4, 9]]
      [(0, []), (2, []), (5, []), (7, []), (1, []), (3, []), (4, []), (6, []), (8, []), (9, []), (10, [])]
      [[], [0], [], [0, 1, 2], [0, 1, 2, 3], [], [5], [], [5, 6, 7], [5, 6, 7, 8], [0, 1, 2, 3, 4, 5, 6, 7, 8, 9]]
      [2, 3, 5, 51])
    (.cond (.t 51)
      (.seq (.region [⟨some 4, none, .mov (.c (.bool false))⟩]
        [4])
      .ret)
      .skip)) [2, 3, 5])
  (.region [⟨some 39, none, .mov (.t 5)⟩,
    ⟨some 40, none, .bin .add (.t 39) (.c (.int .i64 1))⟩,
    ⟨some 5, none, .mov (.t 40)⟩]
    [2, 3, 5])))
def RC.ref16_SamePlace : RFn := ⟨2, [.slot 4],
  (.seq (.region [⟨some 2, none, .box (.t 0)⟩,
    ⟨some 3, none, .box (.t 1)⟩,
    ⟨some 4, none, .mov (.c (.bool false))⟩]
    [2, 3])
  (.seq (.seq (.region [⟨some 6, none, .fieldAddr 0 (.t 2)⟩,
    ⟨some 7, none, .load false 1 (.t 6)⟩,
    ⟨some 8, none, .fieldAddr 0 (.t 3)⟩,
    ⟨some 9, none, .load false 1 (.t 8)⟩,
    ⟨some 10, none, .bin .neq (.t 7) (.t 9)⟩,
    ⟨some 11, none, .mov (.t 10)⟩,
    ⟨some 12, some (11, false), .fieldAddr 1 (.t 2)⟩,
    ⟨some 13, some (11, false), .load false 1 (.t 12)⟩,
    ⟨some 14, some (11, false), .fieldAddr 1 (.t 3)⟩,
    ⟨some 15, some (11, false), .load false 1 (.t 14)⟩,
    ⟨some 16, some (11, false), .bin .neq (.t 13) (.t 15)⟩,
    ⟨some 17, none, .pick (.t 11) (.c (.bool true)) (.t 16)⟩,
    ⟨some 18, none, .mov (.t 17)⟩,
    ⟨some 19, some (18, false), .fieldAddr 2 (.t 2)⟩,
    ⟨some 20, some (18, false), .load false 1 (.t 19)⟩,
    ⟨some 21, some (18, false), .fieldAddr 2 (.t 3)⟩,
    ⟨some 22, some (18, false), .load false 1 (.t 21)⟩,
    ⟨some 23, some (18, false), .bin .neq (.t 20) (.t 22)⟩,
    ⟨some 24, none, .pick (.t 18) (.c (.bool true)) (.t 23)⟩,
    ⟨some 25, none, .mov (.t 24)⟩,
    ⟨some 26, some (25, false), .fieldAddr 3 (.t 2)⟩,
    ⟨some 27, some (25, false), .load false 1 (.t 26)⟩,
    ⟨some 28, some (25, false), .len (.t 27)⟩,
    ⟨some 29, some (25, false), .fieldAddr 3 (.t 3)⟩,
    ⟨some 30, some (25, false), .load false 1 (.t 29)⟩,
    ⟨some 31, some (25, false), .len (.t 30)⟩,
    ⟨some 32, some (25, false), .bin .neq (.t 28) (.t 31)⟩,
    ⟨some 33, none, .pick (.t 25) (.c (.bool true)) (.t 32)⟩]
    [2, 3, 33])
  (.cond (.t 33)
    (.seq (.region [⟨some 4, none, .mov (.c (.bool false))⟩]
      [4])
    .ret)
    .skip))
  (.seq (.seq (.region [⟨some 5, none, .mov (.c (.int .i64 0))⟩]
    [2, 3, 5])
  (.block 0
    (.loop [2, 3, 5] RB.ref16_SamePlace_1) []))
  (.seq (.region [⟨some 4, none, .mov (.c (.bool true))⟩]
    [4])
  .ret))))⟩

def RB.ref16_Splits_1 : RCode :=
  (.seq (.seq (.region [⟨some 5, none, .mov (.t 4)⟩,
    ⟨some 6, none, .fieldAddr 2 (.t 1)⟩,
    ⟨some 7, none, .load false 1 (.t 6)⟩,
    ⟨some 8, none, .len (.t 7)⟩,
    ⟨some 9, none, .bin .lss (.t 5) (.t 8)⟩]
    [1, 3, 4, 9])
  (.cond (.t 9)
    .skip
    (.exit 0)))
  (.seq (.block 1
    (.seq (.region [⟨some 12, none, .fieldAddr 2 (.t 1)⟩,
      ⟨some 13, none, .load false 1 (.t 12)⟩,
      ⟨some 14, none, .mov (.t 4)⟩,
      ⟨some 15, none, .idxS 4 (.t 13) (.t 14)⟩,
      ⟨some 16, none, .fieldAddr 3 (.t 15)⟩,
      ⟨some 17, none, .load false 1 (.t 16)⟩,
      ⟨some 18, none, .len (.t 17)⟩,
      ⟨some 19, none, .bin .gtr (.t 18) (.c (.int .i64 0))⟩]
      [1, 3, 4, 19])
    (.cond (.t 19)
      (.region [⟨some 20, none, .mov (.t 3)⟩,
        ⟨some 21, none, .bin .add (.t 20) (.c (.int .i64 1))⟩,
        ⟨some 3, none, .mov (.t 21)⟩]
        [1, 3, 4])
      .skip)) [1, 3, 4])
  (.region [⟨some 10, none, .mov (.t 4)⟩,
    ⟨some 11, none, .bin .add (.t 10) (.c (.int .i64 1))⟩,
    ⟨some 4, none, .mov (.t 11)⟩]
    [1, 3, 4])))
def RC.ref16_Splits : RFn := ⟨1, [.slot 2],
  (.seq (.region [⟨some 1, none, .box (.t 0)⟩,
    ⟨some 2, none, .mov (.c (.int .i64 0))⟩]
    [1])
  (.seq (.region [⟨some 3, none, .mov (.c (.int .i64 0))⟩]
    [1, 3])
  (.seq (.seq (.region [⟨some 4, none, .mov (.c (.int .i64 0))⟩]
    [1, 3, 4])
  (.block 0
    (.loop [1, 3, 4] RB.ref16_Splits_1) [3]))
  (.seq (.region [⟨some 22, none, .mov (.t 3)⟩,
    ⟨some 2, none, .mov (.t 22)⟩]
    [2])
  .ret))))⟩

def RB.ref16_Cores_1 : RCode :=
  (.seq (.seq (.region [⟨some 6, none, .mov (.t 4)⟩,
    ⟨some 7, none, .bin .lss (.t 6) (.c (.int .i64 16))⟩]
    [1, 3, 4, 7])
  (.cond (.t 7)
    .skip
    (.exit 0)))
  (.seq (.block 1
    (.seq (.region [⟨some 10, none, .load true 3 (.t 1)⟩,
      ⟨some 11, none, .mov (.t 4)⟩,
      ⟨some 12, none, .call F.ref16_Has [.t 10, .t 11]⟩]
      [1, 3, 4, 12])
    (.cond (.t 12)
      (.region [⟨some 13, none, .mov (.t 3)⟩,
        ⟨some 14, none, .mov (.t 4)⟩,
        ⟨some 15, none, .bslice [(.int .i64 0)] [(0, 1, .t 14)] 1 1⟩,
        ⟨some 16, none, .app 1 8 (.t 13) (.t 15)⟩,
        ⟨some 3, none, .mov (.t 16)⟩]
        [1, 3, 4])
      .skip)) [1, 3, 4])
  (.region [⟨some 8, none, .mov (.t 4)⟩,
    ⟨some 9, none, .bin .add (.t 8) (.c (.int .i64 1))⟩,
    ⟨some 4, none, .mov (.t 9)⟩]
    [1, 3, 4])))
def RC.ref16_Cores : RFn := ⟨1, [.slot 2],
  (.seq (.region [⟨some 1, none, .box (.t 0)⟩,
    ⟨some 2, none, .mov (.c (.slice none 0 0))⟩]
    [1])
  (.seq (.region [⟨some 5, none, .bslice [] [] 0 1⟩,
    ⟨some 3, none, .mov (.t 5)⟩]
    [1, 3])
  (.seq (.seq (.region [⟨some 4, none, .mov (.c (.int .i64 0))⟩]
    [1, 3, 4])
  (.block 0
    (.loop [1, 3, 4] RB.ref16_Cores_1) [3]))
  (.seq (.region [⟨some 17, none, .mov (.t 3)⟩,
    ⟨some 2, none, .mov (.t 17)⟩]
    [2])
  .ret))))⟩

def RC.ref16_Room : RFn := ⟨2, [.slot 4],
  (.seq (.region [⟨some 2, none, .box (.t 0)⟩,
    ⟨some 4, none, .mov (.c (.int .i64 0))⟩]
    [1, 2])
  (.seq (.seq (.region [⟨some 5, none, .load true 3 (.t 2)⟩,
    ⟨some 6, none, .mov (.t 1)⟩,
    ⟨some 7, none, .call F.ref16_Has [.t 5, .t 6]⟩,
    ⟨some 8, none, .un .not (.t 7)⟩]
    [1, 2, 8])
  (.cond (.t 8)
    (.seq (.region [⟨some 4, none, .mov (.c (.int .i64 0))⟩]
      [4])
    .ret)
    .skip))
  (.seq (.drawn [⟨some 9, none, .fieldAddr 0 (.t 2)⟩,
    ⟨some 10, none, .load false 1 (.t 9)⟩,
    ⟨some 11, none, .load true 3 (.t 2)⟩,
    ⟨some 12, none, .mov (.t 1)⟩,
    ⟨some 13, none, .call F.ref16_Load [.t 11, .t 12]⟩,
    ⟨some 14, none, .bin .sub (.t 10) (.t 13)⟩,
    ⟨some 4, none, .mov (.t 14)⟩]
    [[], [0], [], [], [2, 3], [1, 4], [5, 4, 0, 1, 2, 3, 4, 5]]
    [(0, []), (3, []), (1, []), (2, []), (4, [9]), (5, []), (6, [])]
    [[], [0], [], [], [2, 3], [0, 1, 2, 3, 4], [0, 1, 2, 3, 4, 5]]
    [4])
  .ret)))⟩

def RB.plan_Check_1 : RCode :=
  (.seq (.region [⟨some 70, none, .bin .lss (.t 69) (.t 68)⟩]
    [1, 67, 68, 69, 70])
  (.seq (.cond (.t 70)
    .skip
    (.exit 2))
  (.seq (.block 3
    (.seq (.region [⟨some 71, none, .idxS 1 (.t 67) (.t 69)⟩,
      ⟨some 72, none, .load false 1 (.t 71)⟩,
      ⟨some 6, none, .mov (.t 72)⟩]
      [1, 6, 67, 68, 69])
    (.seq (.region [⟨some 73, none, .load true 3 (.t 1)⟩,
      ⟨some 74, none, .mov (.t 6)⟩,
      ⟨some 75, none, .call F.plan_left [.t 73, .t 74]⟩,
      ⟨some 76, none, .bin .lss (.t 75) (.c (.int .i64 0))⟩]
      [1, 67, 68, 69, 76])
    (.cond (.t 76)
      (.seq (.region [⟨some 2, none, .mov (.c (.int .i64 30))⟩]
        [2])
      .ret)
      .skip))) [1, 67, 68, 69])
  (.region [⟨some 77, none, .bin .add (.t 69) (.c (.int .i64 1))⟩,
    ⟨some 69, none, .mov (.t 77)⟩]
    [1, 67, 68, 69]))))
def RB.plan_Check_2 : RCode :=
  (.seq (.region [⟨some 30, none, .bin .lss (.t 29) (.t 28)⟩]
    [1, 27, 28, 29, 30])
  (.seq (.cond (.t 30)
    .skip
    (.exit 0))
  (.seq (.block 1
    (.seq (.region [⟨some 31, none, .mov (.t 29)⟩,
      ⟨some 32, none, .idxS 4 (.t 27) (.t 29)⟩,
      ⟨some 33, none, .load true 4 (.t 32)⟩,
      ⟨some 4, none, .alloc [(.int .i64 0), (.int .i64 0), (.int .i64 0), (.slice none 0 0)]⟩,
      ⟨some 3, none, .mov (.t 31)⟩,
      ⟨none, none, .store 4 (.t 4) (.t 33)⟩]
      [1, 3, 4, 27, 28, 29])
    (.seq (.drawn [⟨some 34, none, .load true 3 (.t 1)⟩,
      ⟨some 35, none, .load true 4 (.t 4)⟩,
      ⟨some 36, none, .call F.plan_place [.t 34, .t 35]⟩,
      ⟨some 37, none, .un .not (.t 36)⟩,
      ⟨some 38, none, .mov (.t 37)⟩,
      ⟨some 39, some (38, false), .mov (.t 3)⟩,
      ⟨some 40, some (38, false), .bin .gtr (.t 39) (.c (.int .i64 0))⟩,
      ⟨some 41, some (38, false), .mov (.t 40)⟩,
      ⟨some 42, some (41, true), .fieldAddr 2 (.t 1)⟩,
      ⟨some 43, some (41, true), .load false 1 (.t 42)⟩,
      ⟨some 44, some (41, true), .mov (.t 3)⟩,
      ⟨some 45, some (41, true), .bin .sub (.t 44) (.c (.int .i64 1))⟩,
      ⟨some 46, some (41, true), .idxS 4 (.t 43) (.t 45)⟩,
      ⟨some 47, some (41, true), .fieldAddr 0 (.t 46)⟩,
      ⟨some 48, some (41, true), .load false 1 (.t 47)⟩,
      ⟨some 49, some (41, true), .fieldAddr 0 (.t 4)⟩,
      ⟨some 50, some (41, true), .load false 1 (.t 49)⟩,
      ⟨some 51, some (41, true), .bin .geq (.t 48) (.t 50)⟩,
      ⟨some 52, some (38, false), .pick (.t 41) (.t 51) (.c (.bool false))⟩,
      ⟨some 53, none, .pick (.t 38) (.c (.bool true)) (.t 52)⟩]
      [[], [], [0, 1], [2], [3, 2], [4], [5, 4], [6, 4, 4], [7], [8, 7], [7], [10, 7], [9, 11, 7], [12, 7], [13, 7], [7], [15, 7], [14, 16, 7], [7, 17, 4], [4, 18]]
      [(0, []), (1, []), (2, []), (3, []), (4, []), (5, []), (6, []), (7, []), (8, []), (10, []), (11, []), (15, []), (9, []), (12, []), (13, []), (14, []), (16, []), (17, []), (18, []), (19, [])]
      [[], [], [0, 1], [0, 1, 2], [0, 1, 2, 3], [0, 1, 2, 3, 4], [0, 1, 2, 3, 4, 5], [0, 1, 2, 3, 4, 5, 6], [0, 1, 2, 3, 4, 5, 6, 7], [0, 1, 2, 3, 4, 5, 6, 7, 8], [0, 1, 2, 3, 4, 5, 6, 7], [0, 1, 2, 3, 4, 5, 6, 7, 10], [0, 1, 2, 3, 4, 5, 6, 7, 8, 9, 10, 11], [0, 1, 2, 3, 4, 5, 6, 7, 8, 9, 10, 11, 12], [0, 1, 2, 3, 4, 5, 6, 7, 8, 9, 10, 11, 12, 13], [0, 1, 2, 3, 4, 5, 6, 7], [0, 1, 2, 3, 4, 5, 6, 7, 15], [0, 1, 2, 3, 4, 5, 6, 7, 8, 9, 10, 11, 12, 13, 14, 15, 16], [0, 1, 2, 3, 4, 5, 6, 7, 8, 9, 10, 11, 12, 13, 14, 15, 16, 17], [0, 1, 2, 3, 4, 5, 6, 7, 8, 9, 10, 11, 12, 13, 14, 15, 16, 17, 18]]
      [1, 27, 28, 29, 53])
    (.cond (.t 53)
      (.seq (.region [⟨some 2, none, .mov (.c (.int .i64 30))⟩]
        [2])
      .ret)
      .skip))) [1, 27, 28, 29])
  (.region [⟨some 54, none, .bin .add (.t 29) (.c (.int .i64 1))⟩,
    ⟨some 29, none, .mov (.t 54)⟩]
    [1, 27, 28, 29]))))
def RC.plan_Check : RFn := ⟨1, [.slot 2],
  (.seq (.region [⟨some 1, none, .box (.t 0)⟩,
    ⟨some 2, none, .mov (.c (.int .i64 0))⟩]
    [1])
  (.seq (.seq (.region [⟨some 7, none, .fieldAddr 0 (.t 1)⟩,
    ⟨some 8, none, .load false 1 (.t 7)⟩,
    ⟨some 9, none, .bin .lss (.t 8) (.c (.int .i64 2))⟩,
    ⟨some 10, none, .mov (.t 9)⟩,
    ⟨some 11, some (10, false), .fieldAddr 0 (.t 1)⟩,
    ⟨some 12, some (10, false), .load false 1 (.t 11)⟩,
    ⟨some 13, some (10, false), .bin .gtr (.t 12) (.c (.int .i64 64))⟩,
    ⟨some 14, none, .pick (.t 10) (.c (.bool true)) (.t 13)⟩,
    ⟨some 15, none, .mov (.t 14)⟩,
    ⟨some 16, some (15, false), .fieldAddr 1 (.t 1)⟩,
    ⟨some 17, some (15, false), .load false 1 (.t 16)⟩,
    ⟨some 18, some (15, false), .bin .eql (.t 17) (.c (u32 0#32))⟩,
    ⟨some 19, none, .pick (.t 15) (.c (.bool true)) (.t 18)⟩,
    ⟨some 20, none, .mov (.t 19)⟩,
    ⟨some 21, some (20, false), .fieldAddr 1 (.t 1)⟩,
    ⟨some 22, some (20, false), .load false 1 (.t 21)⟩,
    ⟨some 23, some (20, false), .bin .shr (.t 22) (.c (u64 16#64))⟩,
    ⟨some 24, some (20, false), .bin .neq (.t 23) (.c (u32 0#32))⟩,
    ⟨some 25, none, .pick (.t 20) (.c (.bool true)) (.t 24)⟩]
    [1, 25])
  (.cond (.t 25)
    (.seq (.region [⟨some 2, none, .mov (.c (.int .i64 30))⟩]
      [2])
    .ret)
    .skip))
  (.seq (.seq (.region [⟨some 26, none, .fieldAddr 2 (.t 1)⟩,
    ⟨some 27, none, .load false 1 (.t 26)⟩,
    ⟨some 28, none, .len (.t 27)⟩,
    ⟨some 29, none, .mov (.c (.int .i64 0))⟩]
    [1, 27, 28, 29])
  (.block 0
    (.loop [1, 27, 28, 29] RB.plan_Check_2) [1]))
  (.seq (.seq (.drawn [⟨some 55, none, .load true 3 (.t 1)⟩,
    ⟨some 56, none, .call F.plan_apart [.t 55]⟩,
    ⟨some 57, none, .un .not (.t 56)⟩,
    ⟨some 58, none, .mov (.t 57)⟩,
    ⟨some 59, some (58, false), .load true 3 (.t 1)⟩,
    ⟨some 60, some (58, false), .call F.plan_Splits [.t 59]⟩,
    ⟨some 61, some (58, false), .load true 3 (.t 1)⟩,
    ⟨some 62, some (58, false), .call F.plan_Cores [.t 61]⟩,
    ⟨some 63, some (58, false), .len (.t 62)⟩,
    ⟨some 64, some (58, false), .bin .geq (.t 60) (.t 63)⟩,
    ⟨some 65, none, .pick (.t 58) (.c (.bool true)) (.t 64)⟩]
    [[], [0], [1], [2, 1], [3], [4, 3, 3], [3], [6, 5, 3], [7, 3], [5, 8, 3], [3, 9]]
    [(0, []), (1, []), (2, []), (3, []), (4, []), (6, []), (5, [1]), (7, []), (8, []), (9, []), (10, [])]
    [[], [0], [0, 1], [0, 1, 2], [0, 1, 2, 3], [0, 1, 2, 3, 4], [0, 1, 2, 3], [0, 1, 2, 3, 4, 5, 6], [0, 1, 2, 3, 4, 5, 6, 7], [0, 1, 2, 3, 4, 5, 6, 7, 8], [0, 1, 2, 3, 4, 5, 6, 7, 8, 9]]
    [1, 65])
  (.cond (.t 65)
    (.seq (.region [⟨some 2, none, .mov (.c (.int .i64 30))⟩]
      [2])
    .ret)
    .skip))
  (.seq (.seq (.region [⟨some 66, none, .load true 3 (.t 1)⟩,
    ⟨some 67, none, .call F.plan_Cores [.t 66]⟩,
    ⟨some 68, none, .len (.t 67)⟩,
    ⟨some 69, none, .mov (.c (.int .i64 0))⟩]
    [1, 67, 68, 69])
  (.block 2
    (.loop [1, 67, 68, 69] RB.plan_Check_1) []))
  (.seq (.region [⟨some 2, none, .mov (.c (.int .i64 0))⟩]
    [2])
  .ret))))))⟩

def RB.plan_Cores_1 : RCode :=
  (.seq (.region [⟨some 6, none, .bin .lss (.t 5) (.c (.int .i64 16))⟩]
    [1, 3, 5, 6])
  (.seq (.cond (.t 6)
    .skip
    (.exit 0))
  (.seq (.block 1
    (.seq (.region [⟨some 7, none, .mov (.t 5)⟩,
      ⟨some 4, none, .mov (.t 7)⟩]
      [1, 3, 4, 5])
    (.seq (.region [⟨some 8, none, .load true 3 (.t 1)⟩,
      ⟨some 9, none, .mov (.t 4)⟩,
      ⟨some 10, none, .call F.plan_has [.t 8, .t 9]⟩]
      [1, 3, 4, 5, 10])
    (.cond (.t 10)
      (.region [⟨some 11, none, .mov (.t 3)⟩,
        ⟨some 12, none, .mov (.t 4)⟩,
        ⟨some 13, none, .bslice [(.int .i64 0)] [(0, 1, .t 12)] 1 1⟩,
        ⟨some 14, none, .app 1 8 (.t 11) (.t 13)⟩,
        ⟨some 3, none, .mov (.t 14)⟩]
        [1, 3, 5])
      .skip))) [1, 3, 5])
  (.region [⟨some 15, none, .bin .add (.t 5) (.c (.int .i64 1))⟩,
    ⟨some 5, none, .mov (.t 15)⟩]
    [1, 3, 5]))))
def RC.plan_Cores : RFn := ⟨1, [.slot 2],
  (.seq (.region [⟨some 1, none, .box (.t 0)⟩,
    ⟨some 2, none, .mov (.c (.slice none 0 0))⟩]
    [1])
  (.seq (.region [⟨some 3, none, .mov (.c (.slice none 0 0))⟩]
    [1, 3])
  (.seq (.seq (.region [⟨some 5, none, .mov (.c (.int .i64 0))⟩]
    [1, 3, 5])
  (.block 0
    (.loop [1, 3, 5] RB.plan_Cores_1) [3]))
  (.seq (.region [⟨some 16, none, .mov (.t 3)⟩,
    ⟨some 2, none, .mov (.t 16)⟩]
    [2])
  .ret))))⟩

def RC.plan_Room : RFn := ⟨2, [.slot 4],
  (.seq (.region [⟨some 2, none, .box (.t 0)⟩,
    ⟨some 4, none, .mov (.c (.int .i64 0))⟩]
    [1, 2])
  (.seq (.seq (.region [⟨some 5, none, .load true 3 (.t 2)⟩,
    ⟨some 6, none, .mov (.t 1)⟩,
    ⟨some 7, none, .call F.plan_has [.t 5, .t 6]⟩,
    ⟨some 8, none, .un .not (.t 7)⟩]
    [1, 2, 8])
  (.cond (.t 8)
    (.seq (.region [⟨some 4, none, .mov (.c (.int .i64 0))⟩]
      [4])
    .ret)
    .skip))
  (.seq (.region [⟨some 9, none, .load true 3 (.t 2)⟩,
    ⟨some 10, none, .mov (.t 1)⟩,
    ⟨some 11, none, .call F.plan_left [.t 9, .t 10]⟩,
    ⟨some 12, none, .minmax true [.c (.int .i64 0), .t 11]⟩,
    ⟨some 4, none, .mov (.t 12)⟩]
    [4])
  .ret)))⟩

def RB.ref16_place_1 : RCode :=
  (.seq (.seq (.region [⟨some 72, none, .mov (.t 8)⟩,
    ⟨some 73, none, .bin .lss (.t 72) (.c (.int .i64 64))⟩]
    [2, 3, 7, 8, 73])
  (.cond (.t 73)
    .skip
    (.exit 2)))
  (.seq (.block 3
    (.seq (.region [⟨some 76, none, .load true 4 (.t 3)⟩,
      ⟨some 77, none, .mov (.t 8)⟩,
      ⟨some 78, none, .call F.ref16_At [.t 76, .c (.int .i64 (-1)), .t 77]⟩,
      ⟨some 9, none, .mov (.t 78)⟩]
      [2, 3, 7, 8, 9])
    (.seq (.seq (.region [⟨some 79, none, .mov (.t 9)⟩,
      ⟨some 80, none, .bin .gtr (.t 79) (.c (.int .i64 1))⟩,
      ⟨some 81, none, .mov (.t 80)⟩,
      ⟨some 82, some (81, false), .mov (.t 9)⟩,
      ⟨some 83, some (81, false), .bin .gtr (.t 82) (.c (.int .i64 0))⟩,
      ⟨some 84, some (81, false), .mov (.t 83)⟩,
      ⟨some 85, some (84, true), .mov (.t 8)⟩,
      ⟨some 86, some (84, true), .fieldAddr 0 (.t 2)⟩,
      ⟨some 87, some (84, true), .load false 1 (.t 86)⟩,
      ⟨some 88, some (84, true), .bin .geq (.t 85) (.t 87)⟩,
      ⟨some 89, some (81, false), .pick (.t 84) (.t 88) (.c (.bool false))⟩,
      ⟨some 90, none, .pick (.t 81) (.c (.bool true)) (.t 89)⟩]
      [2, 3, 7, 8, 9, 90])
    (.cond (.t 90)
      (.seq (.region [⟨some 4, none, .mov (.c (.bool false))⟩]
        [4])
      .ret)
      .skip))
    (.region [⟨some 91, none, .mov (.t 7)⟩,
      ⟨some 92, none, .mov (.t 9)⟩,
      ⟨some 93, none, .bin .add (.t 91) (.t 92)⟩,
      ⟨some 7, none, .mov (.t 93)⟩]
      [2, 3, 7, 8]))) [2, 3, 7, 8])
  (.region [⟨some 74, none, .mov (.t 8)⟩,
    ⟨some 75, none, .bin .add (.t 74) (.c (.int .i64 1))⟩,
    ⟨some 8, none, .mov (.t 75)⟩]
    [2, 3, 7, 8])))
def RB.ref16_place_2 : RCode :=
  (.seq (.seq (.region [⟨some 34, none, .mov (.t 5)⟩,
    ⟨some 35, none, .fieldAddr 3 (.t 3)⟩,
    ⟨some 36, none, .load false 1 (.t 35)⟩,
    ⟨some 37, none, .len (.t 36)⟩,
    ⟨some 38, none, .bin .lss (.t 34) (.t 37)⟩]
    [2, 3, 5, 38])
  (.cond (.t 38)
    .skip
    (.exit 0)))
  (.seq (.block 1
    (.seq (.region [⟨some 41, none, .fieldAddr 3 (.t 3)⟩,
      ⟨some 42, none, .load false 1 (.t 41)⟩,
      ⟨some 43, none, .mov (.t 5)⟩,
      ⟨some 44, none, .idxS 2 (.t 42) (.t 43)⟩,
      ⟨some 45, none, .load true 2 (.t 44)⟩,
      ⟨some 6, none, .alloc [(.int .i64 0), (u64 0#64)]⟩,
      ⟨none, none, .store 2 (.t 6) (.t 45)⟩]
      [2, 3, 5, 6])
    (.seq (.drawn [⟨some 46, none, .load true 3 (.t 2)⟩,
      ⟨some 47, none, .fieldAddr 0 (.t 6)⟩,
      ⟨some 48, none, .load false 1 (.t 47)⟩,
      ⟨some 49, none, .call F.ref16_Has [.t 46, .t 48]⟩,
      ⟨some 50, none, .un .not (.t 49)⟩,
      ⟨some 51, none, .mov (.t 50)⟩,
      ⟨some 52, some (51, false), .mov (.t 5)⟩,
      ⟨some 53, some (51, false), .bin .gtr (.t 52) (.c (.int .i64 0))⟩,
      ⟨some 54, some (51, false), .mov (.t 53)⟩,
      ⟨some 55, some (54, true), .fieldAddr 0 (.t 6)⟩,
      ⟨some 56, some (54, true), .load false 1 (.t 55)⟩,
      ⟨some 57, some (54, true), .fieldAddr 3 (.t 3)⟩,
      ⟨some 58, some (54, true), .load false 1 (.t 57)⟩,
      ⟨some 59, some (54, true), .mov (.t 5)⟩,
      ⟨some 60, some (54, true), .bin .sub (.t 59) (.c (.int .i64 1))⟩,
      ⟨some 61, some (54, true), .idxS 2 (.t 58) (.t 60)⟩,
      ⟨some 62, some (54, true), .fieldAddr 0 (.t 61)⟩,
      ⟨some 63, some (54, true), .load false 1 (.t 62)⟩,
      ⟨some 64, some (54, true), .bin .leq (.t 56) (.t 63)⟩,
      ⟨some 65, some (51, false), .pick (.t 54) (.t 64) (.c (.bool false))⟩,
      ⟨some 66, none, .pick (.t 51) (.c (.bool true)) (.t 65)⟩,
      ⟨some 67, none, .mov (.t 66)⟩,
      ⟨some 68, some (67, false), .fieldAddr 1 (.t 6)⟩,
      ⟨some 69, some (67, false), .load false 1 (.t 68)⟩,
      ⟨some 70, some (67, false), .bin .eql (.t 69) (.c (u64 0#64))⟩,
      ⟨some 71, none, .pick (.t 67) (.c (.bool true)) (.t 70)⟩]
      [[], [], [1], [0, 2], [3], [4, 3], [5], [6, 5], [7, 5, 5], [8], [9, 8], [8], [11, 8], [8], [13, 8], [12, 14, 8], [15, 8], [16, 8], [10, 17, 8], [8, 18, 5], [5, 19], [20, 8], [21], [22, 21], [23, 21], [21, 24]]
      [(1, []), (0, []), (2, []), (3, []), (4, []), (5, []), (6, []), (7, []), (8, []), (9, []), (11, []), (13, []), (14, []), (10, []), (12, []), (15, []), (16, []), (17, []), (18, []), (19, []), (20, []), (21, []), (22, []), (23, []), (24, []), (25, [])]
      [[], [], [1], [0, 1, 2], [0, 1, 2, 3], [0, 1, 2, 3, 4], [0, 1, 2, 3, 4, 5], [0, 1, 2, 3, 4, 5, 6], [0, 1, 2, 3, 4, 5, 6, 7], [0, 1, 2, 3, 4, 5, 6, 7, 8], [0, 1, 2, 3, 4, 5, 6, 7, 8, 9], [0, 1, 2, 3, 4, 5, 6, 7, 8], [0, 1, 2, 3, 4, 5, 6, 7, 8, 11], [0, 1, 2, 3, 4, 5, 6, 7, 8], [0, 1, 2, 3, 4, 5, 6, 7, 8, 13], [0, 1, 2, 3, 4, 5, 6, 7, 8, 11, 12, 13, 14], [0, 1, 2, 3, 4, 5, 6, 7, 8, 11, 12, 13, 14, 15], [0, 1, 2, 3, 4, 5, 6, 7, 8, 11, 12, 13, 14, 15, 16], [0, 1, 2, 3, 4, 5, 6, 7, 8, 9, 10, 11, 12, 13, 14, 15, 16, 17], [0, 1, 2, 3, 4, 5, 6, 7, 8, 9, 10, 11, 12, 13, 14, 15, 16, 17, 18], [0, 1, 2, 3, 4, 5, 6, 7, 8, 9, 10, 11, 12, 13, 14, 15, 16, 17, 18, 19], [0, 1, 2, 3, 4, 5, 6, 7, 8, 9, 10, 11, 12, 13, 14, 15, 16, 17, 18, 19, 20], [0, 1, 2, 3, 4, 5, 6, 7, 8, 9, 10, 11, 12, 13, 14, 15, 16, 17, 18, 19, 20, 21], [0, 1, 2, 3, 4, 5, 6, 7, 8, 9, 10, 11, 12, 13, 14, 15, 16, 17, 18, 19, 20, 21, 22], [0, 1, 2, 3, 4, 5, 6, 7, 8, 9, 10, 11, 12, 13, 14, 15, 16, 17, 18, 19, 20, 21, 22, 23], [0, 1, 2, 3, 4, 5, 6, 7, 8, 9, 10, 11, 12, 13, 14, 15, 16, 17, 18, 19, 20, 21, 22, 23, 24]]
      [2, 3, 5, 71])
    (.cond (.t 71)
      (.seq (.region [⟨some 4, none, .mov (.c (.bool false))⟩]
        [4])
      .ret)
      .skip))) [2, 3, 5])
  (.region [⟨some 39, none, .mov (.t 5)⟩,
    ⟨some 40, none, .bin .add (.t 39) (.c (.int .i64 1))⟩,
    ⟨some 5, none, .mov (.t 40)⟩]
    [2, 3, 5])))
def RC.ref16_place : RFn := ⟨2, [.slot 4],
  (.seq (.region [⟨some 2, none, .box (.t 0)⟩,
    ⟨some 3, none, .box (.t 1)⟩,
    ⟨some 4, none, .mov (.c (.bool false))⟩]
    [2, 3])
  (.seq (.seq (.region [⟨some 10, none, .fieldAddr 0 (.t 3)⟩,
    ⟨some 11, none, .load false 1 (.t 10)⟩,
    ⟨some 12, none, .call F.ref08_Is [.t 11]⟩,
    ⟨some 13, none, .un .not (.t 12)⟩,
    ⟨some 14, none, .mov (.t 13)⟩,
    ⟨some 15, some (14, false), .fieldAddr 1 (.t 3)⟩,
    ⟨some 16, some (14, false), .load false 1 (.t 15)⟩,
    ⟨some 17, some (14, false), .bin .lss (.t 16) (.c (.int .i64 1))⟩,
    ⟨some 18, none, .pick (.t 14) (.c (.bool true)) (.t 17)⟩,
    ⟨some 19, none, .mov (.t 18)⟩,
    ⟨some 20, some (19, false), .fieldAddr 1 (.t 3)⟩,
    ⟨some 21, some (19, false), .load false 1 (.t 20)⟩,
    ⟨some 22, some (19, false), .fieldAddr 0 (.t 2)⟩,
    ⟨some 23, some (19, false), .load false 1 (.t 22)⟩,
    ⟨some 24, some (19, false), .bin .gtr (.t 21) (.t 23)⟩,
    ⟨some 25, none, .pick (.t 19) (.c (.bool true)) (.t 24)⟩]
    [2, 3, 25])
  (.cond (.t 25)
    (.seq (.region [⟨some 4, none, .mov (.c (.bool false))⟩]
      [4])
    .ret)
    .skip))
  (.seq (.seq (.region [⟨some 26, none, .fieldAddr 3 (.t 3)⟩,
    ⟨some 27, none, .load false 1 (.t 26)⟩,
    ⟨some 28, none, .len (.t 27)⟩,
    ⟨some 29, none, .bin .eql (.t 28) (.c (.int .i64 0))⟩]
    [2, 3, 29])
  (.cond (.t 29)
    (.seq (.region [⟨some 30, none, .load true 3 (.t 2)⟩,
      ⟨some 31, none, .fieldAddr 2 (.t 3)⟩,
      ⟨some 32, none, .load false 1 (.t 31)⟩,
      ⟨some 33, none, .call F.ref16_Has [.t 30, .t 32]⟩,
      ⟨some 4, none, .mov (.t 33)⟩]
      [4])
    .ret)
    .skip))
  (.seq (.seq (.region [⟨some 5, none, .mov (.c (.int .i64 0))⟩]
    [2, 3, 5])
  (.block 0
    (.loop [2, 3, 5] RB.ref16_place_2) [2, 3]))
  (.seq (.region [⟨some 7, none, .mov (.c (.int .i64 0))⟩]
    [2, 3, 7])
  (.seq (.seq (.region [⟨some 8, none, .mov (.c (.int .i64 0))⟩]
    [2, 3, 7, 8])
  (.block 2
    (.loop [2, 3, 7, 8] RB.ref16_place_1) [3, 7]))
  (.seq (.region [⟨some 94, none, .fieldAddr 3 (.t 3)⟩,
    ⟨some 95, none, .load false 1 (.t 94)⟩,
    ⟨some 96, none, .len (.t 95)⟩,
    ⟨some 97, none, .bin .geq (.t 96) (.c (.int .i64 2))⟩,
    ⟨some 98, none, .mov (.t 97)⟩,
    ⟨some 99, some (98, true), .fieldAddr 2 (.t 3)⟩,
    ⟨some 100, some (98, true), .load false 1 (.t 99)⟩,
    ⟨some 101, some (98, true), .bin .eql (.t 100) (.c (.int .i64 0))⟩,
    ⟨some 102, none, .pick (.t 98) (.t 101) (.c (.bool false))⟩,
    ⟨some 103, none, .mov (.t 102)⟩,
    ⟨some 104, some (103, true), .mov (.t 7)⟩,
    ⟨some 105, some (103, true), .fieldAddr 1 (.t 3)⟩,
    ⟨some 106, some (103, true), .load false 1 (.t 105)⟩,
    ⟨some 107, some (103, true), .bin .eql (.t 104) (.t 106)⟩,
    ⟨some 108, none, .pick (.t 103) (.t 107) (.c (.bool false))⟩,
    ⟨some 4, none, .mov (.t 108)⟩]
    [4])
  .ret)))))))⟩

def RB.ref16_apart_1 : RCode :=
  (.seq (.seq (.region [⟨some 15, none, .mov (.t 6)⟩,
    ⟨some 16, none, .fieldAddr 2 (.t 1)⟩,
    ⟨some 17, none, .load false 1 (.t 16)⟩,
    ⟨some 18, none, .len (.t 17)⟩,
    ⟨some 19, none, .bin .lss (.t 15) (.t 18)⟩]
    [1, 3, 4, 5, 6, 19])
  (.cond (.t 19)
    .skip
    (.exit 4)))
  (.seq (.block 5
    (.region [⟨some 22, none, .mov (.t 5)⟩,
      ⟨some 23, none, .fieldAddr 2 (.t 1)⟩,
      ⟨some 24, none, .load false 1 (.t 23)⟩,
      ⟨some 25, none, .mov (.t 6)⟩,
      ⟨some 26, none, .idxS 4 (.t 24) (.t 25)⟩,
      ⟨some 27, none, .load true 4 (.t 26)⟩,
      ⟨some 28, none, .mov (.t 3)⟩,
      ⟨some 29, none, .mov (.t 4)⟩,
      ⟨some 30, none, .call F.ref16_At [.t 27, .t 28, .t 29]⟩,
      ⟨some 31, none, .bin .add (.t 22) (.t 30)⟩,
      ⟨some 5, none, .mov (.t 31)⟩]
      [1, 3, 4, 5, 6]) [1, 3, 4, 5, 6])
  (.region [⟨some 20, none, .mov (.t 6)⟩,
    ⟨some 21, none, .bin .add (.t 20) (.c (.int .i64 1))⟩,
    ⟨some 6, none, .mov (.t 21)⟩]
    [1, 3, 4, 5, 6])))
def RB.ref16_apart_2 : RCode :=
  (.seq (.seq (.region [⟨some 11, none, .mov (.t 4)⟩,
    ⟨some 12, none, .bin .lss (.t 11) (.c (.int .i64 64))⟩]
    [1, 3, 4, 12])
  (.cond (.t 12)
    .skip
    (.exit 2)))
  (.seq (.block 3
    (.seq (.region [⟨some 5, none, .mov (.c (.int .i64 0))⟩]
      [1, 3, 4, 5])
    (.seq (.seq (.region [⟨some 6, none, .mov (.c (.int .i64 0))⟩]
      [1, 3, 4, 5, 6])
    (.block 4
      (.loop [1, 3, 4, 5, 6] RB.ref16_apart_1) [1, 3, 4, 5]))
    (.seq (.region [⟨some 32, none, .mov (.t 5)⟩,
      ⟨some 33, none, .bin .gtr (.t 32) (.c (.int .i64 1))⟩]
      [1, 3, 4, 33])
    (.cond (.t 33)
      (.seq (.region [⟨some 2, none, .mov (.c (.bool false))⟩]
        [2])
      .ret)
      .skip)))) [1, 3, 4])
  (.region [⟨some 13, none, .mov (.t 4)⟩,
    ⟨some 14, none, .bin .add (.t 13) (.c (.int .i64 1))⟩,
    ⟨some 4, none, .mov (.t 14)⟩]
    [1, 3, 4])))
def RB.ref16_apart_3 : RCode :=
  (.seq (.seq (.region [⟨some 7, none, .mov (.t 3)⟩,
    ⟨some 8, none, .bin .lss (.t 7) (.c (.int .i64 16))⟩]
    [1, 3, 8])
  (.cond (.t 8)
    .skip
    (.exit 0)))
  (.seq (.block 1
    (.seq (.region [⟨some 4, none, .mov (.c (.int .i64 0))⟩]
      [1, 3, 4])
    (.block 2
      (.loop [1, 3, 4] RB.ref16_apart_2) [1, 3])) [1, 3])
  (.region [⟨some 9, none, .mov (.t 3)⟩,
    ⟨some 10, none, .bin .add (.t 9) (.c (.int .i64 1))⟩,
    ⟨some 3, none, .mov (.t 10)⟩]
    [1, 3])))
def RC.ref16_apart : RFn := ⟨1, [.slot 2],
  (.seq (.region [⟨some 1, none, .box (.t 0)⟩,
    ⟨some 2, none, .mov (.c (.bool false))⟩]
    [1])
  (.seq (.seq (.region [⟨some 3, none, .mov (.c (.int .i64 0))⟩]
    [1, 3])
  (.block 0
    (.loop [1, 3] RB.ref16_apart_3) []))
  (.seq (.region [⟨some 2, none, .mov (.c (.bool true))⟩]
    [2])
  .ret)))⟩

def RB.ref16_Load_1 : RCode :=
  (.seq (.seq (.region [⟨some 15, none, .mov (.t 7)⟩,
    ⟨some 16, none, .mov (.t 6)⟩,
    ⟨some 17, none, .len (.t 16)⟩,
    ⟨some 18, none, .bin .lss (.t 15) (.t 17)⟩]
    [5, 6, 7, 18])
  (.cond (.t 18)
    .skip
    (.exit 0)))
  (.seq (.block 1
    (.region [⟨some 21, none, .mov (.t 5)⟩,
      ⟨some 22, none, .mov (.t 6)⟩,
      ⟨some 23, none, .mov (.t 7)⟩,
      ⟨some 24, none, .idxS 2 (.t 22) (.t 23)⟩,
      ⟨some 25, none, .fieldAddr 1 (.t 24)⟩,
      ⟨some 26, none, .load false 1 (.t 25)⟩,
      ⟨some 27, none, .bin .add (.t 21) (.t 26)⟩,
      ⟨some 5, none, .mov (.t 27)⟩]
      [5, 6, 7]) [5, 6, 7])
  (.region [⟨some 19, none, .mov (.t 7)⟩,
    ⟨some 20, none, .bin .add (.t 19) (.c (.int .i64 1))⟩,
    ⟨some 7, none, .mov (.t 20)⟩]
    [5, 6, 7])))
def RC.ref16_Load : RFn := ⟨2, [.slot 4],
  (.seq (.region [⟨some 2, none, .box (.t 0)⟩,
    ⟨some 4, none, .mov (.c (.int .i64 0))⟩]
    [1, 2])
  (.seq (.region [⟨some 8, none, .load true 3 (.t 2)⟩,
    ⟨some 9, none, .mov (.t 1)⟩,
    ⟨some 10, none, .call F.ref16_Windows [.t 8, .t 9]⟩,
    ⟨some 11, none, .call F.ref04_Count [.t 10]⟩,
    ⟨some 5, none, .mov (.t 11)⟩]
    [1, 2, 5])
  (.seq (.region [⟨some 12, none, .load true 3 (.t 2)⟩,
    ⟨some 13, none, .mov (.t 1)⟩,
    ⟨some 14, none, .call F.ref16_Wholes [.t 12, .t 13]⟩,
    ⟨some 6, none, .mov (.t 14)⟩]
    [5, 6])
  (.seq (.seq (.region [⟨some 7, none, .mov (.c (.int .i64 0))⟩]
    [5, 6, 7])
  (.block 0
    (.loop [5, 6, 7] RB.ref16_Load_1) [5]))
  (.seq (.region [⟨some 28, none, .mov (.t 5)⟩,
    ⟨some 4, none, .mov (.t 28)⟩]
    [4])
  .ret)))))⟩

def RB.chain_why_1 : RCode :=
  (.seq (.region [⟨some 28, none, .bin .lss (.t 27) (.t 26)⟩]
    [1, 2, 25, 26, 27, 28])
  (.seq (.cond (.t 28)
    .skip
    (.exit 0))
  (.seq (.block 1
    (.seq (.region [⟨some 29, none, .idxS 2 (.t 25) (.t 27)⟩,
      ⟨some 30, none, .load true 2 (.t 29)⟩,
      ⟨some 8, none, .alloc [(.int .i64 0), (.int .i64 0)]⟩,
      ⟨none, none, .store 2 (.t 8) (.t 30)⟩]
      [1, 2, 8, 25, 26, 27])
    (.seq (.region [⟨some 32, none, .load true 3 (.t 2)⟩,
      ⟨some 33, none, .fieldAddr 0 (.t 8)⟩,
      ⟨some 34, none, .load false 1 (.t 33)⟩,
      ⟨some 35, none, .call F.plan_Find [.t 32, .t 34]⟩,
      ⟨some 31, none, .mov (.t 35)⟩,
      ⟨some 36, none, .ext 0 (.t 31)⟩,
      ⟨some 37, none, .ext 1 (.t 31)⟩,
      ⟨some 9, none, .alloc [(.int .i64 0), (.int .i64 0), (.int .i64 0), (.slice none 0 0)]⟩,
      ⟨none, none, .store 4 (.t 9) (.t 36)⟩,
      ⟨some 10, none, .mov (.t 37)⟩]
      [1, 2, 10, 25, 26, 27])
    (.seq (.region [⟨some 38, none, .mov (.t 10)⟩]
      [1, 2, 25, 26, 27, 38])
    (.cond (.t 38)
      (.seq (.region [⟨some 4, none, .mov (.c (.int .i64 11))⟩]
        [4])
      .ret)
      .skip)))) [1, 2, 25, 26, 27])
  (.region [⟨some 39, none, .bin .add (.t 27) (.c (.int .i64 1))⟩,
    ⟨some 27, none, .mov (.t 39)⟩]
    [1, 2, 25, 26, 27]))))
def RC.chain_why : RFn := ⟨2, [.slot 4],
  (.seq (.region [⟨some 2, none, .box (.t 0)⟩,
    ⟨some 4, none, .mov (.c (.int .i64 0))⟩]
    [1, 2])
  (.seq (.seq (.region [⟨some 13, none, .load true 3 (.t 2)⟩,
    ⟨some 14, none, .call F.plan_Check [.t 13]⟩,
    ⟨some 5, none, .mov (.t 14)⟩]
    [1, 2, 5])
  (.seq (.region [⟨some 15, none, .mov (.t 5)⟩,
    ⟨some 16, none, .bin .neq (.t 15) (.c (.int .i64 0))⟩]
    [1, 2, 5, 16])
  (.cond (.t 16)
    (.seq (.region [⟨some 17, none, .mov (.t 5)⟩,
      ⟨some 4, none, .mov (.t 17)⟩]
      [4])
    .ret)
    .skip)))
  (.seq (.seq (.region [⟨some 18, none, .fieldAddr 0 (.t 2)⟩,
    ⟨some 19, none, .load false 1 (.t 18)⟩,
    ⟨some 20, none, .mov (.t 1)⟩,
    ⟨some 21, none, .call F.order_Check [.t 19, .t 20]⟩,
    ⟨some 6, none, .mov (.t 21)⟩]
    [1, 2, 6])
  (.seq (.region [⟨some 22, none, .mov (.t 6)⟩,
    ⟨some 23, none, .bin .neq (.t 22) (.c (.int .i64 0))⟩]
    [1, 2, 6, 23])
  (.cond (.t 23)
    (.seq (.region [⟨some 24, none, .mov (.t 6)⟩,
      ⟨some 4, none, .mov (.t 24)⟩]
      [4])
    .ret)
    .skip)))
  (.seq (.seq (.region [⟨some 25, none, .mov (.t 1)⟩,
    ⟨some 26, none, .len (.t 25)⟩,
    ⟨some 27, none, .mov (.c (.int .i64 0))⟩]
    [1, 2, 25, 26, 27])
  (.block 0
    (.loop [1, 2, 25, 26, 27] RB.chain_why_1) [1, 2]))
  (.seq (.region [⟨some 41, none, .mov (.t 1)⟩,
    ⟨some 42, none, .call F.order_Total [.t 41]⟩,
    ⟨some 40, none, .mov (.t 42)⟩,
    ⟨some 43, none, .ext 0 (.t 40)⟩,
    ⟨some 44, none, .ext 1 (.t 40)⟩,
    ⟨some 11, none, .mov (.t 43)⟩,
    ⟨some 12, none, .mov (.t 44)⟩]
    [2, 11])
  (.seq (.block 2
    (.seq (.region [⟨some 46, none, .load true 3 (.t 2)⟩,
      ⟨some 47, none, .call F.plan_Splits [.t 46]⟩,
      ⟨some 48, none, .bin .gtr (.t 47) (.c (.int .i64 0))⟩,
      ⟨some 45, none, .mov (.t 48)⟩]
      [2, 11, 45])
    (.cond (.t 45)
      (.seq (.region [⟨some 4, none, .mov (.c (.int .i64 15))⟩]
        [4])
      .ret)
      (.seq (.region [⟨some 50, none, .mov (.t 11)⟩,
        ⟨some 51, none, .load true 3 (.t 2)⟩,
        ⟨some 52, none, .call F.plan_Free [.t 51]⟩,
        ⟨some 53, none, .bin .gtr (.t 50) (.t 52)⟩,
        ⟨some 49, none, .mov (.t 53)⟩]
        [49])
      (.cond (.t 49)
        (.seq (.region [⟨some 4, none, .mov (.c (.int .i64 12))⟩]
          [4])
        .ret)
        .skip)))) [])
  (.seq (.region [⟨some 4, none, .mov (.c (.int .i64 0))⟩]
    [4])
  .ret)))))))⟩

def RC.plan_Drop : RFn := ⟨2, [.cell 4 true 3],
  (.seq (.region [⟨some 2, none, .box (.t 0)⟩,
    ⟨some 4, none, .alloc [(.int .i64 0), (u32 0#32), (.slice none 0 0)]⟩]
    [1, 2, 4])
  (.seq (.region [⟨some 8, none, .load true 3 (.t 2)⟩,
    ⟨some 9, none, .call F.plan_clone [.t 8]⟩,
    ⟨some 5, none, .alloc [(.int .i64 0), (u32 0#32), (.slice none 0 0)]⟩,
    ⟨none, none, .store 3 (.t 5) (.t 9)⟩]
    [1, 4, 5])
  (.seq (.seq (.region [⟨some 11, none, .load true 3 (.t 5)⟩,
    ⟨some 12, none, .mov (.t 1)⟩,
    ⟨some 13, none, .call F.plan_find [.t 11, .t 12]⟩,
    ⟨some 10, none, .mov (.t 13)⟩,
    ⟨some 14, none, .ext 0 (.t 10)⟩,
    ⟨some 15, none, .ext 1 (.t 10)⟩,
    ⟨some 6, none, .mov (.t 14)⟩,
    ⟨some 7, none, .mov (.t 15)⟩]
    [4, 5, 6, 7])
  (.seq (.region [⟨some 16, none, .mov (.t 7)⟩]
    [4, 5, 6, 16])
  (.cond (.t 16)
    (.region [⟨some 17, none, .fieldAddr 2 (.t 5)⟩,
      ⟨some 18, none, .load false 1 (.t 17)⟩,
      ⟨some 19, none, .mov (.t 6)⟩,
      ⟨some 20, none, .mov (.t 6)⟩,
      ⟨some 21, none, .bin .add (.t 20) (.c (.int .i64 1))⟩,
      ⟨some 22, none, .call F.slices_Delete_api_Place_api_Place [.t 18, .t 19, .t 21]⟩,
      ⟨some 23, none, .fieldAddr 2 (.t 5)⟩,
      ⟨none, none, .store 1 (.t 23) (.t 22)⟩]
      [4, 5])
    .skip)))
  (.seq (.region [⟨some 24, none, .load true 3 (.t 5)⟩,
    ⟨none, none, .store 3 (.t 4) (.t 24)⟩]
    [4])
  .ret))))⟩

def RC.plan_Put : RFn := ⟨2, [.cell 4 true 3],
  (.seq (.region [⟨some 2, none, .box (.t 0)⟩,
    ⟨some 3, none, .box (.t 1)⟩,
    ⟨some 4, none, .alloc [(.int .i64 0), (u32 0#32), (.slice none 0 0)]⟩]
    [2, 3, 4])
  (.seq (.region [⟨some 8, none, .load true 3 (.t 2)⟩,
    ⟨some 9, none, .fieldAddr 0 (.t 3)⟩,
    ⟨some 10, none, .load false 1 (.t 9)⟩,
    ⟨some 11, none, .call F.plan_Drop [.t 8, .t 10]⟩,
    ⟨some 5, none, .alloc [(.int .i64 0), (u32 0#32), (.slice none 0 0)]⟩,
    ⟨none, none, .store 3 (.t 5) (.t 11)⟩]
    [3, 4, 5])
  (.seq (.region [⟨some 13, none, .load true 3 (.t 5)⟩,
    ⟨some 14, none, .fieldAddr 0 (.t 3)⟩,
    ⟨some 15, none, .load false 1 (.t 14)⟩,
    ⟨some 16, none, .call F.plan_find [.t 13, .t 15]⟩,
    ⟨some 12, none, .mov (.t 16)⟩,
    ⟨some 17, none, .ext 0 (.t 12)⟩,
    ⟨some 18, none, .ext 1 (.t 12)⟩,
    ⟨some 6, none, .mov (.t 17)⟩,
    ⟨some 7, none, .mov (.t 18)⟩]
    [3, 4, 5, 6])
  (.seq (.region [⟨some 19, none, .fieldAddr 3 (.t 3)⟩,
    ⟨some 20, none, .load false 1 (.t 19)⟩,
    ⟨some 21, none, .call F.slices_Clone_api_Piece_api_Piece [.t 20]⟩,
    ⟨some 22, none, .fieldAddr 3 (.t 3)⟩,
    ⟨none, none, .store 1 (.t 22) (.t 21)⟩]
    [3, 4, 5, 6])
  (.seq (.region [⟨some 23, none, .fieldAddr 2 (.t 5)⟩,
    ⟨some 24, none, .load false 1 (.t 23)⟩,
    ⟨some 25, none, .mov (.t 6)⟩,
    ⟨some 26, none, .load true 4 (.t 3)⟩,
    ⟨some 27, none, .bslice [(.int .i64 0), (.int .i64 0), (.int .i64 0), (.slice none 0 0)] [(0, 4, .t 26)] 1 4⟩,
    ⟨some 28, none, .call F.slices_Insert_api_Place_api_Place [.t 24, .t 25, .t 27]⟩,
    ⟨some 29, none, .fieldAddr 2 (.t 5)⟩,
    ⟨none, none, .store 1 (.t 29) (.t 28)⟩]
    [4, 5])
  (.seq (.region [⟨some 30, none, .load true 3 (.t 5)⟩,
    ⟨none, none, .store 3 (.t 4) (.t 30)⟩]
    [4])
  .ret))))))⟩

def RB.chain_chain_place_1 : RCode :=
  (.seq (.seq (.region [⟨some 53, none, .mov (.t 6)⟩,
    ⟨some 54, none, .bin .gtr (.t 53) (.c (.int .i64 0))⟩]
    [0, 4, 5, 6, 54])
  (.cond (.t 54)
    .skip
    (.exit 0)))
  (.block 1
    (.seq (.region [⟨some 55, none, .mov (.t 0)⟩,
      ⟨some 56, none, .call F.chain_chain_on [.t 55]⟩]
      [0, 4, 5, 6])
    (.seq (.drawn [⟨some 57, none, .mov (.t 6)⟩,
      ⟨some 58, none, .mov (.t 0)⟩,
      ⟨some 59, none, .nilchk (.t 58)⟩,
      ⟨some 60, none, .fieldAddr 1 (.t 59)⟩,
      ⟨some 61, none, .load false 1 (.t 60)⟩,
      ⟨some 62, none, .mov (.t 0)⟩,
      ⟨some 63, none, .nilchk (.t 62)⟩,
      ⟨some 64, none, .fieldAddr 2 (.t 63)⟩,
      ⟨some 65, none, .load false 1 (.t 64)⟩,
      ⟨some 66, none, .idxS 1 (.t 61) (.t 65)⟩,
      ⟨some 67, none, .load false 1 (.t 66)⟩,
      ⟨some 68, none, .minmax false [.t 57, .t 67]⟩,
      ⟨some 7, none, .mov (.t 68)⟩]
      [[], [], [1], [2], [3], [], [5], [6], [7], [4, 8], [9], [0, 10], [11, 0, 1, 2, 3, 4, 5, 6, 7, 8, 9, 10, 11]]
      [(0, []), (1, []), (2, []), (3, []), (5, []), (6, []), (7, []), (4, []), (8, []), (9, []), (10, []), (11, []), (12, [])]
      [[], [], [1], [1, 2], [1, 2, 3], [], [5], [5, 6], [5, 6, 7], [1, 2, 3, 4, 5, 6, 7, 8], [1, 2, 3, 4, 5, 6, 7, 8, 9], [0, 1, 2, 3, 4, 5, 6, 7, 8, 9, 10], [0, 1, 2, 3, 4, 5, 6, 7, 8, 9, 10, 11]]
      [0, 4, 5, 6, 7])
    (.seq (.drawn [⟨some 69, none, .fieldAddr 3 (.t 5)⟩,
      ⟨some 70, none, .load false 1 (.t 69)⟩,
      ⟨some 71, none, .mov (.t 0)⟩,
      ⟨some 72, none, .mov (.t 7)⟩,
      ⟨some 73, none, .call F.chain_chain_take [.t 71, .t 72]⟩,
      ⟨some 74, none, .bslice [(.int .i64 0), (u64 0#64)] [(0, 2, .t 73)] 1 2⟩,
      ⟨some 75, none, .app 2 16 (.t 70) (.t 74)⟩,
      ⟨some 76, none, .fieldAddr 3 (.t 5)⟩,
      ⟨none, none, .store 1 (.t 76) (.t 75)⟩]
      [[], [0], [], [], [2, 3], [4], [1, 5, 4], [0, 1, 2, 3, 4, 5, 6], [7, 6, 6, 0, 1, 2, 3, 4, 5, 6]]
      [(0, []), (2, []), (3, []), (1, []), (4, [69]), (5, []), (6, []), (7, []), (8, [])]
      [[], [0], [], [], [2, 3], [2, 3, 4], [0, 1, 2, 3, 4, 5], [0, 1, 2, 3, 4, 5, 6], [0, 1, 2, 3, 4, 5, 6, 7]]
      [0, 4, 5, 6, 7])
    (.region [⟨some 77, none, .mov (.t 6)⟩,
      ⟨some 78, none, .mov (.t 7)⟩,
      ⟨some 79, none, .bin .sub (.t 77) (.t 78)⟩,
      ⟨some 6, none, .mov (.t 79)⟩]
      [0, 4, 5, 6])))) [0, 4, 5, 6]))
def RC.chain_chain_place : RFn := ⟨2, [.cell 4 true 4],
  (.seq (.region [⟨some 3, none, .box (.t 1)⟩,
    ⟨some 4, none, .alloc [(.int .i64 0), (.int .i64 0), (.int .i64 0), (.slice none 0 0)]⟩]
    [0, 3, 4])
  (.seq (.region [⟨some 8, none, .mov (.t 0)⟩,
    ⟨some 9, none, .call F.chain_chain_on [.t 8]⟩]
    [0, 3, 4])
  (.seq (.seq (.drawn [⟨some 10, none, .mov (.t 0)⟩,
    ⟨some 11, none, .nilchk (.t 10)⟩,
    ⟨some 12, none, .fieldAddr 1 (.t 11)⟩,
    ⟨some 13, none, .load false 1 (.t 12)⟩,
    ⟨some 14, none, .mov (.t 0)⟩,
    ⟨some 15, none, .nilchk (.t 14)⟩,
    ⟨some 16, none, .fieldAddr 2 (.t 15)⟩,
    ⟨some 17, none, .load false 1 (.t 16)⟩,
    ⟨some 18, none, .idxS 1 (.t 13) (.t 17)⟩,
    ⟨some 19, none, .load false 1 (.t 18)⟩,
    ⟨some 20, none, .fieldAddr 1 (.t 3)⟩,
    ⟨some 21, none, .load false 1 (.t 20)⟩,
    ⟨some 22, none, .bin .geq (.t 19) (.t 21)⟩]
    [[], [0], [1], [2], [], [4], [5], [6], [3, 7], [8], [], [10], [9, 11]]
    [(0, []), (1, []), (2, []), (4, []), (5, []), (6, []), (10, []), (3, []), (7, []), (8, []), (9, []), (11, []), (12, [])]
    [[], [0], [0, 1], [0, 1, 2], [], [4], [4, 5], [4, 5, 6], [0, 1, 2, 3, 4, 5, 6, 7], [0, 1, 2, 3, 4, 5, 6, 7, 8], [], [10], [0, 1, 2, 3, 4, 5, 6, 7, 8, 9, 10, 11]]
    [0, 3, 4, 22])
  (.cond (.t 22)
    (.seq (.drawn [⟨some 23, none, .mov (.t 0)⟩,
      ⟨some 24, none, .nilchk (.t 23)⟩,
      ⟨some 25, none, .fieldAddr 1 (.t 24)⟩,
      ⟨some 26, none, .load false 1 (.t 25)⟩,
      ⟨some 27, none, .mov (.t 0)⟩,
      ⟨some 28, none, .nilchk (.t 27)⟩,
      ⟨some 29, none, .fieldAddr 2 (.t 28)⟩,
      ⟨some 30, none, .load false 1 (.t 29)⟩,
      ⟨some 31, none, .idxS 1 (.t 26) (.t 30)⟩,
      ⟨some 32, none, .load false 1 (.t 31)⟩,
      ⟨some 33, none, .fieldAddr 1 (.t 3)⟩,
      ⟨some 34, none, .load false 1 (.t 33)⟩,
      ⟨some 35, none, .bin .sub (.t 32) (.t 34)⟩,
      ⟨some 36, none, .idxS 1 (.t 26) (.t 30)⟩,
      ⟨none, none, .store 1 (.t 36) (.t 35)⟩]
      [[], [0], [1], [2], [], [4], [5], [6], [3, 7], [8], [], [10], [9, 11], [3, 7, 0, 1, 2, 3, 4, 5, 6, 7, 8, 9, 10, 11, 12], [13, 12, 0, 1, 2, 3, 4, 5, 6, 7, 8, 9, 10, 11, 12]]
      [(0, []), (1, []), (2, []), (4, []), (5, []), (6, []), (10, []), (3, []), (7, []), (8, []), (9, []), (11, []), (12, []), (13, []), (14, [])]
      [[], [0], [0, 1], [0, 1, 2], [], [4], [4, 5], [4, 5, 6], [0, 1, 2, 3, 4, 5, 6, 7], [0, 1, 2, 3, 4, 5, 6, 7, 8], [], [10], [0, 1, 2, 3, 4, 5, 6, 7, 8, 9, 10, 11], [0, 1, 2, 3, 4, 5, 6, 7, 8, 9, 10, 11, 12], [0, 1, 2, 3, 4, 5, 6, 7, 8, 9, 10, 11, 12, 13]]
      [0, 3, 4])
    (.seq (.drawn [⟨some 37, none, .fieldAddr 0 (.t 3)⟩,
      ⟨some 38, none, .load false 1 (.t 37)⟩,
      ⟨some 39, none, .fieldAddr 1 (.t 3)⟩,
      ⟨some 40, none, .load false 1 (.t 39)⟩,
      ⟨some 41, none, .mov (.t 0)⟩,
      ⟨some 42, none, .nilchk (.t 41)⟩,
      ⟨some 43, none, .fieldAddr 2 (.t 42)⟩,
      ⟨some 44, none, .load false 1 (.t 43)⟩,
      ⟨some 45, none, .build [(.int .i64 0), (.int .i64 0), (.int .i64 0), (.slice none 0 0)] [(0, 1, .t 38), (1, 1, .t 40), (2, 1, .t 44)]⟩,
      ⟨none, none, .store 4 (.t 4) (.t 45)⟩]
      [[], [0], [], [2], [], [4], [5], [6], [1, 3, 7], [8, 0, 1, 2, 3, 4, 5, 6, 7, 8]]
      [(0, []), (2, []), (4, []), (5, []), (6, []), (1, []), (3, []), (7, []), (8, []), (9, [])]
      [[], [0], [], [2], [], [4], [4, 5], [4, 5, 6], [0, 1, 2, 3, 4, 5, 6, 7], [0, 1, 2, 3, 4, 5, 6, 7, 8]]
      [4])
    .ret))
    .skip))
  (.seq (.region [⟨some 46, none, .fieldAddr 0 (.t 3)⟩,
    ⟨some 47, none, .load false 1 (.t 46)⟩,
    ⟨some 48, none, .fieldAddr 1 (.t 3)⟩,
    ⟨some 49, none, .load false 1 (.t 48)⟩,
    ⟨some 50, none, .build [(.int .i64 0), (.int .i64 0), (.int .i64 0), (.slice none 0 0)] [(0, 1, .t 47), (1, 1, .t 49)]⟩,
    ⟨some 5, none, .alloc [(.int .i64 0), (.int .i64 0), (.int .i64 0), (.slice none 0 0)]⟩,
    ⟨none, none, .store 4 (.t 5) (.t 50)⟩]
    [0, 3, 4, 5])
  (.seq (.seq (.region [⟨some 51, none, .fieldAddr 1 (.t 3)⟩,
    ⟨some 52, none, .load false 1 (.t 51)⟩,
    ⟨some 6, none, .mov (.t 52)⟩]
    [0, 4, 5, 6])
  (.block 0
    (.loop [0, 4, 5, 6] RB.chain_chain_place_1) [4, 5]))
  (.seq (.region [⟨some 80, none, .load true 4 (.t 5)⟩,
    ⟨none, none, .store 4 (.t 4) (.t 80)⟩]
    [4])
  .ret))))))⟩

def RB.ref18_Why_1 : RCode :=
  (.seq (.seq (.region [⟨some 19, none, .mov (.t 6)⟩,
    ⟨some 20, none, .mov (.t 1)⟩,
    ⟨some 21, none, .len (.t 20)⟩,
    ⟨some 22, none, .bin .lss (.t 19) (.t 21)⟩]
    [1, 2, 6, 22])
  (.cond (.t 22)
    .skip
    (.exit 0)))
  (.seq (.block 1
    (.seq (.drawn [⟨some 26, none, .load true 3 (.t 2)⟩,
      ⟨some 27, none, .mov (.t 1)⟩,
      ⟨some 28, none, .mov (.t 6)⟩,
      ⟨some 29, none, .idxS 2 (.t 27) (.t 28)⟩,
      ⟨some 30, none, .fieldAddr 0 (.t 29)⟩,
      ⟨some 31, none, .load false 1 (.t 30)⟩,
      ⟨some 32, none, .call F.ref16_Find [.t 26, .t 31]⟩,
      ⟨some 25, none, .mov (.t 32)⟩,
      ⟨some 33, none, .ext 0 (.t 25)⟩,
      ⟨some 34, none, .ext 1 (.t 25)⟩,
      ⟨some 7, none, .alloc [(.int .i64 0), (.int .i64 0), (.int .i64 0), (.slice none 0 0)]⟩,
      ⟨none, none, .store 4 (.t 7) (.t 33)⟩,
      ⟨some 8, none, .mov (.t 34)⟩]
      [[], [], [], [1, 2], [3], [4], [0, 5], [6], [7], [7], [], [10, 8, 6, 0, 1, 2, 3, 4, 5, 6, 7, 8, 10], [9, 11, 0, 1, 2, 3, 4, 5, 6, 7, 8, 9, 10, 11]]
      [(1, []), (2, []), (3, []), (4, []), (0, []), (5, []), (6, []), (7, []), (8, []), (9, []), (10, []), (11, []), (12, [])]
      [[], [], [], [1, 2], [1, 2, 3], [1, 2, 3, 4], [0, 1, 2, 3, 4, 5], [0, 1, 2, 3, 4, 5, 6], [0, 1, 2, 3, 4, 5, 6, 7], [0, 1, 2, 3, 4, 5, 6, 7], [], [0, 1, 2, 3, 4, 5, 6, 7, 8, 10], [0, 1, 2, 3, 4, 5, 6, 7, 8, 9, 10, 11]]
      [1, 2, 6, 8])
    (.seq (.region [⟨some 35, none, .mov (.t 8)⟩]
      [1, 2, 6, 35])
    (.cond (.t 35)
      (.seq (.region [⟨some 4, none, .mov (.c (.int .i64 11))⟩]
        [4])
      .ret)
      .skip))) [1, 2, 6])
  (.region [⟨some 23, none, .mov (.t 6)⟩,
    ⟨some 24, none, .bin .add (.t 23) (.c (.int .i64 1))⟩,
    ⟨some 6, none, .mov (.t 24)⟩]
    [1, 2, 6])))
def RC.ref18_Why : RFn := ⟨2, [.slot 4],
  (.seq (.region [⟨some 2, none, .box (.t 0)⟩,
    ⟨some 4, none, .mov (.c (.int .i64 0))⟩]
    [1, 2])
  (.seq (.seq (.region [⟨some 9, none, .load true 3 (.t 2)⟩,
    ⟨some 10, none, .call F.ref16_Right [.t 9]⟩,
    ⟨some 11, none, .un .not (.t 10)⟩]
    [1, 2, 11])
  (.cond (.t 11)
    (.seq (.region [⟨some 4, none, .mov (.c (.int .i64 30))⟩]
      [4])
    .ret)
    .skip))
  (.seq (.region [⟨some 12, none, .fieldAddr 0 (.t 2)⟩,
    ⟨some 13, none, .load false 1 (.t 12)⟩,
    ⟨some 14, none, .mov (.t 1)⟩,
    ⟨some 15, none, .call F.ref08_Check [.t 13, .t 14]⟩,
    ⟨some 5, none, .mov (.t 15)⟩]
    [1, 2, 5])
  (.seq (.seq (.region [⟨some 16, none, .mov (.t 5)⟩,
    ⟨some 17, none, .bin .neq (.t 16) (.c (.int .i64 0))⟩]
    [1, 2, 5, 17])
  (.cond (.t 17)
    (.seq (.region [⟨some 18, none, .mov (.t 5)⟩,
      ⟨some 4, none, .mov (.t 18)⟩]
      [4])
    .ret)
    .skip))
  (.seq (.seq (.region [⟨some 6, none, .mov (.c (.int .i64 0))⟩]
    [1, 2, 6])
  (.block 0
    (.loop [1, 2, 6] RB.ref18_Why_1) []))
  (.seq (.region [⟨some 4, none, .mov (.c (.int .i64 0))⟩]
    [4])
  .ret))))))⟩

def RB.ref08_Total_1 : RCode :=
  (.seq (.seq (.region [⟨some 8, none, .mov (.t 5)⟩,
    ⟨some 9, none, .mov (.t 0)⟩,
    ⟨some 10, none, .len (.t 9)⟩,
    ⟨some 11, none, .bin .lss (.t 8) (.t 10)⟩]
    [0, 4, 5, 11])
  (.cond (.t 11)
    .skip
    (.exit 0)))
  (.seq (.block 1
    (.seq (.region [⟨some 15, none, .mov (.t 4)⟩,
      ⟨some 16, none, .mov (.t 0)⟩,
      ⟨some 17, none, .mov (.t 5)⟩,
      ⟨some 18, none, .idxS 2 (.t 16) (.t 17)⟩,
      ⟨some 19, none, .fieldAddr 1 (.t 18)⟩,
      ⟨some 20, none, .load false 1 (.t 19)⟩,
      ⟨some 21, none, .call F.ref02_Add [.t 15, .t 20]⟩,
      ⟨some 14, none, .mov (.t 21)⟩,
      ⟨some 22, none, .ext 0 (.t 14)⟩,
      ⟨some 23, none, .ext 1 (.t 14)⟩,
      ⟨some 6, none, .mov (.t 22)⟩,
      ⟨some 7, none, .mov (.t 23)⟩]
      [0, 5, 6, 7])
    (.seq (.seq (.region [⟨some 24, none, .mov (.t 7)⟩,
      ⟨some 25, none, .un .not (.t 24)⟩]
      [0, 5, 6, 25])
    (.cond (.t 25)
      (.seq (.region [⟨some 2, none, .mov (.c (.int .i64 0))⟩,
        ⟨some 3, none, .mov (.c (.bool false))⟩]
        [2, 3])
      .ret)
      .skip))
    (.region [⟨some 26, none, .mov (.t 6)⟩,
      ⟨some 4, none, .mov (.t 26)⟩]
      [0, 4, 5]))) [0, 4, 5])
  (.region [⟨some 12, none, .mov (.t 5)⟩,
    ⟨some 13, none, .bin .add (.t 12) (.c (.int .i64 1))⟩,
    ⟨some 5, none, .mov (.t 13)⟩]
    [0, 4, 5])))
def RC.ref08_Total : RFn := ⟨1, [.slot 2, .slot 3],
  (.seq (.region [⟨some 2, none, .mov (.c (.int .i64 0))⟩,
    ⟨some 3, none, .mov (.c (.bool false))⟩]
    [0])
  (.seq (.region [⟨some 4, none, .mov (.c (.int .i64 0))⟩]
    [0, 4])
  (.seq (.seq (.region [⟨some 5, none, .mov (.c (.int .i64 0))⟩]
    [0, 4, 5])
  (.block 0
    (.loop [0, 4, 5] RB.ref08_Total_1) [4]))
  (.seq (.region [⟨some 27, none, .mov (.t 4)⟩,
    ⟨some 2, none, .mov (.t 27)⟩,
    ⟨some 3, none, .mov (.c (.bool true))⟩]
    [2, 3])
  .ret))))⟩

def RB.ref16_Free_1 : RCode :=
  (.seq (.seq (.region [⟨some 5, none, .mov (.t 4)⟩,
    ⟨some 6, none, .bin .lss (.t 5) (.c (.int .i64 16))⟩]
    [1, 3, 4, 6])
  (.cond (.t 6)
    .skip
    (.exit 0)))
  (.seq (.block 1
    (.region [⟨some 9, none, .mov (.t 3)⟩,
      ⟨some 10, none, .load true 3 (.t 1)⟩,
      ⟨some 11, none, .mov (.t 4)⟩,
      ⟨some 12, none, .call F.ref16_Room [.t 10, .t 11]⟩,
      ⟨some 13, none, .bin .add (.t 9) (.t 12)⟩,
      ⟨some 3, none, .mov (.t 13)⟩]
      [1, 3, 4]) [1, 3, 4])
  (.region [⟨some 7, none, .mov (.t 4)⟩,
    ⟨some 8, none, .bin .add (.t 7) (.c (.int .i64 1))⟩,
    ⟨some 4, none, .mov (.t 8)⟩]
    [1, 3, 4])))
def RC.ref16_Free : RFn := ⟨1, [.slot 2],
  (.seq (.region [⟨some 1, none, .box (.t 0)⟩,
    ⟨some 2, none, .mov (.c (.int .i64 0))⟩]
    [1])
  (.seq (.region [⟨some 3, none, .mov (.c (.int .i64 0))⟩]
    [1, 3])
  (.seq (.seq (.region [⟨some 4, none, .mov (.c (.int .i64 0))⟩]
    [1, 3, 4])
  (.block 0
    (.loop [1, 3, 4] RB.ref16_Free_1) [3]))
  (.seq (.region [⟨some 14, none, .mov (.t 3)⟩,
    ⟨some 2, none, .mov (.t 14)⟩]
    [2])
  .ret))))⟩

def RB.ref16_Put_1 : RCode :=
  (.seq (.seq (.drawn [⟨some 11, none, .mov (.t 5)⟩,
    ⟨some 12, none, .fieldAddr 2 (.t 2)⟩,
    ⟨some 13, none, .load false 1 (.t 12)⟩,
    ⟨some 14, none, .len (.t 13)⟩,
    ⟨some 15, none, .bin .lss (.t 11) (.t 14)⟩,
    ⟨some 16, none, .mov (.t 15)⟩,
    ⟨some 17, some (16, true), .fieldAddr 2 (.t 2)⟩,
    ⟨some 18, some (16, true), .load false 1 (.t 17)⟩,
    ⟨some 19, some (16, true), .mov (.t 5)⟩,
    ⟨some 20, some (16, true), .idxS 4 (.t 18) (.t 19)⟩,
    ⟨some 21, some (16, true), .fieldAddr 0 (.t 20)⟩,
    ⟨some 22, some (16, true), .load false 1 (.t 21)⟩,
    ⟨some 23, some (16, true), .fieldAddr 0 (.t 3)⟩,
    ⟨some 24, some (16, true), .load false 1 (.t 23)⟩,
    ⟨some 25, some (16, true), .bin .lss (.t 22) (.t 24)⟩,
    ⟨some 26, none, .pick (.t 16) (.t 25) (.c (.bool false))⟩]
    [[], [], [1], [2], [0, 3], [4], [5], [6, 5], [5], [7, 8, 5], [9, 5], [10, 5], [5], [12, 5], [11, 13, 5], [5, 14]]
    [(0, []), (1, []), (2, []), (3, []), (4, []), (5, []), (6, []), (8, []), (12, []), (7, []), (9, []), (10, []), (11, []), (13, []), (14, []), (15, [])]
    [[], [], [1], [1, 2], [0, 1, 2, 3], [0, 1, 2, 3, 4], [0, 1, 2, 3, 4, 5], [0, 1, 2, 3, 4, 5, 6], [0, 1, 2, 3, 4, 5], [0, 1, 2, 3, 4, 5, 6, 7, 8], [0, 1, 2, 3, 4, 5, 6, 7, 8, 9], [0, 1, 2, 3, 4, 5, 6, 7, 8, 9, 10], [0, 1, 2, 3, 4, 5], [0, 1, 2, 3, 4, 5, 12], [0, 1, 2, 3, 4, 5, 6, 7, 8, 9, 10, 11, 12, 13], [0, 1, 2, 3, 4, 5, 6, 7, 8, 9, 10, 11, 12, 13, 14]]
    [2, 3, 4, 5, 26])
  (.cond (.t 26)
    .skip
    (.exit 0)))
  (.block 1
    (.region [⟨some 27, none, .mov (.t 5)⟩,
      ⟨some 28, none, .bin .add (.t 27) (.c (.int .i64 1))⟩,
      ⟨some 5, none, .mov (.t 28)⟩]
      [2, 3, 4, 5]) [2, 3, 4, 5]))
def RC.ref16_Put : RFn := ⟨2, [.cell 4 true 3],
  (.seq (.region [⟨some 2, none, .box (.t 0)⟩,
    ⟨some 3, none, .box (.t 1)⟩,
    ⟨some 4, none, .alloc [(.int .i64 0), (u32 0#32), (.slice none 0 0)]⟩]
    [2, 3, 4])
  (.seq (.region [⟨some 7, none, .load true 3 (.t 2)⟩,
    ⟨some 8, none, .fieldAddr 0 (.t 3)⟩,
    ⟨some 9, none, .load false 1 (.t 8)⟩,
    ⟨some 10, none, .call F.ref16_Drop [.t 7, .t 9]⟩,
    ⟨none, none, .store 3 (.t 2) (.t 10)⟩]
    [2, 3, 4])
  (.seq (.region [⟨some 5, none, .mov (.c (.int .i64 0))⟩]
    [2, 3, 4, 5])
  (.seq (.block 0
    (.loop [2, 3, 4, 5] RB.ref16_Put_1) [2, 3, 4, 5])
  (.seq (.region [⟨some 29, none, .bslice [] [] 0 4⟩,
    ⟨some 30, none, .fieldAddr 2 (.t 2)⟩,
    ⟨some 31, none, .load false 1 (.t 30)⟩,
    ⟨some 32, none, .mov (.t 5)⟩,
    ⟨some 33, none, .sub 4 (.t 31) none (some (.t 32)) none⟩,
    ⟨some 34, none, .app 4 48 (.t 29) (.t 33)⟩,
    ⟨some 6, none, .mov (.t 34)⟩]
    [2, 3, 4, 5, 6])
  (.seq (.region [⟨some 35, none, .mov (.t 6)⟩,
    ⟨some 36, none, .load true 4 (.t 3)⟩,
    ⟨some 37, none, .bslice [(.int .i64 0), (.int .i64 0), (.int .i64 0), (.slice none 0 0)] [(0, 4, .t 36)] 1 4⟩,
    ⟨some 38, none, .app 4 48 (.t 35) (.t 37)⟩,
    ⟨some 6, none, .mov (.t 38)⟩]
    [2, 4, 5, 6])
  (.seq (.region [⟨some 39, none, .mov (.t 6)⟩,
    ⟨some 40, none, .fieldAddr 2 (.t 2)⟩,
    ⟨some 41, none, .load false 1 (.t 40)⟩,
    ⟨some 42, none, .mov (.t 5)⟩,
    ⟨some 43, none, .sub 4 (.t 41) (some (.t 42)) none none⟩,
    ⟨some 44, none, .app 4 48 (.t 39) (.t 43)⟩,
    ⟨some 45, none, .fieldAddr 2 (.t 2)⟩,
    ⟨none, none, .store 1 (.t 45) (.t 44)⟩]
    [2, 4])
  (.seq (.region [⟨some 46, none, .load true 3 (.t 2)⟩,
    ⟨none, none, .store 3 (.t 4) (.t 46)⟩]
    [4])
  .ret))))))))⟩

def RC.ref04_With : RFn := ⟨2, [.slot 4],
  (.seq (.region [⟨some 4, none, .mov (.c (u64 0#64))⟩]
    [0, 1])
  (.seq (.seq (.region [⟨some 5, none, .mov (.t 0)⟩,
    ⟨some 6, none, .mov (.t 1)⟩,
    ⟨some 7, none, .call F.ref04_Has [.t 5, .t 6]⟩,
    ⟨some 8, none, .mov (.t 7)⟩,
    ⟨some 9, some (8, false), .mov (.t 1)⟩,
    ⟨some 10, some (8, false), .bin .lss (.t 9) (.c (.int .i64 0))⟩,
    ⟨some 11, none, .pick (.t 8) (.c (.bool true)) (.t 10)⟩,
    ⟨some 12, none, .mov (.t 11)⟩,
    ⟨some 13, some (12, false), .mov (.t 1)⟩,
    ⟨some 14, some (12, false), .bin .gtr (.t 13) (.c (.int .i64 63))⟩,
    ⟨some 15, none, .pick (.t 12) (.c (.bool true)) (.t 14)⟩]
    [0, 1, 15])
  (.cond (.t 15)
    (.seq (.region [⟨some 16, none, .mov (.t 0)⟩,
      ⟨some 4, none, .mov (.t 16)⟩]
      [4])
    .ret)
    .skip))
  (.seq (.region [⟨some 17, none, .mov (.t 0)⟩,
    ⟨some 18, none, .mov (.t 1)⟩,
    ⟨some 19, none, .conv .u64 (.t 18)⟩,
    ⟨some 20, none, .bin .shl (.c (u64 1#64)) (.t 19)⟩,
    ⟨some 21, none, .bin .add (.t 17) (.t 20)⟩,
    ⟨some 4, none, .mov (.t 21)⟩]
    [4])
  .ret)))⟩

def RC.ref16_Has : RFn := ⟨2, [.slot 4],
  (.seq (.region [⟨some 2, none, .box (.t 0)⟩,
    ⟨some 4, none, .mov (.c (.bool false))⟩]
    [1, 2])
  (.seq (.region [⟨some 5, none, .mov (.t 1)⟩,
    ⟨some 6, none, .bin .geq (.t 5) (.c (.int .i64 0))⟩,
    ⟨some 7, none, .mov (.t 6)⟩,
    ⟨some 8, some (7, true), .mov (.t 1)⟩,
    ⟨some 9, some (7, true), .bin .leq (.t 8) (.c (.int .i64 15))⟩,
    ⟨some 10, none, .pick (.t 7) (.t 9) (.c (.bool false))⟩,
    ⟨some 11, none, .mov (.t 10)⟩,
    ⟨some 12, some (11, true), .fieldAddr 1 (.t 2)⟩,
    ⟨some 13, some (11, true), .load false 1 (.t 12)⟩,
    ⟨some 14, some (11, true), .conv .u64 (.t 13)⟩,
    ⟨some 15, some (11, true), .mov (.t 1)⟩,
    ⟨some 16, some (11, true), .call F.ref04_Has [.t 14, .t 15]⟩,
    ⟨some 17, none, .pick (.t 11) (.t 16) (.c (.bool false))⟩,
    ⟨some 4, none, .mov (.t 17)⟩]
    [4])
  .ret))⟩

def RC.plan_place : RFn := ⟨2, [.slot 4],
  (.seq (.region [⟨some 2, none, .box (.t 0)⟩,
    ⟨some 3, none, .box (.t 1)⟩,
    ⟨some 4, none, .mov (.c (.bool false))⟩]
    [2, 3])
  (.seq (.seq (.region [⟨some 9, none, .fieldAddr 0 (.t 3)⟩,
    ⟨some 10, none, .load false 1 (.t 9)⟩,
    ⟨some 11, none, .call F.order_Kind [.t 10]⟩,
    ⟨some 8, none, .mov (.t 11)⟩,
    ⟨some 12, none, .ext 0 (.t 8)⟩,
    ⟨some 13, none, .ext 1 (.t 8)⟩,
    ⟨some 14, none, .ext 2 (.t 8)⟩,
    ⟨some 5, none, .mov (.t 12)⟩,
    ⟨some 6, none, .mov (.t 13)⟩,
    ⟨some 7, none, .mov (.t 14)⟩]
    [2, 3, 7])
  (.seq (.region [⟨some 15, none, .mov (.t 7)⟩,
    ⟨some 16, none, .un .not (.t 15)⟩,
    ⟨some 17, none, .mov (.t 16)⟩,
    ⟨some 18, some (17, false), .fieldAddr 1 (.t 3)⟩,
    ⟨some 19, some (17, false), .load false 1 (.t 18)⟩,
    ⟨some 20, some (17, false), .bin .lss (.t 19) (.c (.int .i64 1))⟩,
    ⟨some 21, none, .pick (.t 17) (.c (.bool true)) (.t 20)⟩,
    ⟨some 22, none, .mov (.t 21)⟩,
    ⟨some 23, some (22, false), .fieldAddr 1 (.t 3)⟩,
    ⟨some 24, some (22, false), .load false 1 (.t 23)⟩,
    ⟨some 25, some (22, false), .fieldAddr 0 (.t 2)⟩,
    ⟨some 26, some (22, false), .load false 1 (.t 25)⟩,
    ⟨some 27, some (22, false), .bin .gtr (.t 24) (.t 26)⟩,
    ⟨some 28, none, .pick (.t 22) (.c (.bool true)) (.t 27)⟩]
    [2, 3, 28])
  (.cond (.t 28)
    (.seq (.region [⟨some 4, none, .mov (.c (.bool false))⟩]
      [4])
    .ret)
    .skip)))
  (.seq (.seq (.region [⟨some 29, none, .load true 4 (.t 3)⟩,
    ⟨some 30, none, .call F.plan_split [.t 29]⟩]
    [2, 3, 30])
  (.cond (.t 30)
    (.seq (.region [⟨some 31, none, .load true 3 (.t 2)⟩,
      ⟨some 32, none, .load true 4 (.t 3)⟩,
      ⟨some 33, none, .call F.plan_pieces [.t 31, .t 32]⟩,
      ⟨some 4, none, .mov (.t 33)⟩]
      [4])
    .ret)
    .skip))
  (.seq (.region [⟨some 34, none, .load true 3 (.t 2)⟩,
    ⟨some 35, none, .fieldAddr 2 (.t 3)⟩,
    ⟨some 36, none, .load false 1 (.t 35)⟩,
    ⟨some 37, none, .call F.plan_has [.t 34, .t 36]⟩,
    ⟨some 4, none, .mov (.t 37)⟩]
    [4])
  .ret))))⟩

def RB.plan_apart_1 : RCode :=
  (.seq (.region [⟨some 19, none, .bin .lss (.t 18) (.t 17)⟩]
    [3, 9, 10, 11, 16, 17, 18, 19])
  (.seq (.cond (.t 19)
    .skip
    (.exit 2))
  (.seq (.block 3
    (.seq (.region [⟨some 20, none, .idxS 2 (.t 16) (.t 18)⟩,
      ⟨some 21, none, .load true 2 (.t 20)⟩,
      ⟨some 7, none, .alloc [(.int .i64 0), (u64 0#64)]⟩,
      ⟨none, none, .store 2 (.t 7) (.t 21)⟩]
      [3, 7, 9, 10, 11, 16, 17, 18])
    (.seq (.seq (.drawn [⟨some 22, none, .fieldAddr 0 (.t 7)⟩,
      ⟨some 23, none, .load false 1 (.t 22)⟩,
      ⟨some 24, none, .idxP 16 1 (.t 3) (.t 23)⟩,
      ⟨some 25, none, .load false 1 (.t 24)⟩,
      ⟨some 26, none, .fieldAddr 1 (.t 7)⟩,
      ⟨some 27, none, .load false 1 (.t 26)⟩,
      ⟨some 28, none, .bin .and (.t 25) (.t 27)⟩,
      ⟨some 29, none, .bin .neq (.t 28) (.c (u64 0#64))⟩]
      [[], [0], [1], [2], [], [4], [3, 5], [6]]
      [(0, []), (4, []), (1, []), (2, []), (3, []), (5, []), (6, []), (7, [])]
      [[], [0], [0, 1], [0, 1, 2], [], [4], [0, 1, 2, 3, 4, 5], [0, 1, 2, 3, 4, 5, 6]]
      [3, 7, 9, 10, 11, 16, 17, 18, 29])
    (.cond (.t 29)
      (.seq (.region [⟨some 2, none, .mov (.c (.bool false))⟩]
        [2])
      .ret)
      .skip))
    (.drawn [⟨some 30, none, .fieldAddr 0 (.t 7)⟩,
      ⟨some 31, none, .load false 1 (.t 30)⟩,
      ⟨some 32, none, .idxP 16 1 (.t 3) (.t 31)⟩,
      ⟨some 33, none, .load false 1 (.t 32)⟩,
      ⟨some 34, none, .fieldAddr 1 (.t 7)⟩,
      ⟨some 35, none, .load false 1 (.t 34)⟩,
      ⟨some 36, none, .bin .or (.t 33) (.t 35)⟩,
      ⟨some 37, none, .idxP 16 1 (.t 3) (.t 31)⟩,
      ⟨none, none, .store 1 (.t 37) (.t 36)⟩]
      [[], [0], [1], [2], [], [4], [3, 5], [1, 0, 1, 2, 3, 4, 5, 6], [7, 6, 0, 1, 2, 3, 4, 5, 6]]
      [(0, []), (4, []), (1, []), (2, []), (3, []), (5, []), (6, []), (7, []), (8, [])]
      [[], [0], [0, 1], [0, 1, 2], [], [4], [0, 1, 2, 3, 4, 5], [0, 1, 2, 3, 4, 5, 6], [0, 1, 2, 3, 4, 5, 6, 7]]
      [3, 9, 10, 11, 16, 17, 18]))) [3, 9, 10, 11, 16, 17, 18])
  (.region [⟨some 38, none, .bin .add (.t 18) (.c (.int .i64 1))⟩,
    ⟨some 18, none, .mov (.t 38)⟩]
    [3, 9, 10, 11, 16, 17, 18]))))
def RB.plan_apart_2 : RCode :=
  (.seq (.region [⟨some 12, none, .bin .lss (.t 11) (.t 10)⟩]
    [3, 9, 10, 11, 12])
  (.seq (.cond (.t 12)
    .skip
    (.exit 0))
  (.seq (.block 1
    (.seq (.region [⟨some 13, none, .idxS 4 (.t 9) (.t 11)⟩,
      ⟨some 14, none, .load true 4 (.t 13)⟩,
      ⟨some 5, none, .alloc [(.int .i64 0), (.int .i64 0), (.int .i64 0), (.slice none 0 0)]⟩,
      ⟨none, none, .store 4 (.t 5) (.t 14)⟩]
      [3, 5, 9, 10, 11])
    (.seq (.region [⟨some 15, none, .fieldAddr 3 (.t 5)⟩,
      ⟨some 16, none, .load false 1 (.t 15)⟩,
      ⟨some 17, none, .len (.t 16)⟩,
      ⟨some 18, none, .mov (.c (.int .i64 0))⟩]
      [3, 9, 10, 11, 16, 17, 18])
    (.block 2
      (.loop [3, 9, 10, 11, 16, 17, 18] RB.plan_apart_1) [3, 9, 10, 11]))) [3, 9, 10, 11])
  (.region [⟨some 39, none, .bin .add (.t 11) (.c (.int .i64 1))⟩,
    ⟨some 11, none, .mov (.t 39)⟩]
    [3, 9, 10, 11]))))
def RC.plan_apart : RFn := ⟨1, [.slot 2],
  (.seq (.region [⟨some 1, none, .box (.t 0)⟩,
    ⟨some 2, none, .mov (.c (.bool false))⟩]
    [1])
  (.seq (.region [⟨some 3, none, .alloc [(u64 0#64), (u64 0#64), (u64 0#64), (u64 0#64), (u64 0#64), (u64 0#64), (u64 0#64), (u64 0#64), (u64 0#64), (u64 0#64), (u64 0#64), (u64 0#64), (u64 0#64), (u64 0#64), (u64 0#64), (u64 0#64)]⟩]
    [1, 3])
  (.seq (.seq (.region [⟨some 8, none, .fieldAddr 2 (.t 1)⟩,
    ⟨some 9, none, .load false 1 (.t 8)⟩,
    ⟨some 10, none, .len (.t 9)⟩,
    ⟨some 11, none, .mov (.c (.int .i64 0))⟩]
    [3, 9, 10, 11])
  (.block 0
    (.loop [3, 9, 10, 11] RB.plan_apart_2) []))
  (.seq (.region [⟨some 2, none, .mov (.c (.bool true))⟩]
    [2])
  .ret))))⟩

def RB.plan_Splits_1 : RCode :=
  (.seq (.region [⟨some 10, none, .bin .lss (.t 9) (.t 8)⟩]
    [3, 7, 8, 9, 10])
  (.seq (.cond (.t 10)
    .skip
    (.exit 0))
  (.seq (.block 1
    (.seq (.region [⟨some 11, none, .idxS 4 (.t 7) (.t 9)⟩,
      ⟨some 12, none, .load true 4 (.t 11)⟩,
      ⟨some 5, none, .alloc [(.int .i64 0), (.int .i64 0), (.int .i64 0), (.slice none 0 0)]⟩,
      ⟨none, none, .store 4 (.t 5) (.t 12)⟩]
      [3, 5, 7, 8, 9])
    (.seq (.region [⟨some 13, none, .load true 4 (.t 5)⟩,
      ⟨some 14, none, .call F.plan_split [.t 13]⟩]
      [3, 7, 8, 9, 14])
    (.cond (.t 14)
      (.region [⟨some 15, none, .mov (.t 3)⟩,
        ⟨some 16, none, .bin .add (.t 15) (.c (.int .i64 1))⟩,
        ⟨some 3, none, .mov (.t 16)⟩]
        [3, 7, 8, 9])
      .skip))) [3, 7, 8, 9])
  (.region [⟨some 17, none, .bin .add (.t 9) (.c (.int .i64 1))⟩,
    ⟨some 9, none, .mov (.t 17)⟩]
    [3, 7, 8, 9]))))
def RC.plan_Splits : RFn := ⟨1, [.slot 2],
  (.seq (.region [⟨some 1, none, .box (.t 0)⟩,
    ⟨some 2, none, .mov (.c (.int .i64 0))⟩]
    [1])
  (.seq (.region [⟨some 3, none, .mov (.c (.int .i64 0))⟩]
    [1, 3])
  (.seq (.seq (.region [⟨some 6, none, .fieldAddr 2 (.t 1)⟩,
    ⟨some 7, none, .load false 1 (.t 6)⟩,
    ⟨some 8, none, .len (.t 7)⟩,
    ⟨some 9, none, .mov (.c (.int .i64 0))⟩]
    [3, 7, 8, 9])
  (.block 0
    (.loop [3, 7, 8, 9] RB.plan_Splits_1) [3]))
  (.seq (.region [⟨some 18, none, .mov (.t 3)⟩,
    ⟨some 2, none, .mov (.t 18)⟩]
    [2])
  .ret))))⟩

def RB.plan_left_1 : RCode :=
  (.seq (.region [⟨some 20, none, .bin .lss (.t 19) (.t 18)⟩]
    [5, 17, 18, 19, 20])
  (.seq (.cond (.t 20)
    .skip
    (.exit 0))
  (.seq (.block 1
    (.seq (.region [⟨some 21, none, .idxS 2 (.t 17) (.t 19)⟩,
      ⟨some 22, none, .load true 2 (.t 21)⟩,
      ⟨some 7, none, .alloc [(.int .i64 0), (.int .i64 0)]⟩,
      ⟨none, none, .store 2 (.t 7) (.t 22)⟩]
      [5, 7, 17, 18, 19])
    (.region [⟨some 23, none, .mov (.t 5)⟩,
      ⟨some 24, none, .fieldAddr 1 (.t 7)⟩,
      ⟨some 25, none, .load false 1 (.t 24)⟩,
      ⟨some 26, none, .bin .sub (.t 23) (.t 25)⟩,
      ⟨some 5, none, .mov (.t 26)⟩]
      [5, 17, 18, 19])) [5, 17, 18, 19])
  (.region [⟨some 27, none, .bin .add (.t 19) (.c (.int .i64 1))⟩,
    ⟨some 19, none, .mov (.t 27)⟩]
    [5, 17, 18, 19]))))
def RC.plan_left : RFn := ⟨2, [.slot 4],
  (.seq (.region [⟨some 2, none, .box (.t 0)⟩,
    ⟨some 4, none, .mov (.c (.int .i64 0))⟩]
    [1, 2])
  (.seq (.drawn [⟨some 8, none, .fieldAddr 0 (.t 2)⟩,
    ⟨some 9, none, .load false 1 (.t 8)⟩,
    ⟨some 10, none, .load true 3 (.t 2)⟩,
    ⟨some 11, none, .mov (.t 1)⟩,
    ⟨some 12, none, .call F.plan_Windows [.t 10, .t 11]⟩,
    ⟨some 13, none, .call F.mask_Count [.t 12]⟩,
    ⟨some 14, none, .bin .sub (.t 9) (.t 13)⟩,
    ⟨some 5, none, .mov (.t 14)⟩]
    [[], [0], [], [], [2, 3], [4, 4], [1, 5], [6, 5, 0, 1, 2, 3, 4, 5, 6]]
    [(0, []), (3, []), (1, []), (2, []), (4, [8]), (5, [8]), (6, []), (7, [])]
    [[], [0], [], [], [2, 3], [2, 3, 4], [0, 1, 2, 3, 4, 5], [0, 1, 2, 3, 4, 5, 6]]
    [1, 2, 5])
  (.seq (.seq (.region [⟨some 15, none, .load true 3 (.t 2)⟩,
    ⟨some 16, none, .mov (.t 1)⟩,
    ⟨some 17, none, .call F.plan_Wholes [.t 15, .t 16]⟩,
    ⟨some 18, none, .len (.t 17)⟩,
    ⟨some 19, none, .mov (.c (.int .i64 0))⟩]
    [5, 17, 18, 19])
  (.block 0
    (.loop [5, 17, 18, 19] RB.plan_left_1) [5]))
  (.seq (.region [⟨some 28, none, .mov (.t 5)⟩,
    ⟨some 4, none, .mov (.t 28)⟩]
    [4])
  .ret))))⟩

def RC.plan_has : RFn := ⟨2, [.slot 4],
  (.seq (.region [⟨some 2, none, .box (.t 0)⟩,
    ⟨some 4, none, .mov (.c (.bool false))⟩]
    [1, 2])
  (.seq (.region [⟨some 5, none, .mov (.t 1)⟩,
    ⟨some 6, none, .bin .geq (.t 5) (.c (.int .i64 0))⟩,
    ⟨some 7, none, .mov (.t 6)⟩,
    ⟨some 8, some (7, true), .mov (.t 1)⟩,
    ⟨some 9, some (7, true), .bin .lss (.t 8) (.c (.int .i64 16))⟩,
    ⟨some 10, none, .pick (.t 7) (.t 9) (.c (.bool false))⟩,
    ⟨some 11, none, .mov (.t 10)⟩,
    ⟨some 12, some (11, true), .fieldAddr 1 (.t 2)⟩,
    ⟨some 13, some (11, true), .load false 1 (.t 12)⟩,
    ⟨some 14, some (11, true), .mov (.t 1)⟩,
    ⟨some 15, some (11, true), .bin .shr (.t 13) (.t 14)⟩,
    ⟨some 16, some (11, true), .bin .and (.t 15) (.c (u32 1#32))⟩,
    ⟨some 17, some (11, true), .bin .eql (.t 16) (.c (u32 1#32))⟩,
    ⟨some 18, none, .pick (.t 11) (.t 17) (.c (.bool false))⟩,
    ⟨some 4, none, .mov (.t 18)⟩]
    [4])
  .ret))⟩

def RC.ref08_Is : RFn := ⟨1, [.slot 2],
  (.seq (.region [⟨some 2, none, .mov (.c (.bool false))⟩]
    [0])
  (.seq (.region [⟨some 3, none, .mov (.t 0)⟩,
    ⟨some 4, none, .bin .geq (.t 3) (.c (.int .i64 1))⟩,
    ⟨some 5, none, .mov (.t 4)⟩,
    ⟨some 6, some (5, true), .mov (.t 0)⟩,
    ⟨some 7, some (5, true), .bin .leq (.t 6) (.c (.int .i64 200))⟩,
    ⟨some 8, none, .pick (.t 5) (.t 7) (.c (.bool false))⟩,
    ⟨some 9, none, .mov (.t 8)⟩,
    ⟨some 10, some (9, false), .mov (.t 0)⟩,
    ⟨some 11, some (9, false), .bin .geq (.t 10) (.c (.int .i64 1001))⟩,
    ⟨some 12, some (9, false), .mov (.t 11)⟩,
    ⟨some 13, some (12, true), .mov (.t 0)⟩,
    ⟨some 14, some (12, true), .bin .leq (.t 13) (.c (.int .i64 1040))⟩,
    ⟨some 15, some (9, false), .pick (.t 12) (.t 14) (.c (.bool false))⟩,
    ⟨some 16, none, .pick (.t 9) (.c (.bool true)) (.t 15)⟩,
    ⟨some 2, none, .mov (.t 16)⟩]
    [2])
  .ret))⟩

def RB.ref16_At_1 : RCode :=
  (.seq (.seq (.region [⟨some 9, none, .mov (.t 8)⟩,
    ⟨some 10, none, .fieldAddr 3 (.t 3)⟩,
    ⟨some 11, none, .load false 1 (.t 10)⟩,
    ⟨some 12, none, .len (.t 11)⟩,
    ⟨some 13, none, .bin .lss (.t 9) (.t 12)⟩]
    [1, 2, 3, 7, 8, 13])
  (.cond (.t 13)
    .skip
    (.exit 0)))
  (.seq (.block 1
    (.seq (.region [⟨some 16, none, .mov (.t 1)⟩,
      ⟨some 17, none, .bin .lss (.t 16) (.c (.int .i64 0))⟩,
      ⟨some 18, none, .mov (.t 17)⟩,
      ⟨some 19, some (18, false), .fieldAddr 3 (.t 3)⟩,
      ⟨some 20, some (18, false), .load false 1 (.t 19)⟩,
      ⟨some 21, some (18, false), .mov (.t 8)⟩,
      ⟨some 22, some (18, false), .idxS 2 (.t 20) (.t 21)⟩,
      ⟨some 23, some (18, false), .fieldAddr 0 (.t 22)⟩,
      ⟨some 24, some (18, false), .load false 1 (.t 23)⟩,
      ⟨some 25, some (18, false), .mov (.t 1)⟩,
      ⟨some 26, some (18, false), .bin .eql (.t 24) (.t 25)⟩,
      ⟨some 27, none, .pick (.t 18) (.c (.bool true)) (.t 26)⟩,
      ⟨some 28, none, .mov (.t 27)⟩,
      ⟨some 29, some (28, true), .fieldAddr 3 (.t 3)⟩,
      ⟨some 30, some (28, true), .load false 1 (.t 29)⟩,
      ⟨some 31, some (28, true), .mov (.t 8)⟩,
      ⟨some 32, some (28, true), .idxS 2 (.t 30) (.t 31)⟩,
      ⟨some 33, some (28, true), .fieldAddr 1 (.t 32)⟩,
      ⟨some 34, some (28, true), .load false 1 (.t 33)⟩,
      ⟨some 35, some (28, true), .mov (.t 2)⟩,
      ⟨some 36, some (28, true), .call F.ref04_Has [.t 34, .t 35]⟩,
      ⟨some 37, none, .pick (.t 28) (.t 36) (.c (.bool false))⟩]
      [1, 2, 3, 7, 8, 37])
    (.cond (.t 37)
      (.region [⟨some 38, none, .mov (.t 7)⟩,
        ⟨some 39, none, .bin .add (.t 38) (.c (.int .i64 1))⟩,
        ⟨some 7, none, .mov (.t 39)⟩]
        [1, 2, 3, 7, 8])
      .skip)) [1, 2, 3, 7, 8])
  (.region [⟨some 14, none, .mov (.t 8)⟩,
    ⟨some 15, none, .bin .add (.t 14) (.c (.int .i64 1))⟩,
    ⟨some 8, none, .mov (.t 15)⟩]
    [1, 2, 3, 7, 8])))
def RC.ref16_At : RFn := ⟨3, [.slot 6],
  (.seq (.region [⟨some 3, none, .box (.t 0)⟩,
    ⟨some 6, none, .mov (.c (.int .i64 0))⟩]
    [1, 2, 3])
  (.seq (.region [⟨some 7, none, .mov (.c (.int .i64 0))⟩]
    [1, 2, 3, 7])
  (.seq (.seq (.region [⟨some 8, none, .mov (.c (.int .i64 0))⟩]
    [1, 2, 3, 7, 8])
  (.block 0
    (.loop [1, 2, 3, 7, 8] RB.ref16_At_1) [7]))
  (.seq (.region [⟨some 40, none, .mov (.t 7)⟩,
    ⟨some 6, none, .mov (.t 40)⟩]
    [6])
  .ret))))⟩

def RC.ref04_Count : RFn := ⟨1, [.slot 2],
  (.seq (.region [⟨some 2, none, .mov (.c (.int .i64 0))⟩]
    [0])
  (.seq (.region [⟨some 3, none, .mov (.t 0)⟩,
    ⟨some 4, none, .call F.ref04_Ticks [.t 3]⟩,
    ⟨some 5, none, .len (.t 4)⟩,
    ⟨some 2, none, .mov (.t 5)⟩]
    [2])
  .ret))⟩

def RB.ref16_Windows_1 : RCode :=
  (.seq (.seq (.region [⟨some 12, none, .mov (.t 7)⟩,
    ⟨some 13, none, .fieldAddr 2 (.t 2)⟩,
    ⟨some 14, none, .load false 1 (.t 13)⟩,
    ⟨some 15, none, .len (.t 14)⟩,
    ⟨some 16, none, .bin .lss (.t 12) (.t 15)⟩]
    [1, 2, 5, 6, 7, 16])
  (.cond (.t 16)
    .skip
    (.exit 2)))
  (.seq (.block 3
    (.seq (.region [⟨some 19, none, .fieldAddr 2 (.t 2)⟩,
      ⟨some 20, none, .load false 1 (.t 19)⟩,
      ⟨some 21, none, .mov (.t 7)⟩,
      ⟨some 22, none, .idxS 4 (.t 20) (.t 21)⟩,
      ⟨some 23, none, .load true 4 (.t 22)⟩,
      ⟨some 24, none, .mov (.t 1)⟩,
      ⟨some 25, none, .mov (.t 6)⟩,
      ⟨some 26, none, .call F.ref16_At [.t 23, .t 24, .t 25]⟩,
      ⟨some 27, none, .bin .gtr (.t 26) (.c (.int .i64 0))⟩]
      [1, 2, 5, 6, 7, 27])
    (.cond (.t 27)
      (.region [⟨some 28, none, .mov (.t 5)⟩,
        ⟨some 29, none, .mov (.t 6)⟩,
        ⟨some 30, none, .call F.ref04_With [.t 28, .t 29]⟩,
        ⟨some 5, none, .mov (.t 30)⟩]
        [1, 2, 5, 6, 7])
      .skip)) [1, 2, 5, 6, 7])
  (.region [⟨some 17, none, .mov (.t 7)⟩,
    ⟨some 18, none, .bin .add (.t 17) (.c (.int .i64 1))⟩,
    ⟨some 7, none, .mov (.t 18)⟩]
    [1, 2, 5, 6, 7])))
def RB.ref16_Windows_2 : RCode :=
  (.seq (.seq (.region [⟨some 8, none, .mov (.t 6)⟩,
    ⟨some 9, none, .bin .lss (.t 8) (.c (.int .i64 64))⟩]
    [1, 2, 5, 6, 9])
  (.cond (.t 9)
    .skip
    (.exit 0)))
  (.seq (.block 1
    (.seq (.region [⟨some 7, none, .mov (.c (.int .i64 0))⟩]
      [1, 2, 5, 6, 7])
    (.block 2
      (.loop [1, 2, 5, 6, 7] RB.ref16_Windows_1) [1, 2, 5, 6])) [1, 2, 5, 6])
  (.region [⟨some 10, none, .mov (.t 6)⟩,
    ⟨some 11, none, .bin .add (.t 10) (.c (.int .i64 1))⟩,
    ⟨some 6, none, .mov (.t 11)⟩]
    [1, 2, 5, 6])))
def RC.ref16_Windows : RFn := ⟨2, [.slot 4],
  (.seq (.region [⟨some 2, none, .box (.t 0)⟩,
    ⟨some 4, none, .mov (.c (u64 0#64))⟩]
    [1, 2])
  (.seq (.region [⟨some 5, none, .mov (.c (u64 0#64))⟩]
    [1, 2, 5])
  (.seq (.seq (.region [⟨some 6, none, .mov (.c (.int .i64 0))⟩]
    [1, 2, 5, 6])
  (.block 0
    (.loop [1, 2, 5, 6] RB.ref16_Windows_2) [5]))
  (.seq (.region [⟨some 31, none, .mov (.t 5)⟩,
    ⟨some 4, none, .mov (.t 31)⟩]
    [4])
  .ret))))⟩

def RB.ref16_Wholes_1 : RCode :=
  (.seq (.seq (.region [⟨some 9, none, .mov (.t 6)⟩,
    ⟨some 10, none, .fieldAddr 2 (.t 2)⟩,
    ⟨some 11, none, .load false 1 (.t 10)⟩,
    ⟨some 12, none, .len (.t 11)⟩,
    ⟨some 13, none, .bin .lss (.t 9) (.t 12)⟩]
    [1, 2, 5, 6, 13])
  (.cond (.t 13)
    .skip
    (.exit 0)))
  (.seq (.block 1
    (.seq (.region [⟨some 16, none, .fieldAddr 2 (.t 2)⟩,
      ⟨some 17, none, .load false 1 (.t 16)⟩,
      ⟨some 18, none, .mov (.t 6)⟩,
      ⟨some 19, none, .idxS 4 (.t 17) (.t 18)⟩,
      ⟨some 20, none, .load true 4 (.t 19)⟩,
      ⟨some 7, none, .alloc [(.int .i64 0), (.int .i64 0), (.int .i64 0), (.slice none 0 0)]⟩,
      ⟨none, none, .store 4 (.t 7) (.t 20)⟩]
      [1, 2, 5, 6, 7])
    (.seq (.region [⟨some 21, none, .fieldAddr 3 (.t 7)⟩,
      ⟨some 22, none, .load false 1 (.t 21)⟩,
      ⟨some 23, none, .len (.t 22)⟩,
      ⟨some 24, none, .bin .eql (.t 23) (.c (.int .i64 0))⟩,
      ⟨some 25, none, .mov (.t 24)⟩,
      ⟨some 26, some (25, true), .fieldAddr 2 (.t 7)⟩,
      ⟨some 27, some (25, true), .load false 1 (.t 26)⟩,
      ⟨some 28, some (25, true), .mov (.t 1)⟩,
      ⟨some 29, some (25, true), .bin .eql (.t 27) (.t 28)⟩,
      ⟨some 30, none, .pick (.t 25) (.t 29) (.c (.bool false))⟩]
      [1, 2, 5, 6, 7, 30])
    (.cond (.t 30)
      (.region [⟨some 31, none, .mov (.t 5)⟩,
        ⟨some 32, none, .fieldAddr 0 (.t 7)⟩,
        ⟨some 33, none, .load false 1 (.t 32)⟩,
        ⟨some 34, none, .fieldAddr 1 (.t 7)⟩,
        ⟨some 35, none, .load false 1 (.t 34)⟩,
        ⟨some 36, none, .build [(.int .i64 0), (.int .i64 0)] [(0, 1, .t 33), (1, 1, .t 35)]⟩,
        ⟨some 37, none, .bslice [(.int .i64 0), (.int .i64 0)] [(0, 2, .t 36)] 1 2⟩,
        ⟨some 38, none, .app 2 16 (.t 31) (.t 37)⟩,
        ⟨some 5, none, .mov (.t 38)⟩]
        [1, 2, 5, 6])
      .skip))) [1, 2, 5, 6])
  (.region [⟨some 14, none, .mov (.t 6)⟩,
    ⟨some 15, none, .bin .add (.t 14) (.c (.int .i64 1))⟩,
    ⟨some 6, none, .mov (.t 15)⟩]
    [1, 2, 5, 6])))
def RC.ref16_Wholes : RFn := ⟨2, [.slot 4],
  (.seq (.region [⟨some 2, none, .box (.t 0)⟩,
    ⟨some 4, none, .mov (.c (.slice none 0 0))⟩]
    [1, 2])
  (.seq (.region [⟨some 8, none, .bslice [] [] 0 2⟩,
    ⟨some 5, none, .mov (.t 8)⟩]
    [1, 2, 5])
  (.seq (.seq (.region [⟨some 6, none, .mov (.c (.int .i64 0))⟩]
    [1, 2, 5, 6])
  (.block 0
    (.loop [1, 2, 5, 6] RB.ref16_Wholes_1) [5]))
  (.seq (.region [⟨some 39, none, .mov (.t 5)⟩,
    ⟨some 4, none, .mov (.t 39)⟩]
    [4])
  .ret))))⟩

def RB.order_Check_1 : RCode :=
  (.seq (.region [⟨some 23, none, .bin .lss (.t 22) (.t 21)⟩]
    [0, 5, 20, 21, 22, 23])
  (.seq (.cond (.t 23)
    .skip
    (.exit 0))
  (.seq (.block 1
    (.seq (.region [⟨some 24, none, .idxS 2 (.t 20) (.t 22)⟩,
      ⟨some 25, none, .load true 2 (.t 24)⟩,
      ⟨some 7, none, .alloc [(.int .i64 0), (.int .i64 0)]⟩,
      ⟨none, none, .store 2 (.t 7) (.t 25)⟩]
      [0, 5, 7, 20, 21, 22])
    (.seq (.seq (.region [⟨some 27, none, .fieldAddr 0 (.t 7)⟩,
      ⟨some 28, none, .load false 1 (.t 27)⟩,
      ⟨some 29, none, .call F.order_Kind [.t 28]⟩,
      ⟨some 26, none, .mov (.t 29)⟩,
      ⟨some 30, none, .ext 0 (.t 26)⟩,
      ⟨some 31, none, .ext 1 (.t 26)⟩,
      ⟨some 32, none, .ext 2 (.t 26)⟩,
      ⟨some 8, none, .mov (.t 30)⟩,
      ⟨some 9, none, .mov (.t 31)⟩,
      ⟨some 10, none, .mov (.t 32)⟩]
      [0, 5, 7, 10, 20, 21, 22])
    (.seq (.region [⟨some 33, none, .mov (.t 10)⟩,
      ⟨some 34, none, .un .not (.t 33)⟩]
      [0, 5, 7, 20, 21, 22, 34])
    (.cond (.t 34)
      (.seq (.region [⟨some 4, none, .mov (.c (.int .i64 20))⟩]
        [4])
      .ret)
      .skip)))
    (.seq (.seq (.region [⟨some 35, none, .fieldAddr 1 (.t 7)⟩,
      ⟨some 36, none, .load false 1 (.t 35)⟩,
      ⟨some 37, none, .bin .lss (.t 36) (.c (.int .i64 1))⟩,
      ⟨some 38, none, .mov (.t 37)⟩,
      ⟨some 39, some (38, false), .fieldAddr 1 (.t 7)⟩,
      ⟨some 40, some (38, false), .load false 1 (.t 39)⟩,
      ⟨some 41, some (38, false), .mov (.t 0)⟩,
      ⟨some 42, some (38, false), .bin .gtr (.t 40) (.t 41)⟩,
      ⟨some 43, none, .pick (.t 38) (.c (.bool true)) (.t 42)⟩]
      [0, 5, 7, 20, 21, 22, 43])
    (.cond (.t 43)
      (.seq (.region [⟨some 4, none, .mov (.c (.int .i64 21))⟩]
        [4])
      .ret)
      .skip))
    (.seq (.seq (.region [⟨some 45, none, .mov (.t 5)⟩,
      ⟨some 46, none, .fieldAddr 0 (.t 7)⟩,
      ⟨some 47, none, .load false 1 (.t 46)⟩,
      ⟨some 48, none, .look .int (.agg #[]) true (.t 45) (.t 47)⟩,
      ⟨some 44, none, .mov (.t 48)⟩,
      ⟨some 49, none, .ext 0 (.t 44)⟩,
      ⟨some 50, none, .ext 1 (.t 44)⟩,
      ⟨some 11, none, .alloc []⟩,
      ⟨none, none, .store 0 (.t 11) (.t 49)⟩,
      ⟨some 12, none, .mov (.t 50)⟩]
      [0, 5, 7, 12, 20, 21, 22])
    (.seq (.region [⟨some 51, none, .mov (.t 12)⟩]
      [0, 5, 7, 20, 21, 22, 51])
    (.cond (.t 51)
      (.seq (.region [⟨some 4, none, .mov (.c (.int .i64 11))⟩]
        [4])
      .ret)
      .skip)))
    (.region [⟨some 52, none, .mov (.t 5)⟩,
      ⟨some 53, none, .fieldAddr 0 (.t 7)⟩,
      ⟨some 54, none, .load false 1 (.t 53)⟩,
      ⟨some 55, none, .build [] []⟩,
      ⟨none, none, .upd .int (.t 52) (.t 54) (.t 55)⟩]
      [0, 5, 20, 21, 22]))))) [0, 5, 20, 21, 22])
  (.region [⟨some 56, none, .bin .add (.t 22) (.c (.int .i64 1))⟩,
    ⟨some 22, none, .mov (.t 56)⟩]
    [0, 5, 20, 21, 22]))))
def RC.order_Check : RFn := ⟨2, [.slot 4],
  (.seq (.region [⟨some 4, none, .mov (.c (.int .i64 0))⟩]
    [0, 1])
  (.seq (.seq (.region [⟨some 13, none, .mov (.t 0)⟩,
    ⟨some 14, none, .bin .lss (.t 13) (.c (.int .i64 2))⟩,
    ⟨some 15, none, .mov (.t 14)⟩,
    ⟨some 16, some (15, false), .mov (.t 0)⟩,
    ⟨some 17, some (15, false), .bin .gtr (.t 16) (.c (.int .i64 64))⟩,
    ⟨some 18, none, .pick (.t 15) (.c (.bool true)) (.t 17)⟩]
    [0, 1, 18])
  (.cond (.t 18)
    (.seq (.region [⟨some 4, none, .mov (.c (.int .i64 1))⟩]
      [4])
    .ret)
    .skip))
  (.seq (.region [⟨some 19, none, .mkmap⟩,
    ⟨some 5, none, .mov (.t 19)⟩]
    [0, 1, 5])
  (.seq (.seq (.region [⟨some 20, none, .mov (.t 1)⟩,
    ⟨some 21, none, .len (.t 20)⟩,
    ⟨some 22, none, .mov (.c (.int .i64 0))⟩]
    [0, 5, 20, 21, 22])
  (.block 0
    (.loop [0, 5, 20, 21, 22] RB.order_Check_1) []))
  (.seq (.region [⟨some 4, none, .mov (.c (.int .i64 0))⟩]
    [4])
  .ret)))))⟩

def RC.plan_Find : RFn := ⟨2, [.cell 4 true 4, .slot 5],
  (.seq (.region [⟨some 2, none, .box (.t 0)⟩,
    ⟨some 4, none, .alloc [(.int .i64 0), (.int .i64 0), (.int .i64 0), (.slice none 0 0)]⟩,
    ⟨some 5, none, .mov (.c (.bool false))⟩]
    [1, 2, 4])
  (.seq (.region [⟨some 10, none, .load true 3 (.t 2)⟩,
    ⟨some 11, none, .mov (.t 1)⟩,
    ⟨some 12, none, .call F.plan_find [.t 10, .t 11]⟩,
    ⟨some 9, none, .mov (.t 12)⟩,
    ⟨some 13, none, .ext 0 (.t 9)⟩,
    ⟨some 14, none, .ext 1 (.t 9)⟩,
    ⟨some 6, none, .mov (.t 13)⟩,
    ⟨some 7, none, .mov (.t 14)⟩]
    [2, 4, 6, 7])
  (.seq (.seq (.region [⟨some 15, none, .mov (.t 7)⟩,
    ⟨some 16, none, .un .not (.t 15)⟩]
    [2, 4, 6, 16])
  (.cond (.t 16)
    (.seq (.region [⟨some 17, none, .build [(.int .i64 0), (.int .i64 0), (.int .i64 0), (.slice none 0 0)] []⟩,
      ⟨none, none, .store 4 (.t 4) (.t 17)⟩,
      ⟨some 5, none, .mov (.c (.bool false))⟩]
      [4, 5])
    .ret)
    .skip))
  (.seq (.region [⟨some 18, none, .fieldAddr 2 (.t 2)⟩,
    ⟨some 19, none, .load false 1 (.t 18)⟩,
    ⟨some 20, none, .mov (.t 6)⟩,
    ⟨some 21, none, .idxS 4 (.t 19) (.t 20)⟩,
    ⟨some 22, none, .load true 4 (.t 21)⟩,
    ⟨some 8, none, .alloc [(.int .i64 0), (.int .i64 0), (.int .i64 0), (.slice none 0 0)]⟩,
    ⟨none, none, .store 4 (.t 8) (.t 22)⟩]
    [4, 8])
  (.seq (.region [⟨some 23, none, .fieldAddr 3 (.t 8)⟩,
    ⟨some 24, none, .load false 1 (.t 23)⟩,
    ⟨some 25, none, .call F.slices_Clone_api_Piece_api_Piece [.t 24]⟩,
    ⟨some 26, none, .fieldAddr 3 (.t 8)⟩,
    ⟨none, none, .store 1 (.t 26) (.t 25)⟩]
    [4, 8])
  (.seq (.region [⟨some 27, none, .load true 4 (.t 8)⟩,
    ⟨none, none, .store 4 (.t 4) (.t 27)⟩,
    ⟨some 5, none, .mov (.c (.bool true))⟩]
    [4, 5])
  .ret))))))⟩

def RB.order_Total_1 : RCode :=
  (.seq (.region [⟨some 12, none, .bin .lss (.t 11) (.t 10)⟩]
    [4, 9, 10, 11, 12])
  (.seq (.cond (.t 12)
    .skip
    (.exit 0))
  (.seq (.block 1
    (.seq (.region [⟨some 13, none, .idxS 2 (.t 9) (.t 11)⟩,
      ⟨some 14, none, .load true 2 (.t 13)⟩,
      ⟨some 6, none, .alloc [(.int .i64 0), (.int .i64 0)]⟩,
      ⟨none, none, .store 2 (.t 6) (.t 14)⟩]
      [4, 6, 9, 10, 11])
    (.seq (.region [⟨some 16, none, .mov (.t 4)⟩,
      ⟨some 17, none, .fieldAddr 1 (.t 6)⟩,
      ⟨some 18, none, .load false 1 (.t 17)⟩,
      ⟨some 19, none, .call F.fixq_Add [.t 16, .t 18]⟩,
      ⟨some 15, none, .mov (.t 19)⟩,
      ⟨some 20, none, .ext 0 (.t 15)⟩,
      ⟨some 21, none, .ext 1 (.t 15)⟩,
      ⟨some 7, none, .mov (.t 20)⟩,
      ⟨some 8, none, .mov (.t 21)⟩]
      [7, 8, 9, 10, 11])
    (.seq (.seq (.region [⟨some 22, none, .mov (.t 8)⟩,
      ⟨some 23, none, .bin .neq (.t 22) (.c (.int .i64 0))⟩]
      [7, 8, 9, 10, 11, 23])
    (.cond (.t 23)
      (.seq (.region [⟨some 24, none, .mov (.t 8)⟩,
        ⟨some 2, none, .mov (.c (.int .i64 0))⟩,
        ⟨some 3, none, .mov (.t 24)⟩]
        [2, 3])
      .ret)
      .skip))
    (.region [⟨some 25, none, .mov (.t 7)⟩,
      ⟨some 4, none, .mov (.t 25)⟩]
      [4, 9, 10, 11])))) [4, 9, 10, 11])
  (.region [⟨some 26, none, .bin .add (.t 11) (.c (.int .i64 1))⟩,
    ⟨some 11, none, .mov (.t 26)⟩]
    [4, 9, 10, 11]))))
def RC.order_Total : RFn := ⟨1, [.slot 2, .slot 3],
  (.seq (.region [⟨some 2, none, .mov (.c (.int .i64 0))⟩,
    ⟨some 3, none, .mov (.c (.int .i64 0))⟩]
    [0])
  (.seq (.region [⟨some 4, none, .mov (.c (.int .i64 0))⟩]
    [0, 4])
  (.seq (.seq (.region [⟨some 9, none, .mov (.t 0)⟩,
    ⟨some 10, none, .len (.t 9)⟩,
    ⟨some 11, none, .mov (.c (.int .i64 0))⟩]
    [4, 9, 10, 11])
  (.block 0
    (.loop [4, 9, 10, 11] RB.order_Total_1) [4]))
  (.seq (.region [⟨some 27, none, .mov (.t 4)⟩,
    ⟨some 2, none, .mov (.t 27)⟩,
    ⟨some 3, none, .mov (.c (.int .i64 0))⟩]
    [2, 3])
  .ret))))⟩

def RB.plan_Free_1 : RCode :=
  (.seq (.region [⟨some 10, none, .bin .lss (.t 9) (.t 8)⟩]
    [1, 3, 7, 8, 9, 10])
  (.seq (.cond (.t 10)
    .skip
    (.exit 0))
  (.seq (.block 1
    (.seq (.region [⟨some 11, none, .idxS 1 (.t 7) (.t 9)⟩,
      ⟨some 12, none, .load false 1 (.t 11)⟩,
      ⟨some 5, none, .mov (.t 12)⟩]
      [1, 3, 5, 7, 8, 9])
    (.region [⟨some 13, none, .mov (.t 3)⟩,
      ⟨some 14, none, .load true 3 (.t 1)⟩,
      ⟨some 15, none, .mov (.t 5)⟩,
      ⟨some 16, none, .call F.plan_Room [.t 14, .t 15]⟩,
      ⟨some 17, none, .bin .add (.t 13) (.t 16)⟩,
      ⟨some 3, none, .mov (.t 17)⟩]
      [1, 3, 7, 8, 9])) [1, 3, 7, 8, 9])
  (.region [⟨some 18, none, .bin .add (.t 9) (.c (.int .i64 1))⟩,
    ⟨some 9, none, .mov (.t 18)⟩]
    [1, 3, 7, 8, 9]))))
def RC.plan_Free : RFn := ⟨1, [.slot 2],
  (.seq (.region [⟨some 1, none, .box (.t 0)⟩,
    ⟨some 2, none, .mov (.c (.int .i64 0))⟩]
    [1])
  (.seq (.region [⟨some 3, none, .mov (.c (.int .i64 0))⟩]
    [1, 3])
  (.seq (.seq (.region [⟨some 6, none, .load true 3 (.t 1)⟩,
    ⟨some 7, none, .call F.plan_Cores [.t 6]⟩,
    ⟨some 8, none, .len (.t 7)⟩,
    ⟨some 9, none, .mov (.c (.int .i64 0))⟩]
    [1, 3, 7, 8, 9])
  (.block 0
    (.loop [1, 3, 7, 8, 9] RB.plan_Free_1) [3]))
  (.seq (.region [⟨some 19, none, .mov (.t 3)⟩,
    ⟨some 2, none, .mov (.t 19)⟩]
    [2])
  .ret))))⟩

def RB.plan_clone_1 : RCode :=
  (.seq (.region [⟨some 14, none, .bin .lss (.t 13) (.t 12)⟩]
    [1, 2, 3, 11, 12, 13, 14])
  (.seq (.cond (.t 14)
    .skip
    (.exit 0))
  (.seq (.block 1
    (.seq (.region [⟨some 15, none, .idxS 4 (.t 11) (.t 13)⟩,
      ⟨some 16, none, .load true 4 (.t 15)⟩,
      ⟨some 5, none, .alloc [(.int .i64 0), (.int .i64 0), (.int .i64 0), (.slice none 0 0)]⟩,
      ⟨none, none, .store 4 (.t 5) (.t 16)⟩]
      [1, 2, 3, 5, 11, 12, 13])
    (.seq (.region [⟨some 17, none, .fieldAddr 3 (.t 5)⟩,
      ⟨some 18, none, .load false 1 (.t 17)⟩,
      ⟨some 19, none, .call F.slices_Clone_api_Piece_api_Piece [.t 18]⟩,
      ⟨some 20, none, .fieldAddr 3 (.t 5)⟩,
      ⟨none, none, .store 1 (.t 20) (.t 19)⟩]
      [1, 2, 3, 5, 11, 12, 13])
    (.region [⟨some 21, none, .mov (.t 3)⟩,
      ⟨some 22, none, .load true 4 (.t 5)⟩,
      ⟨some 23, none, .bslice [(.int .i64 0), (.int .i64 0), (.int .i64 0), (.slice none 0 0)] [(0, 4, .t 22)] 1 4⟩,
      ⟨some 24, none, .app 4 48 (.t 21) (.t 23)⟩,
      ⟨some 3, none, .mov (.t 24)⟩]
      [1, 2, 3, 11, 12, 13]))) [1, 2, 3, 11, 12, 13])
  (.region [⟨some 25, none, .bin .add (.t 13) (.c (.int .i64 1))⟩,
    ⟨some 13, none, .mov (.t 25)⟩]
    [1, 2, 3, 11, 12, 13]))))
def RC.plan_clone : RFn := ⟨1, [.cell 2 true 3],
  (.seq (.region [⟨some 1, none, .box (.t 0)⟩,
    ⟨some 2, none, .alloc [(.int .i64 0), (u32 0#32), (.slice none 0 0)]⟩]
    [1, 2])
  (.seq (.region [⟨some 6, none, .fieldAddr 2 (.t 1)⟩,
    ⟨some 7, none, .load false 1 (.t 6)⟩,
    ⟨some 8, none, .len (.t 7)⟩,
    ⟨some 9, none, .mkslice 4 48 [(.int .i64 0), (.int .i64 0), (.int .i64 0), (.slice none 0 0)] (.c (.int .i64 0)) (.t 8)⟩,
    ⟨some 3, none, .mov (.t 9)⟩]
    [1, 2, 3])
  (.seq (.seq (.region [⟨some 10, none, .fieldAddr 2 (.t 1)⟩,
    ⟨some 11, none, .load false 1 (.t 10)⟩,
    ⟨some 12, none, .len (.t 11)⟩,
    ⟨some 13, none, .mov (.c (.int .i64 0))⟩]
    [1, 2, 3, 11, 12, 13])
  (.block 0
    (.loop [1, 2, 3, 11, 12, 13] RB.plan_clone_1) [1, 2, 3]))
  (.seq (.region [⟨some 26, none, .mov (.t 3)⟩,
    ⟨some 27, none, .fieldAddr 2 (.t 1)⟩,
    ⟨none, none, .store 1 (.t 27) (.t 26)⟩]
    [1, 2])
  (.seq (.region [⟨some 28, none, .load true 3 (.t 1)⟩,
    ⟨none, none, .store 3 (.t 2) (.t 28)⟩]
    [2])
  .ret)))))⟩

def RC.plan_find : RFn := ⟨2, [.slot 4, .slot 5],
  (.seq (.region [⟨some 2, none, .box (.t 0)⟩,
    ⟨some 4, none, .mov (.c (.int .i64 0))⟩,
    ⟨some 5, none, .mov (.c (.bool false))⟩]
    [1, 2])
  (.seq (.region [⟨some 6, none, .fieldAddr 2 (.t 2)⟩,
    ⟨some 7, none, .load false 1 (.t 6)⟩,
    ⟨some 8, none, .mov (.t 1)⟩,
    ⟨some 9, none, .call F.slices_BinarySearchFunc_api_Place_api_Place_int [.t 7, .t 8, .f F.plan_find_1]⟩,
    ⟨some 10, none, .ext 0 (.t 9)⟩,
    ⟨some 11, none, .ext 1 (.t 9)⟩,
    ⟨some 4, none, .mov (.t 10)⟩,
    ⟨some 5, none, .mov (.t 11)⟩]
    [4, 5])
  .ret))⟩

def RC.slices_Delete_api_Place_api_Place : RFn := ⟨3, [.slot 6],
  (.seq (.region [⟨some 6, none, .mov (.c (.slice none 0 0))⟩]
    [0, 1, 2])
  (.seq (.region [⟨some 8, none, .mov (.t 0)⟩,
    ⟨some 9, none, .mov (.t 1)⟩,
    ⟨some 10, none, .mov (.t 2)⟩,
    ⟨some 11, none, .mov (.t 0)⟩,
    ⟨some 12, none, .len (.t 11)⟩,
    ⟨some 13, none, .sub 4 (.t 8) (some (.t 9)) (some (.t 10)) (some (.t 12))⟩]
    [0, 1, 2])
  (.seq (.seq (.region [⟨some 14, none, .mov (.t 1)⟩,
    ⟨some 15, none, .mov (.t 2)⟩,
    ⟨some 16, none, .bin .eql (.t 14) (.t 15)⟩]
    [0, 1, 2, 16])
  (.cond (.t 16)
    (.seq (.region [⟨some 17, none, .mov (.t 0)⟩,
      ⟨some 6, none, .mov (.t 17)⟩]
      [6])
    .ret)
    .skip))
  (.seq (.region [⟨some 18, none, .mov (.t 0)⟩,
    ⟨some 19, none, .len (.t 18)⟩,
    ⟨some 7, none, .mov (.t 19)⟩]
    [0, 1, 2, 7])
  (.seq (.drawn [⟨some 20, none, .mov (.t 0)⟩,
    ⟨some 21, none, .mov (.t 1)⟩,
    ⟨some 22, none, .sub 4 (.t 20) none (some (.t 21)) none⟩,
    ⟨some 23, none, .mov (.t 0)⟩,
    ⟨some 24, none, .mov (.t 2)⟩,
    ⟨some 25, none, .sub 4 (.t 23) (some (.t 24)) none none⟩,
    ⟨some 26, none, .app 4 48 (.t 22) (.t 25)⟩,
    ⟨some 0, none, .mov (.t 26)⟩]
    [[], [], [0, 1], [], [], [3, 4], [2, 5], [6, 6, 0, 1, 2, 3, 4, 5, 6]]
    [(0, []), (1, []), (3, []), (4, []), (2, []), (5, []), (6, []), (7, [])]
    [[], [], [0, 1], [], [], [3, 4], [0, 1, 2, 3, 4, 5], [0, 1, 2, 3, 4, 5, 6]]
    [0, 7])
  (.seq (.region [⟨some 27, none, .mov (.t 0)⟩,
    ⟨some 28, none, .mov (.t 0)⟩,
    ⟨some 29, none, .len (.t 28)⟩,
    ⟨some 30, none, .mov (.t 7)⟩,
    ⟨some 31, none, .sub 4 (.t 27) (some (.t 29)) (some (.t 30)) none⟩,
    ⟨none, none, .clr 4 [(.int .i64 0), (.int .i64 0), (.int .i64 0), (.slice none 0 0)] (.t 31)⟩]
    [0])
  (.seq (.region [⟨some 32, none, .mov (.t 0)⟩,
    ⟨some 6, none, .mov (.t 32)⟩]
    [6])
  .ret)))))))⟩

def RC.slices_Clone_api_Piece_api_Piece : RFn := ⟨1, [.slot 2],
  (.seq (.region [⟨some 2, none, .mov (.c (.slice none 0 0))⟩]
    [0])
  (.seq (.seq (.region [⟨some 3, none, .mov (.t 0)⟩,
    ⟨some 4, none, .eq false .slice (.t 3) (.c (.slice none 0 0))⟩]
    [0, 4])
  (.cond (.t 4)
    (.seq (.region [⟨some 2, none, .mov (.c (.slice none 0 0))⟩]
      [2])
    .ret)
    .skip))
  (.seq (.region [⟨some 5, none, .bslice [] [] 0 2⟩,
    ⟨some 6, none, .mov (.t 0)⟩,
    ⟨some 7, none, .app 2 16 (.t 5) (.t 6)⟩,
    ⟨some 2, none, .mov (.t 7)⟩]
    [2])
  .ret)))⟩

def RB.chain_chain_on_1 : RCode :=
  (.seq (.seq (.drawn [⟨some 2, none, .mov (.t 0)⟩,
    ⟨some 3, none, .nilchk (.t 2)⟩,
    ⟨some 4, none, .fieldAddr 2 (.t 3)⟩,
    ⟨some 5, none, .load false 1 (.t 4)⟩,
    ⟨some 6, none, .mov (.t 0)⟩,
    ⟨some 7, none, .nilchk (.t 6)⟩,
    ⟨some 8, none, .fieldAddr 1 (.t 7)⟩,
    ⟨some 9, none, .load false 1 (.t 8)⟩,
    ⟨some 10, none, .len (.t 9)⟩,
    ⟨some 11, none, .bin .lss (.t 5) (.t 10)⟩,
    ⟨some 12, none, .mov (.t 11)⟩,
    ⟨some 13, some (12, true), .mov (.t 0)⟩,
    ⟨some 14, some (12, true), .nilchk (.t 13)⟩,
    ⟨some 15, some (12, true), .fieldAddr 1 (.t 14)⟩,
    ⟨some 16, some (12, true), .load false 1 (.t 15)⟩,
    ⟨some 17, some (12, true), .mov (.t 0)⟩,
    ⟨some 18, some (12, true), .nilchk (.t 17)⟩,
    ⟨some 19, some (12, true), .fieldAddr 2 (.t 18)⟩,
    ⟨some 20, some (12, true), .load false 1 (.t 19)⟩,
    ⟨some 21, some (12, true), .idxS 1 (.t 16) (.t 20)⟩,
    ⟨some 22, some (12, true), .load false 1 (.t 21)⟩,
    ⟨some 23, some (12, true), .bin .eql (.t 22) (.c (.int .i64 0))⟩,
    ⟨some 24, none, .pick (.t 12) (.t 23) (.c (.bool false))⟩]
    [[], [0], [1], [2], [], [4], [5], [6], [7], [3, 8], [9], [10], [11, 10], [12, 10], [13, 10], [10], [15, 10], [16, 10], [17, 10], [14, 18, 10], [19, 10], [20, 10], [10, 21]]
    [(0, []), (1, []), (2, []), (4, []), (5, []), (6, []), (3, []), (7, []), (8, []), (9, []), (10, []), (11, []), (12, []), (13, []), (15, []), (16, []), (17, []), (14, []), (18, []), (19, []), (20, []), (21, []), (22, [])]
    [[], [0], [0, 1], [0, 1, 2], [], [4], [4, 5], [4, 5, 6], [4, 5, 6, 7], [0, 1, 2, 3, 4, 5, 6, 7, 8], [0, 1, 2, 3, 4, 5, 6, 7, 8, 9], [0, 1, 2, 3, 4, 5, 6, 7, 8, 9, 10], [0, 1, 2, 3, 4, 5, 6, 7, 8, 9, 10, 11], [0, 1, 2, 3, 4, 5, 6, 7, 8, 9, 10, 11, 12], [0, 1, 2, 3, 4, 5, 6, 7, 8, 9, 10, 11, 12, 13], [0, 1, 2, 3, 4, 5, 6, 7, 8, 9, 10], [0, 1, 2, 3, 4, 5, 6, 7, 8, 9, 10, 15], [0, 1, 2, 3, 4, 5, 6, 7, 8, 9, 10, 15, 16], [0, 1, 2, 3, 4, 5, 6, 7, 8, 9, 10, 15, 16, 17], [0, 1, 2, 3, 4, 5, 6, 7, 8, 9, 10, 11, 12, 13, 14, 15, 16, 17, 18], [0, 1, 2, 3, 4, 5, 6, 7, 8, 9, 10, 11, 12, 13, 14, 15, 16, 17, 18, 19], [0, 1, 2, 3, 4, 5, 6, 7, 8, 9, 10, 11, 12, 13, 14, 15, 16, 17, 18, 19, 20], [0, 1, 2, 3, 4, 5, 6, 7, 8, 9, 10, 11, 12, 13, 14, 15, 16, 17, 18, 19, 20, 21]]
    [0, 24])
  (.cond (.t 24)
    .skip
    (.exit 0)))
  (.block 1
    (.region [⟨some 25, none, .mov (.t 0)⟩,
      ⟨some 26, none, .nilchk (.t 25)⟩,
      ⟨some 27, none, .fieldAddr 2 (.t 26)⟩,
      ⟨some 28, none, .load false 1 (.t 27)⟩,
      ⟨some 29, none, .bin .add (.t 28) (.c (.int .i64 1))⟩,
      ⟨some 30, none, .nilchk (.t 25)⟩,
      ⟨some 31, none, .fieldAddr 2 (.t 30)⟩,
      ⟨none, none, .store 1 (.t 31) (.t 29)⟩]
      [0]) [0]))
def RC.chain_chain_on : RFn := ⟨1, [],
  (.block 0
    (.loop [0] RB.chain_chain_on_1) [])⟩

def RC.chain_chain_take : RFn := ⟨2, [.cell 4 true 2],
  (.seq (.region [⟨some 4, none, .alloc [(.int .i64 0), (u64 0#64)]⟩]
    [0, 1, 4])
  (.seq (.drawn [⟨some 6, none, .mov (.t 0)⟩,
    ⟨some 7, none, .nilchk (.t 6)⟩,
    ⟨some 8, none, .fieldAddr 2 (.t 7)⟩,
    ⟨some 9, none, .load false 1 (.t 8)⟩,
    ⟨some 10, none, .mov (.t 0)⟩,
    ⟨some 11, none, .nilchk (.t 10)⟩,
    ⟨some 12, none, .fieldAddr 0 (.t 11)⟩,
    ⟨some 13, none, .load false 1 (.t 12)⟩,
    ⟨some 14, none, .mov (.t 0)⟩,
    ⟨some 15, none, .nilchk (.t 14)⟩,
    ⟨some 16, none, .fieldAddr 3 (.t 15)⟩,
    ⟨some 17, none, .load false 1 (.t 16)⟩,
    ⟨some 18, none, .mov (.t 1)⟩,
    ⟨some 19, none, .call F.mask_Round [.t 13, .t 17, .t 18]⟩,
    ⟨some 20, none, .build [(.int .i64 0), (u64 0#64)] [(0, 1, .t 9), (1, 1, .t 19)]⟩,
    ⟨some 5, none, .alloc [(.int .i64 0), (u64 0#64)]⟩,
    ⟨none, none, .store 2 (.t 5) (.t 20)⟩]
    [[], [0], [1], [2], [], [4], [5], [6], [], [8], [9], [10], [], [7, 11, 12], [3, 13], [], [15, 14, 13, 0, 1, 2, 3, 4, 5, 6, 7, 8, 9, 10, 11, 12, 13, 14, 15]]
    [(0, []), (1, []), (2, []), (4, []), (5, []), (6, []), (8, []), (9, []), (10, []), (12, []), (3, []), (7, []), (11, []), (13, [8]), (14, []), (15, []), (16, [])]
    [[], [0], [0, 1], [0, 1, 2], [], [4], [4, 5], [4, 5, 6], [], [8], [8, 9], [8, 9, 10], [], [4, 5, 6, 7, 8, 9, 10, 11, 12], [0, 1, 2, 3, 4, 5, 6, 7, 8, 9, 10, 11, 12, 13], [], [0, 1, 2, 3, 4, 5, 6, 7, 8, 9, 10, 11, 12, 13, 14, 15]]
    [0, 1, 4, 5])
  (.seq (.drawn [⟨some 21, none, .mov (.t 0)⟩,
    ⟨some 22, none, .nilchk (.t 21)⟩,
    ⟨some 23, none, .fieldAddr 1 (.t 22)⟩,
    ⟨some 24, none, .load false 1 (.t 23)⟩,
    ⟨some 25, none, .mov (.t 0)⟩,
    ⟨some 26, none, .nilchk (.t 25)⟩,
    ⟨some 27, none, .fieldAddr 2 (.t 26)⟩,
    ⟨some 28, none, .load false 1 (.t 27)⟩,
    ⟨some 29, none, .idxS 1 (.t 24) (.t 28)⟩,
    ⟨some 30, none, .load false 1 (.t 29)⟩,
    ⟨some 31, none, .mov (.t 1)⟩,
    ⟨some 32, none, .bin .sub (.t 30) (.t 31)⟩,
    ⟨some 33, none, .idxS 1 (.t 24) (.t 28)⟩,
    ⟨none, none, .store 1 (.t 33) (.t 32)⟩]
    [[], [0], [1], [2], [], [4], [5], [6], [3, 7], [8], [], [9, 10], [3, 7, 0, 1, 2, 3, 4, 5, 6, 7, 8, 9, 10, 11], [12, 11, 0, 1, 2, 3, 4, 5, 6, 7, 8, 9, 10, 11]]
    [(0, []), (1, []), (2, []), (4, []), (5, []), (6, []), (10, []), (3, []), (7, []), (8, []), (9, []), (11, []), (12, []), (13, [])]
    [[], [0], [0, 1], [0, 1, 2], [], [4], [4, 5], [4, 5, 6], [0, 1, 2, 3, 4, 5, 6, 7], [0, 1, 2, 3, 4, 5, 6, 7, 8], [], [0, 1, 2, 3, 4, 5, 6, 7, 8, 9, 10], [0, 1, 2, 3, 4, 5, 6, 7, 8, 9, 10, 11], [0, 1, 2, 3, 4, 5, 6, 7, 8, 9, 10, 11, 12]]
    [0, 1, 4, 5])
  (.seq (.drawn [⟨some 34, none, .mov (.t 0)⟩,
    ⟨some 35, none, .mov (.t 0)⟩,
    ⟨some 36, none, .nilchk (.t 35)⟩,
    ⟨some 37, none, .fieldAddr 3 (.t 36)⟩,
    ⟨some 38, none, .load false 1 (.t 37)⟩,
    ⟨some 39, none, .mov (.t 1)⟩,
    ⟨some 40, none, .bin .add (.t 38) (.t 39)⟩,
    ⟨some 41, none, .mov (.t 0)⟩,
    ⟨some 42, none, .nilchk (.t 41)⟩,
    ⟨some 43, none, .fieldAddr 0 (.t 42)⟩,
    ⟨some 44, none, .load false 1 (.t 43)⟩,
    ⟨some 45, none, .bin .rem (.t 40) (.t 44)⟩,
    ⟨some 46, none, .nilchk (.t 34)⟩,
    ⟨some 47, none, .fieldAddr 3 (.t 46)⟩,
    ⟨none, none, .store 1 (.t 47) (.t 45)⟩]
    [[], [], [1], [2], [3], [], [4, 5], [], [7], [8], [9], [6, 10], [0, 0, 1, 2, 3, 4, 5, 6, 7, 8, 9, 10, 11], [12, 0, 1, 2, 3, 4, 5, 6, 7, 8, 9, 10, 11], [13, 11, 0, 1, 2, 3, 4, 5, 6, 7, 8, 9, 10, 11]]
    [(0, []), (1, []), (2, []), (3, []), (5, []), (7, []), (8, []), (9, []), (4, []), (6, []), (10, []), (11, []), (12, []), (13, []), (14, [])]
    [[], [], [1], [1, 2], [1, 2, 3], [], [1, 2, 3, 4, 5], [], [7], [7, 8], [7, 8, 9], [1, 2, 3, 4, 5, 6, 7, 8, 9, 10], [0, 1, 2, 3, 4, 5, 6, 7, 8, 9, 10, 11], [0, 1, 2, 3, 4, 5, 6, 7, 8, 9, 10, 11, 12], [0, 1, 2, 3, 4, 5, 6, 7, 8, 9, 10, 11, 12, 13]]
    [4, 5])
  (.seq (.region [⟨some 48, none, .load true 2 (.t 5)⟩,
    ⟨none, none, .store 2 (.t 4) (.t 48)⟩]
    [4])
  .ret)))))⟩

def RB.ref08_Check_1 : RCode :=
  (.seq (.seq (.region [⟨some 41, none, .mov (.t 6)⟩,
    ⟨some 42, none, .mov (.t 5)⟩,
    ⟨some 43, none, .bin .lss (.t 41) (.t 42)⟩]
    [0, 1, 5, 6, 43])
  (.cond (.t 43)
    .skip
    (.exit 2)))
  (.seq (.block 3
    (.seq (.drawn [⟨some 46, none, .mov (.t 1)⟩,
      ⟨some 47, none, .mov (.t 6)⟩,
      ⟨some 48, none, .idxS 2 (.t 46) (.t 47)⟩,
      ⟨some 49, none, .fieldAddr 0 (.t 48)⟩,
      ⟨some 50, none, .load false 1 (.t 49)⟩,
      ⟨some 51, none, .mov (.t 1)⟩,
      ⟨some 52, none, .mov (.t 5)⟩,
      ⟨some 53, none, .idxS 2 (.t 51) (.t 52)⟩,
      ⟨some 54, none, .fieldAddr 0 (.t 53)⟩,
      ⟨some 55, none, .load false 1 (.t 54)⟩,
      ⟨some 56, none, .bin .eql (.t 50) (.t 55)⟩]
      [[], [], [0, 1], [2], [3], [], [], [5, 6], [7], [8], [4, 9]]
      [(0, []), (1, []), (2, []), (3, []), (5, []), (6, []), (7, []), (8, []), (4, []), (9, []), (10, [])]
      [[], [], [0, 1], [0, 1, 2], [0, 1, 2, 3], [], [], [5, 6], [5, 6, 7], [5, 6, 7, 8], [0, 1, 2, 3, 4, 5, 6, 7, 8, 9]]
      [0, 1, 5, 6, 56])
    (.cond (.t 56)
      (.seq (.region [⟨some 4, none, .mov (.c (.int .i64 11))⟩]
        [4])
      .ret)
      .skip)) [0, 1, 5, 6])
  (.region [⟨some 44, none, .mov (.t 6)⟩,
    ⟨some 45, none, .bin .add (.t 44) (.c (.int .i64 1))⟩,
    ⟨some 6, none, .mov (.t 45)⟩]
    [0, 1, 5, 6])))
def RB.ref08_Check_2 : RCode :=
  (.seq (.seq (.region [⟨some 13, none, .mov (.t 5)⟩,
    ⟨some 14, none, .mov (.t 1)⟩,
    ⟨some 15, none, .len (.t 14)⟩,
    ⟨some 16, none, .bin .lss (.t 13) (.t 15)⟩]
    [0, 1, 5, 16])
  (.cond (.t 16)
    .skip
    (.exit 0)))
  (.seq (.block 1
    (.seq (.seq (.region [⟨some 19, none, .mov (.t 1)⟩,
      ⟨some 20, none, .mov (.t 5)⟩,
      ⟨some 21, none, .idxS 2 (.t 19) (.t 20)⟩,
      ⟨some 22, none, .fieldAddr 0 (.t 21)⟩,
      ⟨some 23, none, .load false 1 (.t 22)⟩,
      ⟨some 24, none, .call F.ref08_Is [.t 23]⟩,
      ⟨some 25, none, .un .not (.t 24)⟩]
      [0, 1, 5, 25])
    (.cond (.t 25)
      (.seq (.region [⟨some 4, none, .mov (.c (.int .i64 20))⟩]
        [4])
      .ret)
      .skip))
    (.seq (.seq (.region [⟨some 26, none, .mov (.t 1)⟩,
      ⟨some 27, none, .mov (.t 5)⟩,
      ⟨some 28, none, .idxS 2 (.t 26) (.t 27)⟩,
      ⟨some 29, none, .fieldAddr 1 (.t 28)⟩,
      ⟨some 30, none, .load false 1 (.t 29)⟩,
      ⟨some 31, none, .bin .lss (.t 30) (.c (.int .i64 1))⟩,
      ⟨some 32, none, .mov (.t 31)⟩,
      ⟨some 33, some (32, false), .mov (.t 1)⟩,
      ⟨some 34, some (32, false), .mov (.t 5)⟩,
      ⟨some 35, some (32, false), .idxS 2 (.t 33) (.t 34)⟩,
      ⟨some 36, some (32, false), .fieldAddr 1 (.t 35)⟩,
      ⟨some 37, some (32, false), .load false 1 (.t 36)⟩,
      ⟨some 38, some (32, false), .mov (.t 0)⟩,
      ⟨some 39, some (32, false), .bin .gtr (.t 37) (.t 38)⟩,
      ⟨some 40, none, .pick (.t 32) (.c (.bool true)) (.t 39)⟩]
      [0, 1, 5, 40])
    (.cond (.t 40)
      (.seq (.region [⟨some 4, none, .mov (.c (.int .i64 21))⟩]
        [4])
      .ret)
      .skip))
    (.seq (.region [⟨some 6, none, .mov (.c (.int .i64 0))⟩]
      [0, 1, 5, 6])
    (.block 2
      (.loop [0, 1, 5, 6] RB.ref08_Check_1) [0, 1, 5])))) [0, 1, 5])
  (.region [⟨some 17, none, .mov (.t 5)⟩,
    ⟨some 18, none, .bin .add (.t 17) (.c (.int .i64 1))⟩,
    ⟨some 5, none, .mov (.t 18)⟩]
    [0, 1, 5])))
def RC.ref08_Check : RFn := ⟨2, [.slot 4],
  (.seq (.region [⟨some 4, none, .mov (.c (.int .i64 0))⟩]
    [0, 1])
  (.seq (.seq (.region [⟨some 7, none, .mov (.t 0)⟩,
    ⟨some 8, none, .bin .lss (.t 7) (.c (.int .i64 2))⟩,
    ⟨some 9, none, .mov (.t 8)⟩,
    ⟨some 10, some (9, false), .mov (.t 0)⟩,
    ⟨some 11, some (9, false), .bin .gtr (.t 10) (.c (.int .i64 64))⟩,
    ⟨some 12, none, .pick (.t 9) (.c (.bool true)) (.t 11)⟩]
    [0, 1, 12])
  (.cond (.t 12)
    (.seq (.region [⟨some 4, none, .mov (.c (.int .i64 1))⟩]
      [4])
    .ret)
    .skip))
  (.seq (.seq (.region [⟨some 5, none, .mov (.c (.int .i64 0))⟩]
    [0, 1, 5])
  (.block 0
    (.loop [0, 1, 5] RB.ref08_Check_2) []))
  (.seq (.region [⟨some 4, none, .mov (.c (.int .i64 0))⟩]
    [4])
  .ret))))⟩

def RC.ref02_Add : RFn := ⟨2, [.slot 4, .slot 5],
  (.seq (.region [⟨some 4, none, .mov (.c (.int .i64 0))⟩,
    ⟨some 5, none, .mov (.c (.bool false))⟩]
    [0, 1])
  (.seq (.seq (.region [⟨some 6, none, .mov (.t 1)⟩,
    ⟨some 7, none, .bin .gtr (.t 6) (.c (.int .i64 0))⟩,
    ⟨some 8, none, .mov (.t 7)⟩,
    ⟨some 9, some (8, true), .mov (.t 0)⟩,
    ⟨some 10, some (8, true), .mov (.t 1)⟩,
    ⟨some 11, some (8, true), .bin .sub (.c (.int .i64 9223372036854775807)) (.t 10)⟩,
    ⟨some 12, some (8, true), .bin .gtr (.t 9) (.t 11)⟩,
    ⟨some 13, none, .pick (.t 8) (.t 12) (.c (.bool false))⟩,
    ⟨some 14, none, .mov (.t 13)⟩,
    ⟨some 15, some (14, false), .mov (.t 1)⟩,
    ⟨some 16, some (14, false), .bin .lss (.t 15) (.c (.int .i64 0))⟩,
    ⟨some 17, some (14, false), .mov (.t 16)⟩,
    ⟨some 18, some (17, true), .mov (.t 0)⟩,
    ⟨some 19, some (17, true), .mov (.t 1)⟩,
    ⟨some 20, some (17, true), .bin .sub (.c (.int .i64 (-9223372036854775808))) (.t 19)⟩,
    ⟨some 21, some (17, true), .bin .lss (.t 18) (.t 20)⟩,
    ⟨some 22, some (14, false), .pick (.t 17) (.t 21) (.c (.bool false))⟩,
    ⟨some 23, none, .pick (.t 14) (.c (.bool true)) (.t 22)⟩]
    [0, 1, 23])
  (.cond (.t 23)
    (.seq (.region [⟨some 4, none, .mov (.c (.int .i64 0))⟩,
      ⟨some 5, none, .mov (.c (.bool false))⟩]
      [4, 5])
    .ret)
    .skip))
  (.seq (.region [⟨some 24, none, .mov (.t 0)⟩,
    ⟨some 25, none, .mov (.t 1)⟩,
    ⟨some 26, none, .bin .add (.t 24) (.t 25)⟩,
    ⟨some 4, none, .mov (.t 26)⟩,
    ⟨some 5, none, .mov (.c (.bool true))⟩]
    [4, 5])
  .ret)))⟩

def RB.ref16_Drop_1 : RCode :=
  (.seq (.seq (.region [⟨some 8, none, .mov (.t 6)⟩,
    ⟨some 9, none, .fieldAddr 2 (.t 2)⟩,
    ⟨some 10, none, .load false 1 (.t 9)⟩,
    ⟨some 11, none, .len (.t 10)⟩,
    ⟨some 12, none, .bin .lss (.t 8) (.t 11)⟩]
    [1, 2, 4, 5, 6, 12])
  (.cond (.t 12)
    .skip
    (.exit 0)))
  (.seq (.block 1
    (.seq (.region [⟨some 15, none, .fieldAddr 2 (.t 2)⟩,
      ⟨some 16, none, .load false 1 (.t 15)⟩,
      ⟨some 17, none, .mov (.t 6)⟩,
      ⟨some 18, none, .idxS 4 (.t 16) (.t 17)⟩,
      ⟨some 19, none, .fieldAddr 0 (.t 18)⟩,
      ⟨some 20, none, .load false 1 (.t 19)⟩,
      ⟨some 21, none, .mov (.t 1)⟩,
      ⟨some 22, none, .bin .neq (.t 20) (.t 21)⟩]
      [1, 2, 4, 5, 6, 22])
    (.cond (.t 22)
      (.region [⟨some 23, none, .mov (.t 5)⟩,
        ⟨some 24, none, .fieldAddr 2 (.t 2)⟩,
        ⟨some 25, none, .load false 1 (.t 24)⟩,
        ⟨some 26, none, .mov (.t 6)⟩,
        ⟨some 27, none, .idxS 4 (.t 25) (.t 26)⟩,
        ⟨some 28, none, .load true 4 (.t 27)⟩,
        ⟨some 29, none, .bslice [(.int .i64 0), (.int .i64 0), (.int .i64 0), (.slice none 0 0)] [(0, 4, .t 28)] 1 4⟩,
        ⟨some 30, none, .app 4 48 (.t 23) (.t 29)⟩,
        ⟨some 5, none, .mov (.t 30)⟩]
        [1, 2, 4, 5, 6])
      .skip)) [1, 2, 4, 5, 6])
  (.region [⟨some 13, none, .mov (.t 6)⟩,
    ⟨some 14, none, .bin .add (.t 13) (.c (.int .i64 1))⟩,
    ⟨some 6, none, .mov (.t 14)⟩]
    [1, 2, 4, 5, 6])))
def RC.ref16_Drop : RFn := ⟨2, [.cell 4 true 3],
  (.seq (.region [⟨some 2, none, .box (.t 0)⟩,
    ⟨some 4, none, .alloc [(.int .i64 0), (u32 0#32), (.slice none 0 0)]⟩]
    [1, 2, 4])
  (.seq (.region [⟨some 7, none, .bslice [] [] 0 4⟩,
    ⟨some 5, none, .mov (.t 7)⟩]
    [1, 2, 4, 5])
  (.seq (.seq (.region [⟨some 6, none, .mov (.c (.int .i64 0))⟩]
    [1, 2, 4, 5, 6])
  (.block 0
    (.loop [1, 2, 4, 5, 6] RB.ref16_Drop_1) [2, 4, 5]))
  (.seq (.region [⟨some 31, none, .mov (.t 5)⟩,
    ⟨some 32, none, .fieldAddr 2 (.t 2)⟩,
    ⟨none, none, .store 1 (.t 32) (.t 31)⟩]
    [2, 4])
  (.seq (.region [⟨some 33, none, .load true 3 (.t 2)⟩,
    ⟨none, none, .store 3 (.t 4) (.t 33)⟩]
    [4])
  .ret)))))⟩

def RC.ref04_Has : RFn := ⟨2, [.slot 4],
  (.seq (.region [⟨some 4, none, .mov (.c (.bool false))⟩]
    [0, 1])
  (.seq (.seq (.region [⟨some 5, none, .mov (.t 1)⟩,
    ⟨some 6, none, .bin .lss (.t 5) (.c (.int .i64 0))⟩,
    ⟨some 7, none, .mov (.t 6)⟩,
    ⟨some 8, some (7, false), .mov (.t 1)⟩,
    ⟨some 9, some (7, false), .bin .gtr (.t 8) (.c (.int .i64 63))⟩,
    ⟨some 10, none, .pick (.t 7) (.c (.bool true)) (.t 9)⟩]
    [0, 1, 10])
  (.cond (.t 10)
    (.seq (.region [⟨some 4, none, .mov (.c (.bool false))⟩]
      [4])
    .ret)
    .skip))
  (.seq (.region [⟨some 11, none, .mov (.t 0)⟩,
    ⟨some 12, none, .mov (.t 1)⟩,
    ⟨some 13, none, .conv .u64 (.t 12)⟩,
    ⟨some 14, none, .bin .shr (.t 11) (.t 13)⟩,
    ⟨some 15, none, .bin .rem (.t 14) (.c (u64 2#64))⟩,
    ⟨some 16, none, .bin .eql (.t 15) (.c (u64 1#64))⟩,
    ⟨some 4, none, .mov (.t 16)⟩]
    [4])
  .ret)))⟩

def RC.order_Kind : RFn := ⟨1, [.slot 2, .slot 3, .slot 4],
  (.seq (.region [⟨some 2, none, .mov (.c (.int .i64 0))⟩,
    ⟨some 3, none, .mov (.c (.bool false))⟩,
    ⟨some 4, none, .mov (.c (.bool false))⟩]
    [0])
  (.seq (.block 0
    (.seq (.region [⟨some 6, none, .mov (.t 0)⟩,
      ⟨some 7, none, .bin .geq (.t 6) (.c (.int .i64 1))⟩,
      ⟨some 8, none, .mov (.t 7)⟩,
      ⟨some 9, some (8, true), .mov (.t 0)⟩,
      ⟨some 10, some (8, true), .bin .leq (.t 9) (.c (.int .i64 200))⟩,
      ⟨some 11, none, .pick (.t 8) (.t 10) (.c (.bool false))⟩,
      ⟨some 5, none, .mov (.t 11)⟩]
      [0, 5])
    (.cond (.t 5)
      (.seq (.region [⟨some 12, none, .mov (.t 0)⟩,
        ⟨some 2, none, .mov (.t 12)⟩,
        ⟨some 3, none, .mov (.c (.bool false))⟩,
        ⟨some 4, none, .mov (.c (.bool true))⟩]
        [2, 3, 4])
      .ret)
      (.seq (.region [⟨some 14, none, .mov (.t 0)⟩,
        ⟨some 15, none, .bin .gtr (.t 14) (.c (.int .i64 1000))⟩,
        ⟨some 16, none, .mov (.t 15)⟩,
        ⟨some 17, some (16, true), .mov (.t 0)⟩,
        ⟨some 18, some (16, true), .bin .leq (.t 17) (.c (.int .i64 1040))⟩,
        ⟨some 19, none, .pick (.t 16) (.t 18) (.c (.bool false))⟩,
        ⟨some 13, none, .mov (.t 19)⟩]
        [0, 13])
      (.cond (.t 13)
        (.seq (.region [⟨some 20, none, .mov (.t 0)⟩,
          ⟨some 21, none, .bin .sub (.t 20) (.c (.int .i64 1000))⟩,
          ⟨some 2, none, .mov (.t 21)⟩,
          ⟨some 3, none, .mov (.c (.bool true))⟩,
          ⟨some 4, none, .mov (.c (.bool true))⟩]
          [2, 3, 4])
        .ret)
        .skip)))) [])
  (.seq (.region [⟨some 2, none, .mov (.c (.int .i64 0))⟩,
    ⟨some 3, none, .mov (.c (.bool false))⟩,
    ⟨some 4, none, .mov (.c (.bool false))⟩]
    [2, 3, 4])
  .ret)))⟩

def RC.plan_split : RFn := ⟨1, [.slot 2],
  (.seq (.region [⟨some 1, none, .box (.t 0)⟩,
    ⟨some 2, none, .mov (.c (.bool false))⟩]
    [1])
  (.seq (.region [⟨some 3, none, .fieldAddr 3 (.t 1)⟩,
    ⟨some 4, none, .load false 1 (.t 3)⟩,
    ⟨some 5, none, .len (.t 4)⟩,
    ⟨some 6, none, .bin .gtr (.t 5) (.c (.int .i64 0))⟩,
    ⟨some 2, none, .mov (.t 6)⟩]
    [2])
  .ret))⟩

def RB.plan_pieces_1 : RCode :=
  (.seq (.region [⟨some 12, none, .bin .lss (.t 11) (.t 10)⟩]
    [2, 3, 5, 9, 10, 11, 12])
  (.seq (.cond (.t 12)
    .skip
    (.exit 0))
  (.seq (.block 1
    (.seq (.region [⟨some 13, none, .mov (.t 11)⟩,
      ⟨some 14, none, .idxS 2 (.t 9) (.t 11)⟩,
      ⟨some 15, none, .load true 2 (.t 14)⟩,
      ⟨some 7, none, .alloc [(.int .i64 0), (u64 0#64)]⟩,
      ⟨some 6, none, .mov (.t 13)⟩,
      ⟨none, none, .store 2 (.t 7) (.t 15)⟩]
      [2, 3, 5, 6, 7, 9, 10, 11])
    (.seq (.seq (.drawn [⟨some 16, none, .load true 3 (.t 2)⟩,
      ⟨some 17, none, .fieldAddr 0 (.t 7)⟩,
      ⟨some 18, none, .load false 1 (.t 17)⟩,
      ⟨some 19, none, .call F.plan_has [.t 16, .t 18]⟩,
      ⟨some 20, none, .un .not (.t 19)⟩,
      ⟨some 21, none, .mov (.t 20)⟩,
      ⟨some 22, some (21, false), .mov (.t 6)⟩,
      ⟨some 23, some (21, false), .bin .gtr (.t 22) (.c (.int .i64 0))⟩,
      ⟨some 24, some (21, false), .mov (.t 23)⟩,
      ⟨some 25, some (24, true), .fieldAddr 0 (.t 7)⟩,
      ⟨some 26, some (24, true), .load false 1 (.t 25)⟩,
      ⟨some 27, some (24, true), .fieldAddr 3 (.t 3)⟩,
      ⟨some 28, some (24, true), .load false 1 (.t 27)⟩,
      ⟨some 29, some (24, true), .mov (.t 6)⟩,
      ⟨some 30, some (24, true), .bin .sub (.t 29) (.c (.int .i64 1))⟩,
      ⟨some 31, some (24, true), .idxS 2 (.t 28) (.t 30)⟩,
      ⟨some 32, some (24, true), .fieldAddr 0 (.t 31)⟩,
      ⟨some 33, some (24, true), .load false 1 (.t 32)⟩,
      ⟨some 34, some (24, true), .bin .leq (.t 26) (.t 33)⟩,
      ⟨some 35, some (21, false), .pick (.t 24) (.t 34) (.c (.bool false))⟩,
      ⟨some 36, none, .pick (.t 21) (.c (.bool true)) (.t 35)⟩,
      ⟨some 37, none, .mov (.t 36)⟩,
      ⟨some 38, some (37, false), .fieldAddr 1 (.t 7)⟩,
      ⟨some 39, some (37, false), .load false 1 (.t 38)⟩,
      ⟨some 40, some (37, false), .bin .eql (.t 39) (.c (u64 0#64))⟩,
      ⟨some 41, none, .pick (.t 37) (.c (.bool true)) (.t 40)⟩,
      ⟨some 42, none, .mov (.t 41)⟩,
      ⟨some 43, some (42, false), .fieldAddr 1 (.t 7)⟩,
      ⟨some 44, some (42, false), .load false 1 (.t 43)⟩,
      ⟨some 45, some (42, false), .fieldAddr 0 (.t 2)⟩,
      ⟨some 46, some (42, false), .load false 1 (.t 45)⟩,
      ⟨some 47, some (42, false), .call F.mask_All [.t 46]⟩,
      ⟨some 48, some (42, false), .bin .andNot (.t 44) (.t 47)⟩,
      ⟨some 49, some (42, false), .bin .neq (.t 48) (.c (u64 0#64))⟩,
      ⟨some 50, none, .pick (.t 42) (.c (.bool true)) (.t 49)⟩,
      ⟨some 51, none, .mov (.t 50)⟩,
      ⟨some 52, some (51, false), .fieldAddr 1 (.t 7)⟩,
      ⟨some 53, some (51, false), .load false 1 (.t 52)⟩,
      ⟨some 54, some (51, false), .mov (.t 5)⟩,
      ⟨some 55, some (51, false), .bin .and (.t 53) (.t 54)⟩,
      ⟨some 56, some (51, false), .bin .neq (.t 55) (.c (u64 0#64))⟩,
      ⟨some 57, none, .pick (.t 51) (.c (.bool true)) (.t 56)⟩]
      [[], [], [1], [0, 2], [3], [4, 3], [5], [6, 5], [7, 5, 5], [8], [9, 8], [8], [11, 8], [8], [13, 8], [12, 14, 8], [15, 8], [16, 8], [10, 17, 8], [8, 18, 5], [5, 19], [20, 8], [21], [22, 21], [23, 21], [21, 24], [25, 21], [26], [27, 26], [26], [29, 26], [30, 26, 26], [28, 31, 26], [32, 26], [26, 33], [34, 31], [35], [36, 35], [35], [37, 38, 35], [39, 35], [35, 40]]
      [(1, []), (0, []), (2, []), (3, []), (4, []), (5, []), (6, []), (7, []), (8, []), (9, []), (11, []), (13, []), (14, []), (10, []), (12, []), (15, []), (16, []), (17, []), (18, []), (19, []), (20, []), (21, []), (22, []), (23, []), (24, []), (25, []), (26, []), (27, []), (29, []), (28, []), (30, []), (31, [43]), (32, []), (33, []), (34, []), (35, []), (36, []), (38, []), (37, []), (39, []), (40, []), (41, [])]
      [[], [], [1], [0, 1, 2], [0, 1, 2, 3], [0, 1, 2, 3, 4], [0, 1, 2, 3, 4, 5], [0, 1, 2, 3, 4, 5, 6], [0, 1, 2, 3, 4, 5, 6, 7], [0, 1, 2, 3, 4, 5, 6, 7, 8], [0, 1, 2, 3, 4, 5, 6, 7, 8, 9], [0, 1, 2, 3, 4, 5, 6, 7, 8], [0, 1, 2, 3, 4, 5, 6, 7, 8, 11], [0, 1, 2, 3, 4, 5, 6, 7, 8], [0, 1, 2, 3, 4, 5, 6, 7, 8, 13], [0, 1, 2, 3, 4, 5, 6, 7, 8, 11, 12, 13, 14], [0, 1, 2, 3, 4, 5, 6, 7, 8, 11, 12, 13, 14, 15], [0, 1, 2, 3, 4, 5, 6, 7, 8, 11, 12, 13, 14, 15, 16], [0, 1, 2, 3, 4, 5, 6, 7, 8, 9, 10, 11, 12, 13, 14, 15, 16, 17], [0, 1, 2, 3, 4, 5, 6, 7, 8, 9, 10, 11, 12, 13, 14, 15, 16, 17, 18], [0, 1, 2, 3, 4, 5, 6, 7, 8, 9, 10, 11, 12, 13, 14, 15, 16, 17, 18, 19], [0, 1, 2, 3, 4, 5, 6, 7, 8, 9, 10, 11, 12, 13, 14, 15, 16, 17, 18, 19, 20], [0, 1, 2, 3, 4, 5, 6, 7, 8, 9, 10, 11, 12, 13, 14, 15, 16, 17, 18, 19, 20, 21], [0, 1, 2, 3, 4, 5, 6, 7, 8, 9, 10, 11, 12, 13, 14, 15, 16, 17, 18, 19, 20, 21, 22], [0, 1, 2, 3, 4, 5, 6, 7, 8, 9, 10, 11, 12, 13, 14, 15, 16, 17, 18, 19, 20, 21, 22, 23], [0, 1, 2, 3, 4, 5, 6, 7, 8, 9, 10, 11, 12, 13, 14, 15, 16, 17, 18, 19, 20, 21, 22, 23, 24], [0, 1, 2, 3, 4, 5, 6, 7, 8, 9, 10, 11, 12, 13, 14, 15, 16, 17, 18, 19, 20, 21, 22, 23, 24, 25], [0, 1, 2, 3, 4, 5, 6, 7, 8, 9, 10, 11, 12, 13, 14, 15, 16, 17, 18, 19, 20, 21, 22, 23, 24, 25, 26], [0, 1, 2, 3, 4, 5, 6, 7, 8, 9, 10, 11, 12, 13, 14, 15, 16, 17, 18, 19, 20, 21, 22, 23, 24, 25, 26, 27], [0, 1, 2, 3, 4, 5, 6, 7, 8, 9, 10, 11, 12, 13, 14, 15, 16, 17, 18, 19, 20, 21, 22, 23, 24, 25, 26], [0, 1, 2, 3, 4, 5, 6, 7, 8, 9, 10, 11, 12, 13, 14, 15, 16, 17, 18, 19, 20, 21, 22, 23, 24, 25, 26, 29], [0, 1, 2, 3, 4, 5, 6, 7, 8, 9, 10, 11, 12, 13, 14, 15, 16, 17, 18, 19, 20, 21, 22, 23, 24, 25, 26, 29, 30], [0, 1, 2, 3, 4, 5, 6, 7, 8, 9, 10, 11, 12, 13, 14, 15, 16, 17, 18, 19, 20, 21, 22, 23, 24, 25, 26, 27, 28, 29, 30, 31], [0, 1, 2, 3, 4, 5, 6, 7, 8, 9, 10, 11, 12, 13, 14, 15, 16, 17, 18, 19, 20, 21, 22, 23, 24, 25, 26, 27, 28, 29, 30, 31, 32], [0, 1, 2, 3, 4, 5, 6, 7, 8, 9, 10, 11, 12, 13, 14, 15, 16, 17, 18, 19, 20, 21, 22, 23, 24, 25, 26, 27, 28, 29, 30, 31, 32, 33], [0, 1, 2, 3, 4, 5, 6, 7, 8, 9, 10, 11, 12, 13, 14, 15, 16, 17, 18, 19, 20, 21, 22, 23, 24, 25, 26, 27, 28, 29, 30, 31, 32, 33, 34], [0, 1, 2, 3, 4, 5, 6, 7, 8, 9, 10, 11, 12, 13, 14, 15, 16, 17, 18, 19, 20, 21, 22, 23, 24, 25, 26, 27, 28, 29, 30, 31, 32, 33, 34, 35], [0, 1, 2, 3, 4, 5, 6, 7, 8, 9, 10, 11, 12, 13, 14, 15, 16, 17, 18, 19, 20, 21, 22, 23, 24, 25, 26, 27, 28, 29, 30, 31, 32, 33, 34, 35, 36], [0, 1, 2, 3, 4, 5, 6, 7, 8, 9, 10, 11, 12, 13, 14, 15, 16, 17, 18, 19, 20, 21, 22, 23, 24, 25, 26, 27, 28, 29, 30, 31, 32, 33, 34, 35], [0, 1, 2, 3, 4, 5, 6, 7, 8, 9, 10, 11, 12, 13, 14, 15, 16, 17, 18, 19, 20, 21, 22, 23, 24, 25, 26, 27, 28, 29, 30, 31, 32, 33, 34, 35, 36, 37, 38], [0, 1, 2, 3, 4, 5, 6, 7, 8, 9, 10, 11, 12, 13, 14, 15, 16, 17, 18, 19, 20, 21, 22, 23, 24, 25, 26, 27, 28, 29, 30, 31, 32, 33, 34, 35, 36, 37, 38, 39], [0, 1, 2, 3, 4, 5, 6, 7, 8, 9, 10, 11, 12, 13, 14, 15, 16, 17, 18, 19, 20, 21, 22, 23, 24, 25, 26, 27, 28, 29, 30, 31, 32, 33, 34, 35, 36, 37, 38, 39, 40]]
      [2, 3, 5, 7, 9, 10, 11, 57])
    (.cond (.t 57)
      (.seq (.region [⟨some 4, none, .mov (.c (.bool false))⟩]
        [4])
      .ret)
      .skip))
    (.region [⟨some 58, none, .mov (.t 5)⟩,
      ⟨some 59, none, .fieldAddr 1 (.t 7)⟩,
      ⟨some 60, none, .load false 1 (.t 59)⟩,
      ⟨some 61, none, .bin .or (.t 58) (.t 60)⟩,
      ⟨some 5, none, .mov (.t 61)⟩]
      [2, 3, 5, 9, 10, 11]))) [2, 3, 5, 9, 10, 11])
  (.region [⟨some 62, none, .bin .add (.t 11) (.c (.int .i64 1))⟩,
    ⟨some 11, none, .mov (.t 62)⟩]
    [2, 3, 5, 9, 10, 11]))))
def RC.plan_pieces : RFn := ⟨2, [.slot 4],
  (.seq (.region [⟨some 2, none, .box (.t 0)⟩,
    ⟨some 3, none, .box (.t 1)⟩,
    ⟨some 4, none, .mov (.c (.bool false))⟩]
    [2, 3])
  (.seq (.region [⟨some 5, none, .mov (.c (u64 0#64))⟩]
    [2, 3, 5])
  (.seq (.seq (.region [⟨some 8, none, .fieldAddr 3 (.t 3)⟩,
    ⟨some 9, none, .load false 1 (.t 8)⟩,
    ⟨some 10, none, .len (.t 9)⟩,
    ⟨some 11, none, .mov (.c (.int .i64 0))⟩]
    [2, 3, 5, 9, 10, 11])
  (.block 0
    (.loop [2, 3, 5, 9, 10, 11] RB.plan_pieces_1) [3, 5]))
  (.seq (.drawn [⟨some 63, none, .fieldAddr 3 (.t 3)⟩,
    ⟨some 64, none, .load false 1 (.t 63)⟩,
    ⟨some 65, none, .len (.t 64)⟩,
    ⟨some 66, none, .bin .gtr (.t 65) (.c (.int .i64 1))⟩,
    ⟨some 67, none, .mov (.t 66)⟩,
    ⟨some 68, some (67, true), .fieldAddr 2 (.t 3)⟩,
    ⟨some 69, some (67, true), .load false 1 (.t 68)⟩,
    ⟨some 70, some (67, true), .bin .eql (.t 69) (.c (.int .i64 0))⟩,
    ⟨some 71, none, .pick (.t 67) (.t 70) (.c (.bool false))⟩,
    ⟨some 72, none, .mov (.t 71)⟩,
    ⟨some 73, some (72, true), .mov (.t 5)⟩,
    ⟨some 74, some (72, true), .call F.mask_Count [.t 73]⟩,
    ⟨some 75, some (72, true), .fieldAddr 1 (.t 3)⟩,
    ⟨some 76, some (72, true), .load false 1 (.t 75)⟩,
    ⟨some 77, some (72, true), .bin .eql (.t 74) (.t 76)⟩,
    ⟨some 78, none, .pick (.t 72) (.t 77) (.c (.bool false))⟩,
    ⟨some 4, none, .mov (.t 78)⟩]
    [[], [0], [1], [2], [3], [4], [5, 4], [6, 4], [4, 7], [8, 4], [9], [10, 9, 9], [9], [12, 9], [11, 13, 9], [9, 14], [15, 11, 0, 1, 2, 3, 4, 5, 6, 7, 8, 9, 10, 11, 12, 13, 14, 15]]
    [(0, []), (1, []), (2, []), (3, []), (4, []), (5, []), (6, []), (7, []), (8, []), (9, []), (10, []), (12, []), (13, []), (11, [75]), (14, []), (15, []), (16, [])]
    [[], [0], [0, 1], [0, 1, 2], [0, 1, 2, 3], [0, 1, 2, 3, 4], [0, 1, 2, 3, 4, 5], [0, 1, 2, 3, 4, 5, 6], [0, 1, 2, 3, 4, 5, 6, 7], [0, 1, 2, 3, 4, 5, 6, 7, 8], [0, 1, 2, 3, 4, 5, 6, 7, 8, 9], [0, 1, 2, 3, 4, 5, 6, 7, 8, 9, 10], [0, 1, 2, 3, 4, 5, 6, 7, 8, 9], [0, 1, 2, 3, 4, 5, 6, 7, 8, 9, 12], [0, 1, 2, 3, 4, 5, 6, 7, 8, 9, 10, 11, 12, 13], [0, 1, 2, 3, 4, 5, 6, 7, 8, 9, 10, 11, 12, 13, 14], [0, 1, 2, 3, 4, 5, 6, 7, 8, 9, 10, 11, 12, 13, 14, 15]]
    [4])
  .ret))))⟩

def RC.mask_Count : RFn := ⟨1, [.slot 2],
  (.seq (.region [⟨some 2, none, .mov (.c (.int .i64 0))⟩]
    [0])
  (.seq (.region [⟨some 3, none, .mov (.t 0)⟩,
    ⟨some 4, none, .call F.math_bits_OnesCount64 [.t 3]⟩,
    ⟨some 2, none, .mov (.t 4)⟩]
    [2])
  .ret))⟩

def RB.plan_Windows_1 : RCode :=
  (.seq (.region [⟨some 21, none, .bin .lss (.t 20) (.t 19)⟩]
    [1, 5, 11, 12, 13, 18, 19, 20, 21])
  (.seq (.cond (.t 21)
    .skip
    (.exit 2))
  (.seq (.block 3
    (.seq (.region [⟨some 22, none, .idxS 2 (.t 18) (.t 20)⟩,
      ⟨some 23, none, .load true 2 (.t 22)⟩,
      ⟨some 9, none, .alloc [(.int .i64 0), (u64 0#64)]⟩,
      ⟨none, none, .store 2 (.t 9) (.t 23)⟩]
      [1, 5, 9, 11, 12, 13, 18, 19, 20])
    (.seq (.region [⟨some 24, none, .fieldAddr 0 (.t 9)⟩,
      ⟨some 25, none, .load false 1 (.t 24)⟩,
      ⟨some 26, none, .mov (.t 1)⟩,
      ⟨some 27, none, .bin .eql (.t 25) (.t 26)⟩]
      [1, 5, 9, 11, 12, 13, 18, 19, 20, 27])
    (.cond (.t 27)
      (.region [⟨some 28, none, .mov (.t 5)⟩,
        ⟨some 29, none, .fieldAddr 1 (.t 9)⟩,
        ⟨some 30, none, .load false 1 (.t 29)⟩,
        ⟨some 31, none, .bin .or (.t 28) (.t 30)⟩,
        ⟨some 5, none, .mov (.t 31)⟩]
        [1, 5, 11, 12, 13, 18, 19, 20])
      .skip))) [1, 5, 11, 12, 13, 18, 19, 20])
  (.region [⟨some 32, none, .bin .add (.t 20) (.c (.int .i64 1))⟩,
    ⟨some 20, none, .mov (.t 32)⟩]
    [1, 5, 11, 12, 13, 18, 19, 20]))))
def RB.plan_Windows_2 : RCode :=
  (.seq (.region [⟨some 14, none, .bin .lss (.t 13) (.t 12)⟩]
    [1, 5, 11, 12, 13, 14])
  (.seq (.cond (.t 14)
    .skip
    (.exit 0))
  (.seq (.block 1
    (.seq (.region [⟨some 15, none, .idxS 4 (.t 11) (.t 13)⟩,
      ⟨some 16, none, .load true 4 (.t 15)⟩,
      ⟨some 7, none, .alloc [(.int .i64 0), (.int .i64 0), (.int .i64 0), (.slice none 0 0)]⟩,
      ⟨none, none, .store 4 (.t 7) (.t 16)⟩]
      [1, 5, 7, 11, 12, 13])
    (.seq (.region [⟨some 17, none, .fieldAddr 3 (.t 7)⟩,
      ⟨some 18, none, .load false 1 (.t 17)⟩,
      ⟨some 19, none, .len (.t 18)⟩,
      ⟨some 20, none, .mov (.c (.int .i64 0))⟩]
      [1, 5, 11, 12, 13, 18, 19, 20])
    (.block 2
      (.loop [1, 5, 11, 12, 13, 18, 19, 20] RB.plan_Windows_1) [1, 5, 11, 12, 13]))) [1, 5, 11, 12, 13])
  (.region [⟨some 33, none, .bin .add (.t 13) (.c (.int .i64 1))⟩,
    ⟨some 13, none, .mov (.t 33)⟩]
    [1, 5, 11, 12, 13]))))
def RC.plan_Windows : RFn := ⟨2, [.slot 4],
  (.seq (.region [⟨some 2, none, .box (.t 0)⟩,
    ⟨some 4, none, .mov (.c (u64 0#64))⟩]
    [1, 2])
  (.seq (.region [⟨some 5, none, .mov (.c (u64 0#64))⟩]
    [1, 2, 5])
  (.seq (.seq (.region [⟨some 10, none, .fieldAddr 2 (.t 2)⟩,
    ⟨some 11, none, .load false 1 (.t 10)⟩,
    ⟨some 12, none, .len (.t 11)⟩,
    ⟨some 13, none, .mov (.c (.int .i64 0))⟩]
    [1, 5, 11, 12, 13])
  (.block 0
    (.loop [1, 5, 11, 12, 13] RB.plan_Windows_2) [5]))
  (.seq (.region [⟨some 34, none, .mov (.t 5)⟩,
    ⟨some 4, none, .mov (.t 34)⟩]
    [4])
  .ret))))⟩

def RB.plan_Wholes_1 : RCode :=
  (.seq (.region [⟨some 12, none, .bin .lss (.t 11) (.t 10)⟩]
    [1, 5, 9, 10, 11, 12])
  (.seq (.cond (.t 12)
    .skip
    (.exit 0))
  (.seq (.block 1
    (.seq (.region [⟨some 13, none, .idxS 4 (.t 9) (.t 11)⟩,
      ⟨some 14, none, .load true 4 (.t 13)⟩,
      ⟨some 7, none, .alloc [(.int .i64 0), (.int .i64 0), (.int .i64 0), (.slice none 0 0)]⟩,
      ⟨none, none, .store 4 (.t 7) (.t 14)⟩]
      [1, 5, 7, 9, 10, 11])
    (.seq (.region [⟨some 15, none, .load true 4 (.t 7)⟩,
      ⟨some 16, none, .call F.plan_split [.t 15]⟩,
      ⟨some 17, none, .un .not (.t 16)⟩,
      ⟨some 18, none, .mov (.t 17)⟩,
      ⟨some 19, some (18, true), .fieldAddr 2 (.t 7)⟩,
      ⟨some 20, some (18, true), .load false 1 (.t 19)⟩,
      ⟨some 21, some (18, true), .mov (.t 1)⟩,
      ⟨some 22, some (18, true), .bin .eql (.t 20) (.t 21)⟩,
      ⟨some 23, none, .pick (.t 18) (.t 22) (.c (.bool false))⟩]
      [1, 5, 7, 9, 10, 11, 23])
    (.cond (.t 23)
      (.region [⟨some 24, none, .mov (.t 5)⟩,
        ⟨some 25, none, .fieldAddr 0 (.t 7)⟩,
        ⟨some 26, none, .load false 1 (.t 25)⟩,
        ⟨some 27, none, .fieldAddr 1 (.t 7)⟩,
        ⟨some 28, none, .load false 1 (.t 27)⟩,
        ⟨some 29, none, .build [(.int .i64 0), (.int .i64 0)] [(0, 1, .t 26), (1, 1, .t 28)]⟩,
        ⟨some 30, none, .bslice [(.int .i64 0), (.int .i64 0)] [(0, 2, .t 29)] 1 2⟩,
        ⟨some 31, none, .app 2 16 (.t 24) (.t 30)⟩,
        ⟨some 5, none, .mov (.t 31)⟩]
        [1, 5, 9, 10, 11])
      .skip))) [1, 5, 9, 10, 11])
  (.region [⟨some 32, none, .bin .add (.t 11) (.c (.int .i64 1))⟩,
    ⟨some 11, none, .mov (.t 32)⟩]
    [1, 5, 9, 10, 11]))))
def RC.plan_Wholes : RFn := ⟨2, [.slot 4],
  (.seq (.region [⟨some 2, none, .box (.t 0)⟩,
    ⟨some 4, none, .mov (.c (.slice none 0 0))⟩]
    [1, 2])
  (.seq (.region [⟨some 5, none, .mov (.c (.slice none 0 0))⟩]
    [1, 2, 5])
  (.seq (.seq (.region [⟨some 8, none, .fieldAddr 2 (.t 2)⟩,
    ⟨some 9, none, .load false 1 (.t 8)⟩,
    ⟨some 10, none, .len (.t 9)⟩,
    ⟨some 11, none, .mov (.c (.int .i64 0))⟩]
    [1, 5, 9, 10, 11])
  (.block 0
    (.loop [1, 5, 9, 10, 11] RB.plan_Wholes_1) [5]))
  (.seq (.region [⟨some 33, none, .mov (.t 5)⟩,
    ⟨some 4, none, .mov (.t 33)⟩]
    [4])
  .ret))))⟩

def RB.ref04_Ticks_1 : RCode :=
  (.seq (.seq (.region [⟨some 6, none, .mov (.t 4)⟩,
    ⟨some 7, none, .bin .lss (.t 6) (.c (.int .i64 64))⟩]
    [0, 3, 4, 7])
  (.cond (.t 7)
    .skip
    (.exit 0)))
  (.seq (.block 1
    (.seq (.region [⟨some 10, none, .mov (.t 0)⟩,
      ⟨some 11, none, .mov (.t 4)⟩,
      ⟨some 12, none, .call F.ref04_Has [.t 10, .t 11]⟩]
      [0, 3, 4, 12])
    (.cond (.t 12)
      (.region [⟨some 13, none, .mov (.t 3)⟩,
        ⟨some 14, none, .mov (.t 4)⟩,
        ⟨some 15, none, .bslice [(.int .i64 0)] [(0, 1, .t 14)] 1 1⟩,
        ⟨some 16, none, .app 1 8 (.t 13) (.t 15)⟩,
        ⟨some 3, none, .mov (.t 16)⟩]
        [0, 3, 4])
      .skip)) [0, 3, 4])
  (.region [⟨some 8, none, .mov (.t 4)⟩,
    ⟨some 9, none, .bin .add (.t 8) (.c (.int .i64 1))⟩,
    ⟨some 4, none, .mov (.t 9)⟩]
    [0, 3, 4])))
def RC.ref04_Ticks : RFn := ⟨1, [.slot 2],
  (.seq (.region [⟨some 2, none, .mov (.c (.slice none 0 0))⟩]
    [0])
  (.seq (.region [⟨some 5, none, .bslice [] [] 0 1⟩,
    ⟨some 3, none, .mov (.t 5)⟩]
    [0, 3])
  (.seq (.seq (.region [⟨some 4, none, .mov (.c (.int .i64 0))⟩]
    [0, 3, 4])
  (.block 0
    (.loop [0, 3, 4] RB.ref04_Ticks_1) [3]))
  (.seq (.region [⟨some 17, none, .mov (.t 3)⟩,
    ⟨some 2, none, .mov (.t 17)⟩]
    [2])
  .ret))))⟩

def RC.fixq_Add : RFn := ⟨2, [.slot 4, .slot 5],
  (.seq (.region [⟨some 4, none, .mov (.c (.int .i64 0))⟩,
    ⟨some 5, none, .mov (.c (.int .i64 0))⟩]
    [0, 1])
  (.seq (.region [⟨some 7, none, .mov (.t 0)⟩,
    ⟨some 8, none, .mov (.t 1)⟩,
    ⟨some 9, none, .bin .add (.t 7) (.t 8)⟩,
    ⟨some 6, none, .mov (.t 9)⟩]
    [0, 1, 6])
  (.seq (.seq (.region [⟨some 10, none, .mov (.t 0)⟩,
    ⟨some 11, none, .bin .geq (.t 10) (.c (.int .i64 0))⟩,
    ⟨some 12, none, .mov (.t 1)⟩,
    ⟨some 13, none, .bin .geq (.t 12) (.c (.int .i64 0))⟩,
    ⟨some 14, none, .eq false .bool (.t 11) (.t 13)⟩,
    ⟨some 15, none, .mov (.t 14)⟩,
    ⟨some 16, some (15, true), .mov (.t 6)⟩,
    ⟨some 17, some (15, true), .bin .geq (.t 16) (.c (.int .i64 0))⟩,
    ⟨some 18, some (15, true), .mov (.t 0)⟩,
    ⟨some 19, some (15, true), .bin .geq (.t 18) (.c (.int .i64 0))⟩,
    ⟨some 20, some (15, true), .eq true .bool (.t 17) (.t 19)⟩,
    ⟨some 21, none, .pick (.t 15) (.t 20) (.c (.bool false))⟩]
    [6, 21])
  (.cond (.t 21)
    (.seq (.region [⟨some 4, none, .mov (.c (.int .i64 0))⟩,
      ⟨some 5, none, .mov (.c (.int .i64 5))⟩]
      [4, 5])
    .ret)
    .skip))
  (.seq (.region [⟨some 22, none, .mov (.t 6)⟩,
    ⟨some 4, none, .mov (.t 22)⟩,
    ⟨some 5, none, .mov (.c (.int .i64 0))⟩]
    [4, 5])
  .ret))))⟩

def RB.slices_BinarySearchFunc_api_Place_api_Place_int_1 : RCode :=
  (.seq (.seq (.region [⟨some 15, none, .mov (.t 9)⟩,
    ⟨some 16, none, .mov (.t 10)⟩,
    ⟨some 17, none, .bin .lss (.t 15) (.t 16)⟩]
    [0, 1, 2, 8, 9, 10, 17])
  (.cond (.t 17)
    .skip
    (.exit 0)))
  (.block 1
    (.seq (.region [⟨some 18, none, .mov (.t 9)⟩,
      ⟨some 19, none, .mov (.t 10)⟩,
      ⟨some 20, none, .bin .add (.t 18) (.t 19)⟩,
      ⟨some 21, none, .conv .u64 (.t 20)⟩,
      ⟨some 22, none, .bin .shr (.t 21) (.c (u64 1#64))⟩,
      ⟨some 23, none, .conv .i64 (.t 22)⟩,
      ⟨some 11, none, .mov (.t 23)⟩]
      [0, 1, 2, 8, 9, 10, 11])
    (.seq (.region [⟨some 24, none, .mov (.t 2)⟩,
      ⟨some 25, none, .mov (.t 0)⟩,
      ⟨some 26, none, .mov (.t 11)⟩,
      ⟨some 27, none, .idxS 4 (.t 25) (.t 26)⟩,
      ⟨some 28, none, .load true 4 (.t 27)⟩,
      ⟨some 29, none, .mov (.t 1)⟩,
      ⟨some 30, none, .callv (.t 24) [.t 28, .t 29]⟩,
      ⟨some 31, none, .bin .lss (.t 30) (.c (.int .i64 0))⟩]
      [0, 1, 2, 8, 9, 10, 11, 31])
    (.cond (.t 31)
      (.region [⟨some 32, none, .mov (.t 11)⟩,
        ⟨some 33, none, .bin .add (.t 32) (.c (.int .i64 1))⟩,
        ⟨some 9, none, .mov (.t 33)⟩]
        [0, 1, 2, 8, 9, 10])
      (.region [⟨some 34, none, .mov (.t 11)⟩,
        ⟨some 10, none, .mov (.t 34)⟩]
        [0, 1, 2, 8, 9, 10])))) [0, 1, 2, 8, 9, 10]))
def RC.slices_BinarySearchFunc_api_Place_api_Place_int : RFn := ⟨3, [.slot 6, .slot 7],
  (.seq (.region [⟨some 6, none, .mov (.c (.int .i64 0))⟩,
    ⟨some 7, none, .mov (.c (.bool false))⟩]
    [0, 1, 2])
  (.seq (.region [⟨some 12, none, .mov (.t 0)⟩,
    ⟨some 13, none, .len (.t 12)⟩,
    ⟨some 8, none, .mov (.t 13)⟩]
    [0, 1, 2, 8])
  (.seq (.region [⟨some 14, none, .mov (.t 8)⟩,
    ⟨some 9, none, .mov (.c (.int .i64 0))⟩,
    ⟨some 10, none, .mov (.t 14)⟩]
    [0, 1, 2, 8, 9, 10])
  (.seq (.block 0
    (.loop [0, 1, 2, 8, 9, 10] RB.slices_BinarySearchFunc_api_Place_api_Place_int_1) [0, 1, 2, 8, 9])
  (.seq (.region [⟨some 35, none, .mov (.t 9)⟩,
    ⟨some 36, none, .mov (.t 9)⟩,
    ⟨some 37, none, .mov (.t 8)⟩,
    ⟨some 38, none, .bin .lss (.t 36) (.t 37)⟩,
    ⟨some 39, none, .mov (.t 38)⟩,
    ⟨some 40, some (39, true), .mov (.t 2)⟩,
    ⟨some 41, some (39, true), .mov (.t 0)⟩,
    ⟨some 42, some (39, true), .mov (.t 9)⟩,
    ⟨some 43, some (39, true), .idxS 4 (.t 41) (.t 42)⟩,
    ⟨some 44, some (39, true), .load true 4 (.t 43)⟩,
    ⟨some 45, some (39, true), .mov (.t 1)⟩,
    ⟨some 46, some (39, true), .callv (.t 40) [.t 44, .t 45]⟩,
    ⟨some 47, some (39, true), .bin .eql (.t 46) (.c (.int .i64 0))⟩,
    ⟨some 48, none, .pick (.t 39) (.t 47) (.c (.bool false))⟩,
    ⟨some 6, none, .mov (.t 35)⟩,
    ⟨some 7, none, .mov (.t 48)⟩]
    [6, 7])
  .ret)))))⟩

def RC.plan_find_1 : RFn := ⟨2, [.slot 4],
  (.seq (.region [⟨some 2, none, .box (.t 0)⟩,
    ⟨some 4, none, .mov (.c (.int .i64 0))⟩]
    [1, 2])
  (.seq (.region [⟨some 5, none, .fieldAddr 0 (.t 2)⟩,
    ⟨some 6, none, .load false 1 (.t 5)⟩,
    ⟨some 7, none, .mov (.t 1)⟩,
    ⟨some 8, none, .call F.cmp_Compare_int [.t 6, .t 7]⟩,
    ⟨some 4, none, .mov (.t 8)⟩]
    [4])
  .ret))⟩

def RC.cmp_Compare_int : RFn := ⟨2, [.slot 4],
  (.seq (.region [⟨some 4, none, .mov (.c (.int .i64 0))⟩]
    [0, 1])
  (.seq (.region [⟨some 7, none, .mov (.t 0)⟩,
    ⟨some 8, none, .call F.cmp_isNaN_int [.t 7]⟩,
    ⟨some 5, none, .mov (.t 8)⟩]
    [0, 1, 5])
  (.seq (.region [⟨some 9, none, .mov (.t 1)⟩,
    ⟨some 10, none, .call F.cmp_isNaN_int [.t 9]⟩,
    ⟨some 6, none, .mov (.t 10)⟩]
    [0, 1, 5, 6])
  (.seq (.seq (.region [⟨some 11, none, .mov (.t 5)⟩]
    [0, 1, 6, 11])
  (.cond (.t 11)
    (.seq (.seq (.region [⟨some 12, none, .mov (.t 6)⟩]
      [12])
    (.cond (.t 12)
      (.seq (.region [⟨some 4, none, .mov (.c (.int .i64 0))⟩]
        [4])
      .ret)
      .skip))
    (.seq (.region [⟨some 4, none, .mov (.c (.int .i64 (-1)))⟩]
      [4])
    .ret))
    .skip))
  (.seq (.seq (.region [⟨some 13, none, .mov (.t 6)⟩]
    [0, 1, 13])
  (.cond (.t 13)
    (.seq (.region [⟨some 4, none, .mov (.c (.int .i64 1))⟩]
      [4])
    .ret)
    .skip))
  (.seq (.seq (.region [⟨some 14, none, .mov (.t 0)⟩,
    ⟨some 15, none, .mov (.t 1)⟩,
    ⟨some 16, none, .bin .lss (.t 14) (.t 15)⟩]
    [0, 1, 16])
  (.cond (.t 16)
    (.seq (.region [⟨some 4, none, .mov (.c (.int .i64 (-1)))⟩]
      [4])
    .ret)
    .skip))
  (.seq (.seq (.region [⟨some 17, none, .mov (.t 0)⟩,
    ⟨some 18, none, .mov (.t 1)⟩,
    ⟨some 19, none, .bin .gtr (.t 17) (.t 18)⟩]
    [19])
  (.cond (.t 19)
    (.seq (.region [⟨some 4, none, .mov (.c (.int .i64 1))⟩]
      [4])
    .ret)
    .skip))
  (.seq (.region [⟨some 4, none, .mov (.c (.int .i64 0))⟩]
    [4])
  .ret))))))))⟩

def RC.mask_Round : RFn := ⟨3, [.slot 6],
  (.seq (.region [⟨some 6, none, .mov (.c (u64 0#64))⟩]
    [0, 1, 2])
  (.seq (.region [⟨some 7, none, .mov (.t 0)⟩,
    ⟨some 8, none, .call F.mask_frame [.t 7]⟩,
    ⟨some 0, none, .mov (.t 8)⟩]
    [0, 1, 2])
  (.seq (.seq (.region [⟨some 9, none, .mov (.t 0)⟩,
    ⟨some 10, none, .bin .eql (.t 9) (.c (.int .i64 0))⟩]
    [0, 1, 2, 10])
  (.cond (.t 10)
    (.seq (.region [⟨some 6, none, .mov (.c (u64 0#64))⟩]
      [6])
    .ret)
    .skip))
  (.seq (.region [⟨some 11, none, .mov (.t 0)⟩,
    ⟨some 12, none, .mov (.t 2)⟩,
    ⟨some 13, none, .minmax true [.t 12, .c (.int .i64 0)]⟩,
    ⟨some 14, none, .mov (.t 0)⟩,
    ⟨some 15, none, .minmax false [.t 13, .t 14]⟩,
    ⟨some 16, none, .call F.mask_All [.t 15]⟩,
    ⟨some 17, none, .mov (.t 1)⟩,
    ⟨some 18, none, .call F.mask_Turn [.t 11, .t 16, .t 17]⟩,
    ⟨some 6, none, .mov (.t 18)⟩]
    [6])
  .ret))))⟩

def RC.mask_All : RFn := ⟨1, [.slot 2],
  (.seq (.region [⟨some 2, none, .mov (.c (u64 0#64))⟩]
    [0])
  (.seq (.region [⟨some 3, none, .mov (.t 0)⟩,
    ⟨some 4, none, .call F.mask_frame [.t 3]⟩,
    ⟨some 0, none, .mov (.t 4)⟩]
    [0])
  (.seq (.seq (.region [⟨some 5, none, .mov (.t 0)⟩,
    ⟨some 6, none, .bin .eql (.t 5) (.c (.int .i64 64))⟩]
    [0, 6])
  (.cond (.t 6)
    (.seq (.region [⟨some 2, none, .mov (.c (u64 18446744073709551615#64))⟩]
      [2])
    .ret)
    .skip))
  (.seq (.region [⟨some 7, none, .mov (.t 0)⟩,
    ⟨some 8, none, .bin .shl (.c (u64 1#64)) (.t 7)⟩,
    ⟨some 9, none, .bin .sub (.t 8) (.c (u64 1#64))⟩,
    ⟨some 2, none, .mov (.t 9)⟩]
    [2])
  .ret))))⟩

def RC.math_bits_OnesCount64 : RFn := ⟨1, [.slot 2],
  (.seq (.region [⟨some 2, none, .mov (.c (.int .i64 0))⟩]
    [0])
  (.seq (.region [⟨some 3, none, .mov (.t 0)⟩,
    ⟨some 4, none, .bin .shr (.t 3) (.c (u64 1#64))⟩,
    ⟨some 5, none, .bin .and (.t 4) (.c (u64 6148914691236517205#64))⟩,
    ⟨some 6, none, .mov (.t 0)⟩,
    ⟨some 7, none, .bin .and (.t 6) (.c (u64 6148914691236517205#64))⟩,
    ⟨some 8, none, .bin .add (.t 5) (.t 7)⟩,
    ⟨some 0, none, .mov (.t 8)⟩]
    [0])
  (.seq (.region [⟨some 9, none, .mov (.t 0)⟩,
    ⟨some 10, none, .bin .shr (.t 9) (.c (u64 2#64))⟩,
    ⟨some 11, none, .bin .and (.t 10) (.c (u64 3689348814741910323#64))⟩,
    ⟨some 12, none, .mov (.t 0)⟩,
    ⟨some 13, none, .bin .and (.t 12) (.c (u64 3689348814741910323#64))⟩,
    ⟨some 14, none, .bin .add (.t 11) (.t 13)⟩,
    ⟨some 0, none, .mov (.t 14)⟩]
    [0])
  (.seq (.region [⟨some 15, none, .mov (.t 0)⟩,
    ⟨some 16, none, .bin .shr (.t 15) (.c (u64 4#64))⟩,
    ⟨some 17, none, .mov (.t 0)⟩,
    ⟨some 18, none, .bin .add (.t 16) (.t 17)⟩,
    ⟨some 19, none, .bin .and (.t 18) (.c (u64 1085102592571150095#64))⟩,
    ⟨some 0, none, .mov (.t 19)⟩]
    [0])
  (.seq (.region [⟨some 20, none, .mov (.t 0)⟩,
    ⟨some 21, none, .mov (.t 0)⟩,
    ⟨some 22, none, .bin .shr (.t 21) (.c (u64 8#64))⟩,
    ⟨some 23, none, .bin .add (.t 20) (.t 22)⟩,
    ⟨some 0, none, .mov (.t 23)⟩]
    [0])
  (.seq (.region [⟨some 24, none, .mov (.t 0)⟩,
    ⟨some 25, none, .mov (.t 0)⟩,
    ⟨some 26, none, .bin .shr (.t 25) (.c (u64 16#64))⟩,
    ⟨some 27, none, .bin .add (.t 24) (.t 26)⟩,
    ⟨some 0, none, .mov (.t 27)⟩]
    [0])
  (.seq (.region [⟨some 28, none, .mov (.t 0)⟩,
    ⟨some 29, none, .mov (.t 0)⟩,
    ⟨some 30, none, .bin .shr (.t 29) (.c (u64 32#64))⟩,
    ⟨some 31, none, .bin .add (.t 28) (.t 30)⟩,
    ⟨some 0, none, .mov (.t 31)⟩]
    [0])
  (.seq (.region [⟨some 32, none, .mov (.t 0)⟩,
    ⟨some 33, none, .conv .i64 (.t 32)⟩,
    ⟨some 34, none, .bin .and (.t 33) (.c (.int .i64 127))⟩,
    ⟨some 2, none, .mov (.t 34)⟩]
    [2])
  .ret))))))))⟩

def RC.cmp_isNaN_int : RFn := ⟨1, [.slot 2],
  (.seq (.region [⟨some 2, none, .mov (.c (.bool false))⟩]
    [0])
  (.seq (.region [⟨some 3, none, .mov (.t 0)⟩,
    ⟨some 4, none, .mov (.t 0)⟩,
    ⟨some 5, none, .bin .neq (.t 3) (.t 4)⟩,
    ⟨some 2, none, .mov (.t 5)⟩]
    [2])
  .ret))⟩

def RC.mask_frame : RFn := ⟨1, [.slot 2],
  (.seq (.region [⟨some 2, none, .mov (.c (.int .i64 0))⟩]
    [0])
  (.seq (.region [⟨some 3, none, .mov (.t 0)⟩,
    ⟨some 4, none, .minmax true [.t 3, .c (.int .i64 0)]⟩,
    ⟨some 5, none, .minmax false [.t 4, .c (.int .i64 64)]⟩,
    ⟨some 2, none, .mov (.t 5)⟩]
    [2])
  .ret))⟩

def RC.mask_Turn : RFn := ⟨3, [.slot 6],
  (.seq (.region [⟨some 6, none, .mov (.c (u64 0#64))⟩]
    [0, 1, 2])
  (.seq (.region [⟨some 7, none, .mov (.t 0)⟩,
    ⟨some 8, none, .call F.mask_frame [.t 7]⟩,
    ⟨some 0, none, .mov (.t 8)⟩]
    [0, 1, 2])
  (.seq (.seq (.region [⟨some 9, none, .mov (.t 0)⟩,
    ⟨some 10, none, .bin .eql (.t 9) (.c (.int .i64 0))⟩]
    [0, 1, 2, 10])
  (.cond (.t 10)
    (.seq (.region [⟨some 6, none, .mov (.c (u64 0#64))⟩]
      [6])
    .ret)
    .skip))
  (.seq (.region [⟨some 11, none, .mov (.t 1)⟩,
    ⟨some 12, none, .mov (.t 0)⟩,
    ⟨some 13, none, .call F.mask_All [.t 12]⟩,
    ⟨some 14, none, .bin .and (.t 11) (.t 13)⟩,
    ⟨some 1, none, .mov (.t 14)⟩]
    [0, 1, 2])
  (.seq (.region [⟨some 15, none, .mov (.t 0)⟩,
    ⟨some 16, none, .mov (.t 2)⟩,
    ⟨some 17, none, .call F.mask_place [.t 15, .t 16]⟩,
    ⟨some 2, none, .mov (.t 17)⟩]
    [0, 1, 2])
  (.seq (.drawn [⟨some 18, none, .mov (.t 1)⟩,
    ⟨some 19, none, .mov (.t 2)⟩,
    ⟨some 20, none, .bin .shl (.t 18) (.t 19)⟩,
    ⟨some 21, none, .mov (.t 1)⟩,
    ⟨some 22, none, .mov (.t 0)⟩,
    ⟨some 23, none, .mov (.t 2)⟩,
    ⟨some 24, none, .bin .sub (.t 22) (.t 23)⟩,
    ⟨some 25, none, .bin .shr (.t 21) (.t 24)⟩,
    ⟨some 26, none, .bin .or (.t 20) (.t 25)⟩,
    ⟨some 27, none, .mov (.t 0)⟩,
    ⟨some 28, none, .call F.mask_All [.t 27]⟩,
    ⟨some 29, none, .bin .and (.t 26) (.t 28)⟩,
    ⟨some 6, none, .mov (.t 29)⟩]
    [[], [], [0, 1], [], [], [], [4, 5], [3, 6], [2, 7], [], [9], [8, 10], [11, 10, 0, 1, 2, 3, 4, 5, 6, 7, 8, 9, 10, 11]]
    [(0, []), (1, []), (2, []), (3, []), (4, []), (5, []), (6, []), (7, []), (8, []), (9, []), (10, []), (11, []), (12, [])]
    [[], [], [0, 1], [], [], [], [4, 5], [3, 4, 5, 6], [0, 1, 2, 3, 4, 5, 6, 7], [], [9], [0, 1, 2, 3, 4, 5, 6, 7, 8, 9, 10], [0, 1, 2, 3, 4, 5, 6, 7, 8, 9, 10, 11]]
    [6])
  .ret))))))⟩

def RC.mask_place : RFn := ⟨2, [.slot 4],
  (.seq (.region [⟨some 4, none, .mov (.c (.int .i64 0))⟩]
    [0, 1])
  (.seq (.region [⟨some 5, none, .mov (.t 1)⟩,
    ⟨some 6, none, .mov (.t 0)⟩,
    ⟨some 7, none, .bin .rem (.t 5) (.t 6)⟩,
    ⟨some 8, none, .mov (.t 0)⟩,
    ⟨some 9, none, .bin .add (.t 7) (.t 8)⟩,
    ⟨some 10, none, .mov (.t 0)⟩,
    ⟨some 11, none, .bin .rem (.t 9) (.t 10)⟩,
    ⟨some 4, none, .mov (.t 11)⟩]
    [4])
  .ret))⟩

def tab0 : List (Nat × FEnt) := [(F.law19_ChainSplits, .rc RC.law19_ChainSplits),
  (F.law19_ChainGoes, .rc RC.law19_ChainGoes),
  (F.law19_ChainFull, .rc RC.law19_ChainFull),
  (F.law16_Light, .rc RC.law16_Light),
  (F.law19_awake, .rc RC.law19_awake),
  (F.chain_Rooms, .rc RC.chain_Rooms),
  (F.ref16_Right, .rc RC.ref16_Right),
  (F.ref03_Same, .rc RC.ref03_Same),
  (F.ref19_Rooms, .rc RC.ref19_Rooms),
  (F.chain_Split, .rc RC.chain_Split),
  (F.ref19_Why, .rc RC.ref19_Why),
  (F.ref16_Same, .rc RC.ref16_Same),
  (F.ref19_Split, .rc RC.ref19_Split),
  (F.ref16_Find, .rc RC.ref16_Find),
  (F.ref16_SamePlace, .rc RC.ref16_SamePlace),
  (F.ref16_Splits, .rc RC.ref16_Splits),
  (F.ref16_Cores, .rc RC.ref16_Cores),
  (F.ref16_Room, .rc RC.ref16_Room),
  (F.plan_Check, .rc RC.plan_Check),
  (F.plan_Cores, .rc RC.plan_Cores),
  (F.plan_Room, .rc RC.plan_Room),
  (F.ref16_place, .rc RC.ref16_place),
  (F.ref16_apart, .rc RC.ref16_apart),
  (F.ref16_Load, .rc RC.ref16_Load),
  (F.chain_why, .rc RC.chain_why),
  (F.plan_Drop, .rc RC.plan_Drop),
  (F.plan_Put, .rc RC.plan_Put),
  (F.chain_chain_place, .rc RC.chain_chain_place),
  (F.ref18_Why, .rc RC.ref18_Why),
  (F.ref08_Total, .rc RC.ref08_Total),
  (F.ref16_Free, .rc RC.ref16_Free),
  (F.ref16_Put, .rc RC.ref16_Put),
  (F.ref04_With, .rc RC.ref04_With),
  (F.ref16_Has, .rc RC.ref16_Has),
  (F.plan_place, .rc RC.plan_place),
  (F.plan_apart, .rc RC.plan_apart),
  (F.plan_Splits, .rc RC.plan_Splits),
  (F.plan_left, .rc RC.plan_left),
  (F.plan_has, .rc RC.plan_has),
  (F.ref08_Is, .rc RC.ref08_Is),
  (F.ref16_At, .rc RC.ref16_At),
  (F.ref04_Count, .rc RC.ref04_Count),
  (F.ref16_Windows, .rc RC.ref16_Windows),
  (F.ref16_Wholes, .rc RC.ref16_Wholes),
  (F.order_Check, .rc RC.order_Check),
  (F.plan_Find, .rc RC.plan_Find),
  (F.order_Total, .rc RC.order_Total),
  (F.plan_Free, .rc RC.plan_Free),
  (F.plan_clone, .rc RC.plan_clone),
  (F.plan_find, .rc RC.plan_find),
  (F.slices_Delete_api_Place_api_Place, .rc RC.slices_Delete_api_Place_api_Place),
  (F.slices_Clone_api_Piece_api_Piece, .rc RC.slices_Clone_api_Piece_api_Piece),
  (F.chain_chain_on, .rc RC.chain_chain_on),
  (F.chain_chain_take, .rc RC.chain_chain_take),
  (F.ref08_Check, .rc RC.ref08_Check),
  (F.ref02_Add, .rc RC.ref02_Add),
  (F.ref16_Drop, .rc RC.ref16_Drop),
  (F.ref04_Has, .rc RC.ref04_Has),
  (F.order_Kind, .rc RC.order_Kind),
  (F.plan_split, .rc RC.plan_split),
  (F.plan_pieces, .rc RC.plan_pieces),
  (F.mask_Count, .rc RC.mask_Count),
  (F.plan_Windows, .rc RC.plan_Windows),
  (F.plan_Wholes, .rc RC.plan_Wholes),
  (F.ref04_Ticks, .rc RC.ref04_Ticks),
  (F.fixq_Add, .rc RC.fixq_Add),
  (F.slices_BinarySearchFunc_api_Place_api_Place_int, .rc RC.slices_BinarySearchFunc_api_Place_api_Place_int),
  (F.plan_find_1, .rc RC.plan_find_1),
  (F.cmp_Compare_int, .rc RC.cmp_Compare_int),
  (F.mask_Round, .rc RC.mask_Round),
  (F.mask_All, .rc RC.mask_All),
  (F.math_bits_OnesCount64, .rc RC.math_bits_OnesCount64),
  (F.cmp_isNaN_int, .rc RC.cmp_isNaN_int),
  (F.mask_frame, .rc RC.mask_frame),
  (F.mask_Turn, .rc RC.mask_Turn),
  (F.mask_place, .rc RC.mask_place),
  (F.slices_Insert_api_Place_api_Place, .ext X.in55)]
/-- What each number stands for. -/
def R0 : Nat → Option FEnt := lookF tab0
/-- The same, with the examples as known. -/
def tab : List (Nat × FEnt) := (F.law19_awake, .ext X.ok) :: tab0
def R : Nat → Option FEnt := lookF tab
theorem R.law19_awake : R F.law19_awake = some (.ext X.ok) := by with_unfolding_all rfl
theorem R.law19_ChainSplits : R F.law19_ChainSplits = some (.rc RC.law19_ChainSplits) := by with_unfolding_all rfl
theorem R.law19_ChainGoes : R F.law19_ChainGoes = some (.rc RC.law19_ChainGoes) := by with_unfolding_all rfl
theorem R.law19_ChainFull : R F.law19_ChainFull = some (.rc RC.law19_ChainFull) := by with_unfolding_all rfl
theorem R.law16_Light : R F.law16_Light = some (.rc RC.law16_Light) := by with_unfolding_all rfl
theorem R.chain_Rooms : R F.chain_Rooms = some (.rc RC.chain_Rooms) := by with_unfolding_all rfl
theorem R.ref16_Right : R F.ref16_Right = some (.rc RC.ref16_Right) := by with_unfolding_all rfl
theorem R.ref03_Same : R F.ref03_Same = some (.rc RC.ref03_Same) := by with_unfolding_all rfl
theorem R.ref19_Rooms : R F.ref19_Rooms = some (.rc RC.ref19_Rooms) := by with_unfolding_all rfl
theorem R.chain_Split : R F.chain_Split = some (.rc RC.chain_Split) := by with_unfolding_all rfl
theorem R.ref19_Why : R F.ref19_Why = some (.rc RC.ref19_Why) := by with_unfolding_all rfl
theorem R.ref16_Same : R F.ref16_Same = some (.rc RC.ref16_Same) := by with_unfolding_all rfl
theorem R.ref19_Split : R F.ref19_Split = some (.rc RC.ref19_Split) := by with_unfolding_all rfl
theorem R.ref16_Find : R F.ref16_Find = some (.rc RC.ref16_Find) := by with_unfolding_all rfl
theorem R.ref16_SamePlace : R F.ref16_SamePlace = some (.rc RC.ref16_SamePlace) := by with_unfolding_all rfl
theorem R.ref16_Splits : R F.ref16_Splits = some (.rc RC.ref16_Splits) := by with_unfolding_all rfl
theorem R.ref16_Cores : R F.ref16_Cores = some (.rc RC.ref16_Cores) := by with_unfolding_all rfl
theorem R.ref16_Room : R F.ref16_Room = some (.rc RC.ref16_Room) := by with_unfolding_all rfl
theorem R.plan_Check : R F.plan_Check = some (.rc RC.plan_Check) := by with_unfolding_all rfl
theorem R.plan_Cores : R F.plan_Cores = some (.rc RC.plan_Cores) := by with_unfolding_all rfl
theorem R.plan_Room : R F.plan_Room = some (.rc RC.plan_Room) := by with_unfolding_all rfl
theorem R.ref16_place : R F.ref16_place = some (.rc RC.ref16_place) := by with_unfolding_all rfl
theorem R.ref16_apart : R F.ref16_apart = some (.rc RC.ref16_apart) := by with_unfolding_all rfl
theorem R.ref16_Load : R F.ref16_Load = some (.rc RC.ref16_Load) := by with_unfolding_all rfl
theorem R.chain_why : R F.chain_why = some (.rc RC.chain_why) := by with_unfolding_all rfl
theorem R.plan_Drop : R F.plan_Drop = some (.rc RC.plan_Drop) := by with_unfolding_all rfl
theorem R.plan_Put : R F.plan_Put = some (.rc RC.plan_Put) := by with_unfolding_all rfl
theorem R.chain_chain_place : R F.chain_chain_place = some (.rc RC.chain_chain_place) := by with_unfolding_all rfl
theorem R.ref18_Why : R F.ref18_Why = some (.rc RC.ref18_Why) := by with_unfolding_all rfl
theorem R.ref08_Total : R F.ref08_Total = some (.rc RC.ref08_Total) := by with_unfolding_all rfl
theorem R.ref16_Free : R F.ref16_Free = some (.rc RC.ref16_Free) := by with_unfolding_all rfl
theorem R.ref16_Put : R F.ref16_Put = some (.rc RC.ref16_Put) := by with_unfolding_all rfl
theorem R.ref04_With : R F.ref04_With = some (.rc RC.ref04_With) := by with_unfolding_all rfl
theorem R.ref16_Has : R F.ref16_Has = some (.rc RC.ref16_Has) := by with_unfolding_all rfl
theorem R.plan_place : R F.plan_place = some (.rc RC.plan_place) := by with_unfolding_all rfl
theorem R.plan_apart : R F.plan_apart = some (.rc RC.plan_apart) := by with_unfolding_all rfl
theorem R.plan_Splits : R F.plan_Splits = some (.rc RC.plan_Splits) := by with_unfolding_all rfl
theorem R.plan_left : R F.plan_left = some (.rc RC.plan_left) := by with_unfolding_all rfl
theorem R.plan_has : R F.plan_has = some (.rc RC.plan_has) := by with_unfolding_all rfl
theorem R.ref08_Is : R F.ref08_Is = some (.rc RC.ref08_Is) := by with_unfolding_all rfl
theorem R.ref16_At : R F.ref16_At = some (.rc RC.ref16_At) := by with_unfolding_all rfl
theorem R.ref04_Count : R F.ref04_Count = some (.rc RC.ref04_Count) := by with_unfolding_all rfl
theorem R.ref16_Windows : R F.ref16_Windows = some (.rc RC.ref16_Windows) := by with_unfolding_all rfl
theorem R.ref16_Wholes : R F.ref16_Wholes = some (.rc RC.ref16_Wholes) := by with_unfolding_all rfl
theorem R.order_Check : R F.order_Check = some (.rc RC.order_Check) := by with_unfolding_all rfl
theorem R.plan_Find : R F.plan_Find = some (.rc RC.plan_Find) := by with_unfolding_all rfl
theorem R.order_Total : R F.order_Total = some (.rc RC.order_Total) := by with_unfolding_all rfl
theorem R.plan_Free : R F.plan_Free = some (.rc RC.plan_Free) := by with_unfolding_all rfl
theorem R.plan_clone : R F.plan_clone = some (.rc RC.plan_clone) := by with_unfolding_all rfl
theorem R.plan_find : R F.plan_find = some (.rc RC.plan_find) := by with_unfolding_all rfl
theorem R.slices_Delete_api_Place_api_Place : R F.slices_Delete_api_Place_api_Place = some (.rc RC.slices_Delete_api_Place_api_Place) := by with_unfolding_all rfl
theorem R.slices_Clone_api_Piece_api_Piece : R F.slices_Clone_api_Piece_api_Piece = some (.rc RC.slices_Clone_api_Piece_api_Piece) := by with_unfolding_all rfl
theorem R.chain_chain_on : R F.chain_chain_on = some (.rc RC.chain_chain_on) := by with_unfolding_all rfl
theorem R.chain_chain_take : R F.chain_chain_take = some (.rc RC.chain_chain_take) := by with_unfolding_all rfl
theorem R.ref08_Check : R F.ref08_Check = some (.rc RC.ref08_Check) := by with_unfolding_all rfl
theorem R.ref02_Add : R F.ref02_Add = some (.rc RC.ref02_Add) := by with_unfolding_all rfl
theorem R.ref16_Drop : R F.ref16_Drop = some (.rc RC.ref16_Drop) := by with_unfolding_all rfl
theorem R.ref04_Has : R F.ref04_Has = some (.rc RC.ref04_Has) := by with_unfolding_all rfl
theorem R.order_Kind : R F.order_Kind = some (.rc RC.order_Kind) := by with_unfolding_all rfl
theorem R.plan_split : R F.plan_split = some (.rc RC.plan_split) := by with_unfolding_all rfl
theorem R.plan_pieces : R F.plan_pieces = some (.rc RC.plan_pieces) := by with_unfolding_all rfl
theorem R.mask_Count : R F.mask_Count = some (.rc RC.mask_Count) := by with_unfolding_all rfl
theorem R.plan_Windows : R F.plan_Windows = some (.rc RC.plan_Windows) := by with_unfolding_all rfl
theorem R.plan_Wholes : R F.plan_Wholes = some (.rc RC.plan_Wholes) := by with_unfolding_all rfl
theorem R.ref04_Ticks : R F.ref04_Ticks = some (.rc RC.ref04_Ticks) := by with_unfolding_all rfl
theorem R.fixq_Add : R F.fixq_Add = some (.rc RC.fixq_Add) := by with_unfolding_all rfl
theorem R.slices_BinarySearchFunc_api_Place_api_Place_int : R F.slices_BinarySearchFunc_api_Place_api_Place_int = some (.rc RC.slices_BinarySearchFunc_api_Place_api_Place_int) := by with_unfolding_all rfl
theorem R.plan_find_1 : R F.plan_find_1 = some (.rc RC.plan_find_1) := by with_unfolding_all rfl
theorem R.cmp_Compare_int : R F.cmp_Compare_int = some (.rc RC.cmp_Compare_int) := by with_unfolding_all rfl
theorem R.mask_Round : R F.mask_Round = some (.rc RC.mask_Round) := by with_unfolding_all rfl
theorem R.mask_All : R F.mask_All = some (.rc RC.mask_All) := by with_unfolding_all rfl
theorem R.math_bits_OnesCount64 : R F.math_bits_OnesCount64 = some (.rc RC.math_bits_OnesCount64) := by with_unfolding_all rfl
theorem R.cmp_isNaN_int : R F.cmp_isNaN_int = some (.rc RC.cmp_isNaN_int) := by with_unfolding_all rfl
theorem R.mask_frame : R F.mask_frame = some (.rc RC.mask_frame) := by with_unfolding_all rfl
theorem R.mask_Turn : R F.mask_Turn = some (.rc RC.mask_Turn) := by with_unfolding_all rfl
theorem R.mask_place : R F.mask_place = some (.rc RC.mask_place) := by with_unfolding_all rfl
theorem R.slices_Insert_api_Place_api_Place : R F.slices_Insert_api_Place_api_Place = some (.ext X.in55) := by with_unfolding_all rfl
end Go.Am
