/- Parts of the proofs of the statements of this seat: AmTabTable, TableTz, AmTieTable, AmBlk, AmSl2. No conditions. -/
import Derived.Test.YtnnebejpegfkbaaDoorTableTwicePart3
import Derived.Test.YtnnebejpegfkbaaDoorRows
import Derived.Shelf.Spec.TrailingZeros
import Derived.WalkKit
import Derived.ProofKit
import Derived.Lib.LaidTab
import Derived.Deep.DeepHandedRow
set_option linter.unusedVariables false
set_option linter.unusedSimpArgs false

/- The functions of the layer table in the form of the abstract machine. Printed by amgen.py. -/
set_option linter.unusedVariables false
namespace Go.Am

@[irreducible] def F.law17_TableOf : Nat := 3
@[irreducible] def F.law17_TableAt : Nat := 4
@[irreducible] def F.law17_TableTwice : Nat := 5
@[irreducible] def F.law16_Light : Nat := 7
@[irreducible] def F.law17_awake : Nat := 8
@[irreducible] def F.table_Of : Nat := 9
@[irreducible] def F.ref16_Right : Nat := 10
@[irreducible] def F.ref17_Of : Nat := 11
@[irreducible] def F.law17_theirs : Nat := 12
@[irreducible] def F.table_At : Nat := 13
@[irreducible] def F.ref17_At : Nat := 14
@[irreducible] def F.table_Busy : Nat := 15
@[irreducible] def F.table_Loose : Nat := 16
@[irreducible] def F.ref17_Same : Nat := 20
@[irreducible] def F.plan_Check : Nat := 21
@[irreducible] def F.plan_Cores : Nat := 22
@[irreducible] def F.plan_Wholes : Nat := 23
@[irreducible] def F.mask_Ticks : Nat := 24
@[irreducible] def F.ref16_place : Nat := 25
@[irreducible] def F.ref16_apart : Nat := 26
@[irreducible] def F.ref16_Splits : Nat := 27
@[irreducible] def F.ref16_Cores : Nat := 28
@[irreducible] def F.ref16_Load : Nat := 29
@[irreducible] def F.ref16_Wholes : Nat := 30
@[irreducible] def F.ref16_At : Nat := 31
@[irreducible] def F.table_count_int : Nat := 32
@[irreducible] def F.plan_place : Nat := 40
@[irreducible] def F.plan_apart : Nat := 41
@[irreducible] def F.plan_Splits : Nat := 42
@[irreducible] def F.plan_left : Nat := 43
@[irreducible] def F.plan_has : Nat := 44
@[irreducible] def F.plan_split : Nat := 45
@[irreducible] def F.math_bits_TrailingZeros64 : Nat := 46
@[irreducible] def F.ref08_Is : Nat := 47
@[irreducible] def F.ref16_Has : Nat := 48
@[irreducible] def F.ref04_Count : Nat := 49
@[irreducible] def F.ref16_Windows : Nat := 50
@[irreducible] def F.ref04_Has : Nat := 51
@[irreducible] def F.order_Kind : Nat := 58
@[irreducible] def F.plan_pieces : Nat := 59
@[irreducible] def F.mask_Count : Nat := 60
@[irreducible] def F.plan_Windows : Nat := 61
@[irreducible] def F.ref04_Ticks : Nat := 62
@[irreducible] def F.ref04_With : Nat := 63
@[irreducible] def F.mask_All : Nat := 74
@[irreducible] def F.math_bits_OnesCount64 : Nat := 75
@[irreducible] def F.mask_frame : Nat := 81

def RB.law17_TableOf_1 : RCode :=
  (.seq (.seq (.region [⟨some 40, none, .mov (.t 6)⟩,
    ⟨some 41, none, .mov (.t 3)⟩,
    ⟨some 42, none, .len (.t 41)⟩,
    ⟨some 43, none, .bin .lss (.t 40) (.t 42)⟩]
    [3, 5, 6, 43])
  (.cond (.t 43)
    .skip
    (.exit 0)))
  (.seq (.block 1
    (.seq (.drawn [⟨some 46, none, .mov (.t 3)⟩,
      ⟨some 47, none, .mov (.t 6)⟩,
      ⟨some 48, none, .idxS 3 (.t 46) (.t 47)⟩,
      ⟨some 49, none, .load true 3 (.t 48)⟩,
      ⟨some 50, none, .mov (.t 5)⟩,
      ⟨some 51, none, .mov (.t 6)⟩,
      ⟨some 52, none, .idxS 3 (.t 50) (.t 51)⟩,
      ⟨some 53, none, .load true 3 (.t 52)⟩,
      ⟨some 54, none, .call F.law17_theirs [.t 49, .t 53]⟩,
      ⟨some 55, none, .un .not (.t 54)⟩]
      [[], [], [0, 1], [2], [], [], [4, 5], [6], [3, 7], [8]]
      [(0, []), (1, []), (2, []), (4, []), (5, []), (6, []), (3, []), (7, []), (8, []), (9, [])]
      [[], [], [0, 1], [0, 1, 2], [], [], [4, 5], [4, 5, 6], [0, 1, 2, 3, 4, 5, 6, 7], [0, 1, 2, 3, 4, 5, 6, 7, 8]]
      [3, 5, 6, 55])
    (.cond (.t 55)
      (.seq (.region [⟨some 2, none, .mov (.c (.bool false))⟩]
        [2])
      .ret)
      .skip)) [3, 5, 6])
  (.region [⟨some 44, none, .mov (.t 6)⟩,
    ⟨some 45, none, .bin .add (.t 44) (.c (.int .i64 1))⟩,
    ⟨some 6, none, .mov (.t 45)⟩]
    [3, 5, 6])))
def RC.law17_TableOf : RFn := ⟨1, [.slot 2],
  (.seq (.region [⟨some 1, none, .box (.t 0)⟩,
    ⟨some 2, none, .mov (.c (.bool false))⟩]
    [1])
  (.seq (.seq (.region [⟨some 7, none, .load true 3 (.t 1)⟩,
    ⟨some 8, none, .call F.law16_Light [.t 7]⟩,
    ⟨some 9, none, .un .not (.t 8)⟩]
    [1, 9])
  (.cond (.t 9)
    (.seq (.region [⟨some 10, none, .call F.law17_awake []⟩,
      ⟨some 2, none, .mov (.t 10)⟩]
      [2])
    .ret)
    .skip))
  (.seq (.region [⟨some 12, none, .load true 3 (.t 1)⟩,
    ⟨some 13, none, .call F.table_Of [.t 12]⟩,
    ⟨some 11, none, .mov (.t 13)⟩,
    ⟨some 14, none, .ext 0 (.t 11)⟩,
    ⟨some 15, none, .ext 1 (.t 11)⟩,
    ⟨some 3, none, .mov (.t 14)⟩,
    ⟨some 4, none, .mov (.t 15)⟩]
    [1, 3, 4])
  (.seq (.seq (.region [⟨some 16, none, .load true 3 (.t 1)⟩,
    ⟨some 17, none, .call F.ref16_Right [.t 16]⟩,
    ⟨some 18, none, .un .not (.t 17)⟩]
    [1, 3, 4, 18])
  (.cond (.t 18)
    (.seq (.region [⟨some 19, none, .mov (.t 3)⟩,
      ⟨some 20, none, .len (.t 19)⟩,
      ⟨some 21, none, .bin .eql (.t 20) (.c (.int .i64 0))⟩,
      ⟨some 22, none, .mov (.t 21)⟩,
      ⟨some 23, some (22, true), .mov (.t 4)⟩,
      ⟨some 24, some (22, true), .bin .eql (.t 23) (.c (.int .i64 30))⟩,
      ⟨some 25, none, .pick (.t 22) (.t 24) (.c (.bool false))⟩,
      ⟨some 26, none, .mov (.t 25)⟩,
      ⟨some 27, some (26, true), .call F.law17_awake []⟩,
      ⟨some 28, none, .pick (.t 26) (.t 27) (.c (.bool false))⟩,
      ⟨some 2, none, .mov (.t 28)⟩]
      [2])
    .ret)
    .skip))
  (.seq (.region [⟨some 29, none, .load true 3 (.t 1)⟩,
    ⟨some 30, none, .call F.ref17_Of [.t 29]⟩,
    ⟨some 5, none, .mov (.t 30)⟩]
    [3, 4, 5])
  (.seq (.seq (.region [⟨some 31, none, .mov (.t 4)⟩,
    ⟨some 32, none, .bin .neq (.t 31) (.c (.int .i64 0))⟩,
    ⟨some 33, none, .mov (.t 32)⟩,
    ⟨some 34, some (33, false), .mov (.t 3)⟩,
    ⟨some 35, some (33, false), .len (.t 34)⟩,
    ⟨some 36, some (33, false), .mov (.t 5)⟩,
    ⟨some 37, some (33, false), .len (.t 36)⟩,
    ⟨some 38, some (33, false), .bin .neq (.t 35) (.t 37)⟩,
    ⟨some 39, none, .pick (.t 33) (.c (.bool true)) (.t 38)⟩]
    [3, 5, 39])
  (.cond (.t 39)
    (.seq (.region [⟨some 2, none, .mov (.c (.bool false))⟩]
      [2])
    .ret)
    .skip))
  (.seq (.seq (.region [⟨some 6, none, .mov (.c (.int .i64 0))⟩]
    [3, 5, 6])
  (.block 0
    (.loop [3, 5, 6] RB.law17_TableOf_1) []))
  (.seq (.region [⟨some 56, none, .call F.law17_awake []⟩,
    ⟨some 2, none, .mov (.t 56)⟩]
    [2])
  .ret))))))))⟩

def RB.law17_TableAt_1 : RCode :=
  (.seq (.seq (.region [⟨some 89, none, .mov (.t 17)⟩,
    ⟨some 90, none, .fieldAddr 0 (.t 3)⟩,
    ⟨some 91, none, .load false 1 (.t 90)⟩,
    ⟨some 92, none, .bin .lss (.t 89) (.t 91)⟩]
    [2, 3, 7, 12, 13, 14, 16, 17, 92])
  (.cond (.t 92)
    .skip
    (.exit 2)))
  (.seq (.block 3
    (.seq (.drawn [⟨some 95, none, .load true 3 (.t 3)⟩,
      ⟨some 96, none, .call F.ref17_Of [.t 95]⟩,
      ⟨some 97, none, .mov (.t 7)⟩,
      ⟨some 98, none, .mov (.t 14)⟩,
      ⟨some 99, none, .idxS 3 (.t 97) (.t 98)⟩,
      ⟨some 100, none, .fieldAddr 0 (.t 99)⟩,
      ⟨some 101, none, .load false 1 (.t 100)⟩,
      ⟨some 102, none, .mov (.t 17)⟩,
      ⟨some 103, none, .call F.ref17_At [.t 96, .t 101, .t 102]⟩,
      ⟨some 104, none, .bin .eql (.t 103) (.c (.int .i64 0))⟩]
      [[], [0], [], [], [2, 3], [4], [5], [], [1, 6, 7, 1], [8]]
      [(2, []), (3, []), (4, []), (5, []), (7, []), (0, []), (6, []), (1, [100]), (8, []), (9, [])]
      [[], [0], [], [], [2, 3], [2, 3, 4], [2, 3, 4, 5], [], [0, 1, 2, 3, 4, 5, 6, 7], [0, 1, 2, 3, 4, 5, 6, 7, 8]]
      [2, 3, 7, 12, 13, 14, 16, 17, 104])
    (.cond (.t 104)
      (.region [⟨some 105, none, .mov (.t 16)⟩,
        ⟨some 106, none, .bin .add (.t 105) (.c (.int .i64 1))⟩,
        ⟨some 16, none, .mov (.t 106)⟩]
        [2, 3, 7, 12, 13, 14, 16, 17])
      .skip)) [2, 3, 7, 12, 13, 14, 16, 17])
  (.region [⟨some 93, none, .mov (.t 17)⟩,
    ⟨some 94, none, .bin .add (.t 93) (.c (.int .i64 1))⟩,
    ⟨some 17, none, .mov (.t 94)⟩]
    [2, 3, 7, 12, 13, 14, 16, 17])))
def RB.law17_TableAt_2 : RCode :=
  (.seq (.seq (.region [⟨some 58, none, .mov (.t 14)⟩,
    ⟨some 59, none, .mov (.t 7)⟩,
    ⟨some 60, none, .len (.t 59)⟩,
    ⟨some 61, none, .bin .lss (.t 58) (.t 60)⟩]
    [2, 3, 7, 12, 13, 14, 61])
  (.cond (.t 61)
    .skip
    (.exit 0)))
  (.seq (.block 1
    (.seq (.drawn [⟨some 64, none, .load true 3 (.t 3)⟩,
      ⟨some 65, none, .call F.ref17_Of [.t 64]⟩,
      ⟨some 66, none, .mov (.t 7)⟩,
      ⟨some 67, none, .mov (.t 14)⟩,
      ⟨some 68, none, .idxS 3 (.t 66) (.t 67)⟩,
      ⟨some 69, none, .fieldAddr 0 (.t 68)⟩,
      ⟨some 70, none, .load false 1 (.t 69)⟩,
      ⟨some 71, none, .mov (.t 2)⟩,
      ⟨some 72, none, .call F.ref17_At [.t 65, .t 70, .t 71]⟩,
      ⟨some 15, none, .mov (.t 72)⟩]
      [[], [0], [], [], [2, 3], [4], [5], [], [1, 6, 7, 1], [8, 8, 0, 1, 2, 3, 4, 5, 6, 7, 8]]
      [(2, []), (3, []), (4, []), (5, []), (7, []), (0, []), (6, []), (1, [69]), (8, []), (9, [])]
      [[], [0], [], [], [2, 3], [2, 3, 4], [2, 3, 4, 5], [], [0, 1, 2, 3, 4, 5, 6, 7], [0, 1, 2, 3, 4, 5, 6, 7, 8]]
      [2, 3, 7, 12, 13, 14, 15])
    (.seq (.seq (.region [⟨some 73, none, .mov (.t 15)⟩,
      ⟨some 74, none, .bin .neq (.t 73) (.c (.int .i64 0))⟩]
      [2, 3, 7, 12, 13, 14, 15, 74])
    (.cond (.t 74)
      (.seq (.seq (.region [⟨some 75, none, .mov (.t 13)⟩,
        ⟨some 76, none, .mov (.t 12)⟩,
        ⟨some 77, none, .len (.t 76)⟩,
        ⟨some 78, none, .bin .geq (.t 75) (.t 77)⟩,
        ⟨some 79, none, .mov (.t 78)⟩,
        ⟨some 80, some (79, false), .mov (.t 12)⟩,
        ⟨some 81, some (79, false), .mov (.t 13)⟩,
        ⟨some 82, some (79, false), .idxS 1 (.t 80) (.t 81)⟩,
        ⟨some 83, some (79, false), .load false 1 (.t 82)⟩,
        ⟨some 84, some (79, false), .mov (.t 15)⟩,
        ⟨some 85, some (79, false), .bin .neq (.t 83) (.t 84)⟩,
        ⟨some 86, none, .pick (.t 79) (.c (.bool true)) (.t 85)⟩]
        [2, 3, 7, 12, 13, 14, 86])
      (.cond (.t 86)
        (.seq (.region [⟨some 6, none, .mov (.c (.bool false))⟩]
          [6])
        .ret)
        .skip))
      (.region [⟨some 87, none, .mov (.t 13)⟩,
        ⟨some 88, none, .bin .add (.t 87) (.c (.int .i64 1))⟩,
        ⟨some 13, none, .mov (.t 88)⟩]
        [2, 3, 7, 12, 13, 14]))
      .skip))
    (.seq (.region [⟨some 16, none, .mov (.c (.int .i64 0))⟩]
      [2, 3, 7, 12, 13, 14, 16])
    (.seq (.seq (.region [⟨some 17, none, .mov (.c (.int .i64 0))⟩]
      [2, 3, 7, 12, 13, 14, 16, 17])
    (.block 2
      (.loop [2, 3, 7, 12, 13, 14, 16, 17] RB.law17_TableAt_1) [2, 3, 7, 12, 13, 14, 16]))
    (.seq (.region [⟨some 107, none, .mov (.t 7)⟩,
      ⟨some 108, none, .mov (.t 14)⟩,
      ⟨some 109, none, .idxS 3 (.t 107) (.t 108)⟩,
      ⟨some 110, none, .load true 3 (.t 109)⟩,
      ⟨some 111, none, .call F.table_Loose [.t 110]⟩,
      ⟨some 112, none, .mov (.t 16)⟩,
      ⟨some 113, none, .bin .neq (.t 111) (.t 112)⟩]
      [2, 3, 7, 12, 13, 14, 113])
    (.cond (.t 113)
      (.seq (.region [⟨some 6, none, .mov (.c (.bool false))⟩]
        [6])
      .ret)
      .skip)))))) [2, 3, 7, 12, 13, 14])
  (.region [⟨some 62, none, .mov (.t 14)⟩,
    ⟨some 63, none, .bin .add (.t 62) (.c (.int .i64 1))⟩,
    ⟨some 14, none, .mov (.t 63)⟩]
    [2, 3, 7, 12, 13, 14])))
def RC.law17_TableAt : RFn := ⟨3, [.slot 6],
  (.seq (.region [⟨some 3, none, .box (.t 0)⟩,
    ⟨some 6, none, .mov (.c (.bool false))⟩]
    [1, 2, 3])
  (.seq (.seq (.region [⟨some 18, none, .load true 3 (.t 3)⟩,
    ⟨some 19, none, .call F.law16_Light [.t 18]⟩,
    ⟨some 20, none, .un .not (.t 19)⟩,
    ⟨some 21, none, .mov (.t 20)⟩,
    ⟨some 22, some (21, false), .load true 3 (.t 3)⟩,
    ⟨some 23, some (21, false), .call F.ref16_Right [.t 22]⟩,
    ⟨some 24, some (21, false), .un .not (.t 23)⟩,
    ⟨some 25, none, .pick (.t 21) (.c (.bool true)) (.t 24)⟩]
    [1, 2, 3, 25])
  (.cond (.t 25)
    (.seq (.region [⟨some 26, none, .call F.law17_awake []⟩,
      ⟨some 6, none, .mov (.t 26)⟩]
      [6])
    .ret)
    .skip))
  (.seq (.region [⟨some 28, none, .load true 3 (.t 3)⟩,
    ⟨some 29, none, .call F.table_Of [.t 28]⟩,
    ⟨some 27, none, .mov (.t 29)⟩,
    ⟨some 30, none, .ext 0 (.t 27)⟩,
    ⟨some 31, none, .ext 1 (.t 27)⟩,
    ⟨some 7, none, .mov (.t 30)⟩,
    ⟨some 8, none, .mov (.t 31)⟩]
    [1, 2, 3, 7, 8])
  (.seq (.seq (.region [⟨some 32, none, .mov (.t 8)⟩,
    ⟨some 33, none, .bin .neq (.t 32) (.c (.int .i64 0))⟩]
    [1, 2, 3, 7, 33])
  (.cond (.t 33)
    (.seq (.region [⟨some 6, none, .mov (.c (.bool false))⟩]
      [6])
    .ret)
    .skip))
  (.seq (.region [⟨some 35, none, .mov (.t 7)⟩,
    ⟨some 36, none, .mov (.t 1)⟩,
    ⟨some 37, none, .mov (.t 2)⟩,
    ⟨some 38, none, .call F.table_At [.t 35, .t 36, .t 37]⟩,
    ⟨some 34, none, .mov (.t 38)⟩,
    ⟨some 39, none, .ext 0 (.t 34)⟩,
    ⟨some 40, none, .ext 1 (.t 34)⟩,
    ⟨some 9, none, .mov (.t 39)⟩,
    ⟨some 10, none, .mov (.t 40)⟩]
    [1, 2, 3, 7, 9, 10])
  (.seq (.region [⟨some 41, none, .load true 3 (.t 3)⟩,
    ⟨some 42, none, .call F.ref17_Of [.t 41]⟩,
    ⟨some 43, none, .mov (.t 1)⟩,
    ⟨some 44, none, .mov (.t 2)⟩,
    ⟨some 45, none, .call F.ref17_At [.t 42, .t 43, .t 44]⟩,
    ⟨some 11, none, .mov (.t 45)⟩]
    [2, 3, 7, 9, 10, 11])
  (.seq (.seq (.region [⟨some 46, none, .mov (.t 9)⟩,
    ⟨some 47, none, .mov (.t 11)⟩,
    ⟨some 48, none, .bin .neq (.t 46) (.t 47)⟩,
    ⟨some 49, none, .mov (.t 48)⟩,
    ⟨some 50, some (49, false), .mov (.t 10)⟩,
    ⟨some 51, some (49, false), .mov (.t 11)⟩,
    ⟨some 52, some (49, false), .bin .neq (.t 51) (.c (.int .i64 0))⟩,
    ⟨some 53, some (49, false), .eq true .bool (.t 50) (.t 52)⟩,
    ⟨some 54, none, .pick (.t 49) (.c (.bool true)) (.t 53)⟩]
    [2, 3, 7, 54])
  (.cond (.t 54)
    (.seq (.region [⟨some 6, none, .mov (.c (.bool false))⟩]
      [6])
    .ret)
    .skip))
  (.seq (.region [⟨some 55, none, .mov (.t 7)⟩,
    ⟨some 56, none, .mov (.t 2)⟩,
    ⟨some 57, none, .call F.table_Busy [.t 55, .t 56]⟩,
    ⟨some 12, none, .mov (.t 57)⟩]
    [2, 3, 7, 12])
  (.seq (.region [⟨some 13, none, .mov (.c (.int .i64 0))⟩]
    [2, 3, 7, 12, 13])
  (.seq (.seq (.region [⟨some 14, none, .mov (.c (.int .i64 0))⟩]
    [2, 3, 7, 12, 13, 14])
  (.block 0
    (.loop [2, 3, 7, 12, 13, 14] RB.law17_TableAt_2) [12, 13]))
  (.seq (.region [⟨some 114, none, .mov (.t 13)⟩,
    ⟨some 115, none, .mov (.t 12)⟩,
    ⟨some 116, none, .len (.t 115)⟩,
    ⟨some 117, none, .bin .eql (.t 114) (.t 116)⟩,
    ⟨some 118, none, .mov (.t 117)⟩,
    ⟨some 119, some (118, true), .call F.law17_awake []⟩,
    ⟨some 120, none, .pick (.t 118) (.t 119) (.c (.bool false))⟩,
    ⟨some 6, none, .mov (.t 120)⟩]
    [6])
  .ret)))))))))))⟩

def RB.law17_TableTwice_1 : RCode :=
  (.seq (.seq (.region [⟨some 110, none, .mov (.t 14)⟩,
    ⟨some 111, none, .mov (.t 3)⟩,
    ⟨some 112, none, .mov (.t 12)⟩,
    ⟨some 113, none, .idxS 3 (.t 111) (.t 112)⟩,
    ⟨some 114, none, .fieldAddr 2 (.t 113)⟩,
    ⟨some 115, none, .load false 1 (.t 114)⟩,
    ⟨some 116, none, .len (.t 115)⟩,
    ⟨some 117, none, .bin .lss (.t 110) (.t 116)⟩]
    [3, 12, 13, 14, 117])
  (.cond (.t 117)
    .skip
    (.exit 8)))
  (.seq (.block 9
    (.region [⟨some 120, none, .mov (.t 13)⟩,
      ⟨some 121, none, .mov (.t 3)⟩,
      ⟨some 122, none, .mov (.t 12)⟩,
      ⟨some 123, none, .idxS 3 (.t 121) (.t 122)⟩,
      ⟨some 124, none, .fieldAddr 2 (.t 123)⟩,
      ⟨some 125, none, .load false 1 (.t 124)⟩,
      ⟨some 126, none, .mov (.t 14)⟩,
      ⟨some 127, none, .idxS 2 (.t 125) (.t 126)⟩,
      ⟨some 128, none, .fieldAddr 1 (.t 127)⟩,
      ⟨some 129, none, .load false 1 (.t 128)⟩,
      ⟨some 130, none, .bin .add (.t 120) (.t 129)⟩,
      ⟨some 13, none, .mov (.t 130)⟩]
      [3, 12, 13, 14]) [3, 12, 13, 14])
  (.region [⟨some 118, none, .mov (.t 14)⟩,
    ⟨some 119, none, .bin .add (.t 118) (.c (.int .i64 1))⟩,
    ⟨some 14, none, .mov (.t 119)⟩]
    [3, 12, 13, 14])))
def RB.law17_TableTwice_2 : RCode :=
  (.seq (.seq (.region [⟨some 104, none, .mov (.t 12)⟩,
    ⟨some 105, none, .mov (.t 3)⟩,
    ⟨some 106, none, .len (.t 105)⟩,
    ⟨some 107, none, .bin .lss (.t 104) (.t 106)⟩]
    [3, 12, 107])
  (.cond (.t 107)
    .skip
    (.exit 6)))
  (.seq (.block 7
    (.seq (.region [⟨some 13, none, .mov (.c (.int .i64 0))⟩]
      [3, 12, 13])
    (.seq (.seq (.region [⟨some 14, none, .mov (.c (.int .i64 0))⟩]
      [3, 12, 13, 14])
    (.block 8
      (.loop [3, 12, 13, 14] RB.law17_TableTwice_1) [3, 12, 13]))
    (.seq (.region [⟨some 131, none, .mov (.t 3)⟩,
      ⟨some 132, none, .mov (.t 12)⟩,
      ⟨some 133, none, .idxS 3 (.t 131) (.t 132)⟩,
      ⟨some 134, none, .load true 3 (.t 133)⟩,
      ⟨some 135, none, .call F.table_Loose [.t 134]⟩,
      ⟨some 136, none, .mov (.t 13)⟩,
      ⟨some 137, none, .bin .lss (.t 135) (.t 136)⟩]
      [3, 12, 137])
    (.cond (.t 137)
      (.seq (.region [⟨some 2, none, .mov (.c (.bool false))⟩]
        [2])
      .ret)
      .skip)))) [3, 12])
  (.region [⟨some 108, none, .mov (.t 12)⟩,
    ⟨some 109, none, .bin .add (.t 108) (.c (.int .i64 1))⟩,
    ⟨some 12, none, .mov (.t 109)⟩]
    [3, 12])))
def RB.law17_TableTwice_3 : RCode :=
  (.seq (.seq (.region [⟨some 66, none, .mov (.t 10)⟩,
    ⟨some 67, none, .fieldAddr 2 (.t 1)⟩,
    ⟨some 68, none, .load false 1 (.t 67)⟩,
    ⟨some 69, none, .len (.t 68)⟩,
    ⟨some 70, none, .bin .lss (.t 66) (.t 69)⟩]
    [1, 3, 5, 10, 70])
  (.cond (.t 70)
    .skip
    (.exit 4)))
  (.seq (.block 5
    (.seq (.region [⟨some 73, none, .fieldAddr 2 (.t 1)⟩,
      ⟨some 74, none, .load false 1 (.t 73)⟩,
      ⟨some 75, none, .mov (.t 10)⟩,
      ⟨some 76, none, .idxS 4 (.t 74) (.t 75)⟩,
      ⟨some 77, none, .load true 4 (.t 76)⟩,
      ⟨some 11, none, .alloc [(.int .i64 0), (.int .i64 0), (.int .i64 0), (.slice none 0 0)]⟩,
      ⟨none, none, .store 4 (.t 11) (.t 77)⟩]
      [1, 3, 5, 10, 11])
    (.seq (.region [⟨some 78, none, .fieldAddr 3 (.t 11)⟩,
      ⟨some 79, none, .load false 1 (.t 78)⟩,
      ⟨some 80, none, .len (.t 79)⟩,
      ⟨some 81, none, .bin .gtr (.t 80) (.c (.int .i64 0))⟩,
      ⟨some 82, none, .mov (.t 81)⟩,
      ⟨some 83, some (82, true), .mov (.t 5)⟩,
      ⟨some 84, some (82, true), .fieldAddr 0 (.t 11)⟩,
      ⟨some 85, some (82, true), .load false 1 (.t 84)⟩,
      ⟨some 86, some (82, true), .look .int (.int .i64 0) false (.t 83) (.t 85)⟩,
      ⟨some 87, some (82, true), .fieldAddr 1 (.t 11)⟩,
      ⟨some 88, some (82, true), .load false 1 (.t 87)⟩,
      ⟨some 89, some (82, true), .bin .neq (.t 86) (.t 88)⟩,
      ⟨some 90, none, .pick (.t 82) (.t 89) (.c (.bool false))⟩,
      ⟨some 91, none, .mov (.t 90)⟩,
      ⟨some 92, some (91, false), .fieldAddr 3 (.t 11)⟩,
      ⟨some 93, some (91, false), .load false 1 (.t 92)⟩,
      ⟨some 94, some (91, false), .len (.t 93)⟩,
      ⟨some 95, some (91, false), .bin .eql (.t 94) (.c (.int .i64 0))⟩,
      ⟨some 96, some (91, false), .mov (.t 95)⟩,
      ⟨some 97, some (96, true), .mov (.t 5)⟩,
      ⟨some 98, some (96, true), .fieldAddr 0 (.t 11)⟩,
      ⟨some 99, some (96, true), .load false 1 (.t 98)⟩,
      ⟨some 100, some (96, true), .look .int (.int .i64 0) false (.t 97) (.t 99)⟩,
      ⟨some 101, some (96, true), .bin .neq (.t 100) (.c (.int .i64 0))⟩,
      ⟨some 102, some (91, false), .pick (.t 96) (.t 101) (.c (.bool false))⟩,
      ⟨some 103, none, .pick (.t 91) (.c (.bool true)) (.t 102)⟩]
      [1, 3, 5, 10, 103])
    (.cond (.t 103)
      (.seq (.region [⟨some 2, none, .mov (.c (.bool false))⟩]
        [2])
      .ret)
      .skip))) [1, 3, 5, 10])
  (.region [⟨some 71, none, .mov (.t 10)⟩,
    ⟨some 72, none, .bin .add (.t 71) (.c (.int .i64 1))⟩,
    ⟨some 10, none, .mov (.t 72)⟩]
    [1, 3, 5, 10])))
def RB.law17_TableTwice_4 : RCode :=
  (.seq (.seq (.region [⟨some 42, none, .mov (.t 9)⟩,
    ⟨some 43, none, .mov (.t 8)⟩,
    ⟨some 44, none, .len (.t 43)⟩,
    ⟨some 45, none, .bin .lss (.t 42) (.t 44)⟩]
    [1, 3, 5, 6, 7, 8, 9, 45])
  (.cond (.t 45)
    .skip
    (.exit 2)))
  (.seq (.block 3
    (.seq (.seq (.region [⟨some 48, none, .mov (.t 7)⟩,
      ⟨some 49, none, .mov (.t 8)⟩,
      ⟨some 50, none, .mov (.t 9)⟩,
      ⟨some 51, none, .idxS 1 (.t 49) (.t 50)⟩,
      ⟨some 52, none, .load false 1 (.t 51)⟩,
      ⟨some 53, none, .look .int (.bool false) false (.t 48) (.t 52)⟩]
      [1, 3, 5, 6, 7, 8, 9, 53])
    (.cond (.t 53)
      (.seq (.region [⟨some 2, none, .mov (.c (.bool false))⟩]
        [2])
      .ret)
      .skip))
    (.seq (.region [⟨some 54, none, .mov (.t 7)⟩,
      ⟨some 55, none, .mov (.t 8)⟩,
      ⟨some 56, none, .mov (.t 9)⟩,
      ⟨some 57, none, .idxS 1 (.t 55) (.t 56)⟩,
      ⟨some 58, none, .load false 1 (.t 57)⟩,
      ⟨none, none, .upd .int (.t 54) (.t 58) (.c (.bool true))⟩]
      [1, 3, 5, 6, 7, 8, 9])
    (.region [⟨some 59, none, .mov (.t 5)⟩,
      ⟨some 60, none, .mov (.t 8)⟩,
      ⟨some 61, none, .mov (.t 9)⟩,
      ⟨some 62, none, .idxS 1 (.t 60) (.t 61)⟩,
      ⟨some 63, none, .load false 1 (.t 62)⟩,
      ⟨some 64, none, .look .int (.int .i64 0) false (.t 59) (.t 63)⟩,
      ⟨some 65, none, .bin .add (.t 64) (.c (.int .i64 1))⟩,
      ⟨none, none, .upd .int (.t 59) (.t 63) (.t 65)⟩]
      [1, 3, 5, 6, 7, 8, 9]))) [1, 3, 5, 6, 7, 8, 9])
  (.region [⟨some 46, none, .mov (.t 9)⟩,
    ⟨some 47, none, .bin .add (.t 46) (.c (.int .i64 1))⟩,
    ⟨some 9, none, .mov (.t 47)⟩]
    [1, 3, 5, 6, 7, 8, 9])))
def RB.law17_TableTwice_5 : RCode :=
  (.seq (.seq (.region [⟨some 32, none, .mov (.t 6)⟩,
    ⟨some 33, none, .fieldAddr 0 (.t 1)⟩,
    ⟨some 34, none, .load false 1 (.t 33)⟩,
    ⟨some 35, none, .bin .lss (.t 32) (.t 34)⟩]
    [1, 3, 5, 6, 35])
  (.cond (.t 35)
    .skip
    (.exit 0)))
  (.seq (.block 1
    (.seq (.region [⟨some 38, none, .mkmap⟩,
      ⟨some 7, none, .mov (.t 38)⟩]
      [1, 3, 5, 6, 7])
    (.seq (.region [⟨some 39, none, .mov (.t 3)⟩,
      ⟨some 40, none, .mov (.t 6)⟩,
      ⟨some 41, none, .call F.table_Busy [.t 39, .t 40]⟩,
      ⟨some 8, none, .mov (.t 41)⟩]
      [1, 3, 5, 6, 7, 8])
    (.seq (.region [⟨some 9, none, .mov (.c (.int .i64 0))⟩]
      [1, 3, 5, 6, 7, 8, 9])
    (.block 2
      (.loop [1, 3, 5, 6, 7, 8, 9] RB.law17_TableTwice_4) [1, 3, 5, 6])))) [1, 3, 5, 6])
  (.region [⟨some 36, none, .mov (.t 6)⟩,
    ⟨some 37, none, .bin .add (.t 36) (.c (.int .i64 1))⟩,
    ⟨some 6, none, .mov (.t 37)⟩]
    [1, 3, 5, 6])))
def RC.law17_TableTwice : RFn := ⟨1, [.slot 2],
  (.seq (.region [⟨some 1, none, .box (.t 0)⟩,
    ⟨some 2, none, .mov (.c (.bool false))⟩]
    [1])
  (.seq (.seq (.region [⟨some 15, none, .load true 3 (.t 1)⟩,
    ⟨some 16, none, .call F.law16_Light [.t 15]⟩,
    ⟨some 17, none, .un .not (.t 16)⟩,
    ⟨some 18, none, .mov (.t 17)⟩,
    ⟨some 19, some (18, false), .load true 3 (.t 1)⟩,
    ⟨some 20, some (18, false), .call F.ref16_Right [.t 19]⟩,
    ⟨some 21, some (18, false), .un .not (.t 20)⟩,
    ⟨some 22, none, .pick (.t 18) (.c (.bool true)) (.t 21)⟩]
    [1, 22])
  (.cond (.t 22)
    (.seq (.region [⟨some 23, none, .call F.law17_awake []⟩,
      ⟨some 2, none, .mov (.t 23)⟩]
      [2])
    .ret)
    .skip))
  (.seq (.region [⟨some 25, none, .load true 3 (.t 1)⟩,
    ⟨some 26, none, .call F.table_Of [.t 25]⟩,
    ⟨some 24, none, .mov (.t 26)⟩,
    ⟨some 27, none, .ext 0 (.t 24)⟩,
    ⟨some 28, none, .ext 1 (.t 24)⟩,
    ⟨some 3, none, .mov (.t 27)⟩,
    ⟨some 4, none, .mov (.t 28)⟩]
    [1, 3, 4])
  (.seq (.seq (.region [⟨some 29, none, .mov (.t 4)⟩,
    ⟨some 30, none, .bin .neq (.t 29) (.c (.int .i64 0))⟩]
    [1, 3, 30])
  (.cond (.t 30)
    (.seq (.region [⟨some 2, none, .mov (.c (.bool false))⟩]
      [2])
    .ret)
    .skip))
  (.seq (.region [⟨some 31, none, .mkmap⟩,
    ⟨some 5, none, .mov (.t 31)⟩]
    [1, 3, 5])
  (.seq (.seq (.region [⟨some 6, none, .mov (.c (.int .i64 0))⟩]
    [1, 3, 5, 6])
  (.block 0
    (.loop [1, 3, 5, 6] RB.law17_TableTwice_5) [1, 3, 5]))
  (.seq (.seq (.region [⟨some 10, none, .mov (.c (.int .i64 0))⟩]
    [1, 3, 5, 10])
  (.block 4
    (.loop [1, 3, 5, 10] RB.law17_TableTwice_3) [3]))
  (.seq (.seq (.region [⟨some 12, none, .mov (.c (.int .i64 0))⟩]
    [3, 12])
  (.block 6
    (.loop [3, 12] RB.law17_TableTwice_2) []))
  (.seq (.region [⟨some 138, none, .call F.law17_awake []⟩,
    ⟨some 2, none, .mov (.t 138)⟩]
    [2])
  .ret)))))))))⟩

def RB.law16_Light_1 : RCode :=
  (.seq (.seq (.region [⟨some 4, none, .mov (.t 3)⟩,
    ⟨some 5, none, .fieldAddr 2 (.t 1)⟩,
    ⟨some 6, none, .load false 1 (.t 5)⟩,
    ⟨some 7, none, .len (.t 6)⟩,
    ⟨some 8, none, .bin .lss (.t 4) (.t 7)⟩,
    ⟨some 9, none, .mov (.t 8)⟩,
    ⟨some 10, some (9, true), .mov (.t 3)⟩,
    ⟨some 11, some (9, true), .bin .lss (.t 10) (.c (.int .i64 300))⟩,
    ⟨some 12, none, .pick (.t 9) (.t 11) (.c (.bool false))⟩]
    [1, 3, 12])
  (.cond (.t 12)
    .skip
    (.exit 0)))
  (.seq (.block 1
    (.seq (.region [⟨some 15, none, .fieldAddr 2 (.t 1)⟩,
      ⟨some 16, none, .load false 1 (.t 15)⟩,
      ⟨some 17, none, .mov (.t 3)⟩,
      ⟨some 18, none, .idxS 4 (.t 16) (.t 17)⟩,
      ⟨some 19, none, .fieldAddr 3 (.t 18)⟩,
      ⟨some 20, none, .load false 1 (.t 19)⟩,
      ⟨some 21, none, .len (.t 20)⟩,
      ⟨some 22, none, .bin .gtr (.t 21) (.c (.int .i64 20))⟩]
      [1, 3, 22])
    (.cond (.t 22)
      (.seq (.region [⟨some 2, none, .mov (.c (.bool false))⟩]
        [2])
      .ret)
      .skip)) [1, 3])
  (.region [⟨some 13, none, .mov (.t 3)⟩,
    ⟨some 14, none, .bin .add (.t 13) (.c (.int .i64 1))⟩,
    ⟨some 3, none, .mov (.t 14)⟩]
    [1, 3])))
def RC.law16_Light : RFn := ⟨1, [.slot 2],
  (.seq (.region [⟨some 1, none, .box (.t 0)⟩,
    ⟨some 2, none, .mov (.c (.bool false))⟩]
    [1])
  (.seq (.seq (.region [⟨some 3, none, .mov (.c (.int .i64 0))⟩]
    [1, 3])
  (.block 0
    (.loop [1, 3] RB.law16_Light_1) [1]))
  (.seq (.region [⟨some 23, none, .fieldAddr 2 (.t 1)⟩,
    ⟨some 24, none, .load false 1 (.t 23)⟩,
    ⟨some 25, none, .len (.t 24)⟩,
    ⟨some 26, none, .bin .leq (.t 25) (.c (.int .i64 60))⟩,
    ⟨some 2, none, .mov (.t 26)⟩]
    [2])
  .ret)))⟩

def RC.law17_awake : RFn := ⟨0, [.slot 0],
  (.seq (.region [⟨some 0, none, .mov (.c (.bool false))⟩]
    [])
  (.seq (.region [⟨some 6, none, .build [(.int .i64 0), (.int .i64 0), (.int .i64 0), (.slice none 0 0)] [(0, 1, .c (.int .i64 1)), (1, 1, .c (.int .i64 3))]⟩,
    ⟨some 7, none, .build [(.int .i64 0), (u64 0#64)] [(0, 1, .c (.int .i64 0)), (1, 1, .c (u64 1#64))]⟩,
    ⟨some 8, none, .build [(.int .i64 0), (u64 0#64)] [(0, 1, .c (.int .i64 1)), (1, 1, .c (u64 6#64))]⟩,
    ⟨some 9, none, .bslice [(.int .i64 0), (u64 0#64), (.int .i64 0), (u64 0#64)] [(0, 2, .t 7), (2, 2, .t 8)] 2 2⟩,
    ⟨some 10, none, .build [(.int .i64 0), (.int .i64 0), (.int .i64 0), (.slice none 0 0)] [(0, 1, .c (.int .i64 2)), (1, 1, .c (.int .i64 3)), (3, 1, .t 9)]⟩,
    ⟨some 11, none, .bslice [(.int .i64 0), (.int .i64 0), (.int .i64 0), (.slice none 0 0), (.int .i64 0), (.int .i64 0), (.int .i64 0), (.slice none 0 0)] [(0, 4, .t 6), (4, 4, .t 10)] 2 4⟩,
    ⟨some 12, none, .build [(.int .i64 0), (u32 0#32), (.slice none 0 0)] [(0, 1, .c (.int .i64 4)), (1, 1, .c (u32 3#32)), (2, 1, .t 11)]⟩,
    ⟨some 1, none, .alloc [(.int .i64 0), (u32 0#32), (.slice none 0 0)]⟩,
    ⟨none, none, .store 3 (.t 1) (.t 12)⟩]
    [1])
  (.seq (.region [⟨some 14, none, .load true 3 (.t 1)⟩,
    ⟨some 15, none, .call F.table_Of [.t 14]⟩,
    ⟨some 13, none, .mov (.t 15)⟩,
    ⟨some 16, none, .ext 0 (.t 13)⟩,
    ⟨some 17, none, .ext 1 (.t 13)⟩,
    ⟨some 2, none, .mov (.t 16)⟩,
    ⟨some 3, none, .mov (.t 17)⟩]
    [2, 3])
  (.seq (.seq (.region [⟨some 18, none, .mov (.t 3)⟩,
    ⟨some 19, none, .bin .neq (.t 18) (.c (.int .i64 0))⟩,
    ⟨some 20, none, .mov (.t 19)⟩,
    ⟨some 21, some (20, false), .mov (.t 2)⟩,
    ⟨some 22, some (20, false), .len (.t 21)⟩,
    ⟨some 23, some (20, false), .bin .neq (.t 22) (.c (.int .i64 2))⟩,
    ⟨some 24, none, .pick (.t 20) (.c (.bool true)) (.t 23)⟩]
    [2, 24])
  (.cond (.t 24)
    (.seq (.region [⟨some 0, none, .mov (.c (.bool false))⟩]
      [0])
    .ret)
    .skip))
  (.seq (.region [⟨some 26, none, .mov (.t 2)⟩,
    ⟨some 27, none, .call F.table_At [.t 26, .c (.int .i64 1), .c (.int .i64 2)]⟩,
    ⟨some 25, none, .mov (.t 27)⟩,
    ⟨some 28, none, .ext 0 (.t 25)⟩,
    ⟨some 29, none, .ext 1 (.t 25)⟩,
    ⟨some 4, none, .mov (.t 28)⟩,
    ⟨some 5, none, .mov (.t 29)⟩]
    [2, 4, 5])
  (.seq (.region [⟨some 30, none, .mov (.t 2)⟩,
    ⟨some 31, none, .idxS 3 (.t 30) (.c (.int .i64 0))⟩,
    ⟨some 32, none, .load true 3 (.t 31)⟩,
    ⟨some 33, none, .bslice [(.int .i64 0), (.int .i64 0), (.int .i64 0), (.int .i64 0)] [(0, 1, .c (.int .i64 2)), (1, 1, .c (.int .i64 0)), (2, 1, .c (.int .i64 0)), (3, 1, .c (.int .i64 0))] 4 1⟩,
    ⟨some 34, none, .build [(.int .i64 0), (.int .i64 0)] [(0, 1, .c (.int .i64 1)), (1, 1, .c (.int .i64 3))]⟩,
    ⟨some 35, none, .bslice [(.int .i64 0), (.int .i64 0)] [(0, 2, .t 34)] 1 2⟩,
    ⟨some 36, none, .build [(.int .i64 0), (.slice none 0 0), (.slice none 0 0)] [(0, 1, .c (.int .i64 0)), (1, 1, .t 33), (2, 1, .t 35)]⟩,
    ⟨some 37, none, .call F.law17_theirs [.t 32, .t 36]⟩,
    ⟨some 38, none, .mov (.t 37)⟩,
    ⟨some 39, some (38, true), .mov (.t 4)⟩,
    ⟨some 40, some (38, true), .bin .eql (.t 39) (.c (.int .i64 2))⟩,
    ⟨some 41, none, .pick (.t 38) (.t 40) (.c (.bool false))⟩,
    ⟨some 42, none, .mov (.t 41)⟩,
    ⟨some 43, some (42, true), .mov (.t 5)⟩,
    ⟨some 44, none, .pick (.t 42) (.t 43) (.c (.bool false))⟩,
    ⟨some 45, none, .mov (.t 44)⟩,
    ⟨some 46, some (45, true), .mov (.t 2)⟩,
    ⟨some 47, some (45, true), .idxS 3 (.t 46) (.c (.int .i64 1))⟩,
    ⟨some 48, some (45, true), .load true 3 (.t 47)⟩,
    ⟨some 49, some (45, true), .call F.table_Loose [.t 48]⟩,
    ⟨some 50, some (45, true), .bin .eql (.t 49) (.c (.int .i64 2))⟩,
    ⟨some 51, none, .pick (.t 45) (.t 50) (.c (.bool false))⟩,
    ⟨some 0, none, .mov (.t 51)⟩]
    [0])
  .ret))))))⟩

def RB.table_Of_1 : RCode :=
  (.seq (.region [⟨some 58, none, .bin .lss (.t 57) (.t 56)⟩]
    [1, 5, 7, 8, 10, 21, 22, 23, 36, 37, 38, 43, 44, 45, 55, 56, 57, 58])
  (.seq (.cond (.t 58)
    .skip
    (.exit 6))
  (.seq (.block 7
    (.seq (.region [⟨some 59, none, .idxS 1 (.t 55) (.t 57)⟩,
      ⟨some 60, none, .load false 1 (.t 59)⟩,
      ⟨some 14, none, .mov (.t 60)⟩]
      [1, 5, 7, 8, 10, 14, 21, 22, 23, 36, 37, 38, 43, 44, 45, 55, 56, 57])
    (.region [⟨some 61, none, .fieldAddr 1 (.t 8)⟩,
      ⟨some 62, none, .load false 1 (.t 61)⟩,
      ⟨some 63, none, .mov (.t 14)⟩,
      ⟨some 64, none, .fieldAddr 0 (.t 10)⟩,
      ⟨some 65, none, .load false 1 (.t 64)⟩,
      ⟨some 66, none, .idxS 1 (.t 62) (.t 63)⟩,
      ⟨none, none, .store 1 (.t 66) (.t 65)⟩]
      [1, 5, 7, 8, 10, 21, 22, 23, 36, 37, 38, 43, 44, 45, 55, 56, 57])) [1, 5, 7, 8, 10, 21, 22, 23, 36, 37, 38, 43, 44, 45, 55, 56, 57])
  (.region [⟨some 67, none, .bin .add (.t 57) (.c (.int .i64 1))⟩,
    ⟨some 57, none, .mov (.t 67)⟩]
    [1, 5, 7, 8, 10, 21, 22, 23, 36, 37, 38, 43, 44, 45, 55, 56, 57]))))
def RB.table_Of_2 : RCode :=
  (.seq (.region [⟨some 46, none, .bin .lss (.t 45) (.t 44)⟩]
    [1, 5, 7, 8, 10, 21, 22, 23, 36, 37, 38, 43, 44, 45, 46])
  (.seq (.cond (.t 46)
    .skip
    (.exit 4))
  (.seq (.block 5
    (.seq (.region [⟨some 47, none, .idxS 2 (.t 43) (.t 45)⟩,
      ⟨some 48, none, .load true 2 (.t 47)⟩,
      ⟨some 12, none, .alloc [(.int .i64 0), (u64 0#64)]⟩,
      ⟨none, none, .store 2 (.t 12) (.t 48)⟩]
      [1, 5, 7, 8, 10, 12, 21, 22, 23, 36, 37, 38, 43, 44, 45])
    (.seq (.seq (.region [⟨some 49, none, .fieldAddr 0 (.t 12)⟩,
      ⟨some 50, none, .load false 1 (.t 49)⟩,
      ⟨some 51, none, .mov (.t 7)⟩,
      ⟨some 52, none, .bin .neq (.t 50) (.t 51)⟩]
      [1, 5, 7, 8, 10, 12, 21, 22, 23, 36, 37, 38, 43, 44, 45, 52])
    (.cond (.t 52)
      (.exit 5)
      .skip))
    (.seq (.region [⟨some 53, none, .fieldAddr 1 (.t 12)⟩,
      ⟨some 54, none, .load false 1 (.t 53)⟩,
      ⟨some 55, none, .call F.mask_Ticks [.t 54]⟩,
      ⟨some 56, none, .len (.t 55)⟩,
      ⟨some 57, none, .mov (.c (.int .i64 0))⟩]
      [1, 5, 7, 8, 10, 21, 22, 23, 36, 37, 38, 43, 44, 45, 55, 56, 57])
    (.block 6
      (.loop [1, 5, 7, 8, 10, 21, 22, 23, 36, 37, 38, 43, 44, 45, 55, 56, 57] RB.table_Of_1) [1, 5, 7, 8, 10, 21, 22, 23, 36, 37, 38, 43, 44, 45])))) [1, 5, 7, 8, 10, 21, 22, 23, 36, 37, 38, 43, 44, 45])
  (.region [⟨some 68, none, .bin .add (.t 45) (.c (.int .i64 1))⟩,
    ⟨some 45, none, .mov (.t 68)⟩]
    [1, 5, 7, 8, 10, 21, 22, 23, 36, 37, 38, 43, 44, 45]))))
def RB.table_Of_3 : RCode :=
  (.seq (.region [⟨some 39, none, .bin .lss (.t 38) (.t 37)⟩]
    [1, 5, 7, 8, 21, 22, 23, 36, 37, 38, 39])
  (.seq (.cond (.t 39)
    .skip
    (.exit 2))
  (.seq (.block 3
    (.seq (.region [⟨some 40, none, .idxS 4 (.t 36) (.t 38)⟩,
      ⟨some 41, none, .load true 4 (.t 40)⟩,
      ⟨some 10, none, .alloc [(.int .i64 0), (.int .i64 0), (.int .i64 0), (.slice none 0 0)]⟩,
      ⟨none, none, .store 4 (.t 10) (.t 41)⟩]
      [1, 5, 7, 8, 10, 21, 22, 23, 36, 37, 38])
    (.seq (.region [⟨some 42, none, .fieldAddr 3 (.t 10)⟩,
      ⟨some 43, none, .load false 1 (.t 42)⟩,
      ⟨some 44, none, .len (.t 43)⟩,
      ⟨some 45, none, .mov (.c (.int .i64 0))⟩]
      [1, 5, 7, 8, 10, 21, 22, 23, 36, 37, 38, 43, 44, 45])
    (.block 4
      (.loop [1, 5, 7, 8, 10, 21, 22, 23, 36, 37, 38, 43, 44, 45] RB.table_Of_2) [1, 5, 7, 8, 21, 22, 23, 36, 37, 38]))) [1, 5, 7, 8, 21, 22, 23, 36, 37, 38])
  (.region [⟨some 69, none, .bin .add (.t 38) (.c (.int .i64 1))⟩,
    ⟨some 38, none, .mov (.t 69)⟩]
    [1, 5, 7, 8, 21, 22, 23, 36, 37, 38]))))
def RB.table_Of_4 : RCode :=
  (.seq (.region [⟨some 24, none, .bin .lss (.t 23) (.t 22)⟩]
    [1, 5, 21, 22, 23, 24])
  (.seq (.cond (.t 24)
    .skip
    (.exit 0))
  (.seq (.block 1
    (.seq (.region [⟨some 25, none, .idxS 1 (.t 21) (.t 23)⟩,
      ⟨some 26, none, .load false 1 (.t 25)⟩,
      ⟨some 7, none, .mov (.t 26)⟩]
      [1, 5, 7, 21, 22, 23])
    (.seq (.drawn [⟨some 27, none, .mov (.t 7)⟩,
      ⟨some 28, none, .fieldAddr 0 (.t 1)⟩,
      ⟨some 29, none, .load false 1 (.t 28)⟩,
      ⟨some 30, none, .mkslice 1 8 [(.int .i64 0)] (.t 29) (.t 29)⟩,
      ⟨some 31, none, .load true 3 (.t 1)⟩,
      ⟨some 32, none, .mov (.t 7)⟩,
      ⟨some 33, none, .call F.plan_Wholes [.t 31, .t 32]⟩,
      ⟨some 34, none, .build [(.int .i64 0), (.slice none 0 0), (.slice none 0 0)] [(0, 1, .t 27), (1, 1, .t 30), (2, 1, .t 33)]⟩,
      ⟨some 8, none, .alloc [(.int .i64 0), (.slice none 0 0), (.slice none 0 0)]⟩,
      ⟨none, none, .store 3 (.t 8) (.t 34)⟩]
      [[], [], [1], [2, 2], [], [], [4, 5], [0, 3, 6], [], [8, 7, 6, 0, 1, 2, 3, 4, 5, 6, 7, 8]]
      [(0, []), (1, []), (5, []), (2, []), (4, []), (6, [28]), (3, []), (7, []), (8, []), (9, [])]
      [[], [], [1], [1, 2], [], [], [4, 5], [0, 1, 2, 3, 4, 5, 6], [], [0, 1, 2, 3, 4, 5, 6, 7, 8]]
      [1, 5, 7, 8, 21, 22, 23])
    (.seq (.seq (.region [⟨some 35, none, .fieldAddr 2 (.t 1)⟩,
      ⟨some 36, none, .load false 1 (.t 35)⟩,
      ⟨some 37, none, .len (.t 36)⟩,
      ⟨some 38, none, .mov (.c (.int .i64 0))⟩]
      [1, 5, 7, 8, 21, 22, 23, 36, 37, 38])
    (.block 2
      (.loop [1, 5, 7, 8, 21, 22, 23, 36, 37, 38] RB.table_Of_3) [1, 5, 8, 21, 22, 23]))
    (.region [⟨some 70, none, .mov (.t 5)⟩,
      ⟨some 71, none, .load true 3 (.t 8)⟩,
      ⟨some 72, none, .bslice [(.int .i64 0), (.slice none 0 0), (.slice none 0 0)] [(0, 3, .t 71)] 1 3⟩,
      ⟨some 73, none, .app 3 56 (.t 70) (.t 72)⟩,
      ⟨some 5, none, .mov (.t 73)⟩]
      [1, 5, 21, 22, 23])))) [1, 5, 21, 22, 23])
  (.region [⟨some 74, none, .bin .add (.t 23) (.c (.int .i64 1))⟩,
    ⟨some 23, none, .mov (.t 74)⟩]
    [1, 5, 21, 22, 23]))))
def RC.table_Of : RFn := ⟨1, [.slot 2, .slot 3],
  (.seq (.region [⟨some 1, none, .box (.t 0)⟩,
    ⟨some 2, none, .mov (.c (.slice none 0 0))⟩,
    ⟨some 3, none, .mov (.c (.int .i64 0))⟩]
    [1])
  (.seq (.seq (.region [⟨some 15, none, .load true 3 (.t 1)⟩,
    ⟨some 16, none, .call F.plan_Check [.t 15]⟩,
    ⟨some 4, none, .mov (.t 16)⟩]
    [1, 4])
  (.seq (.region [⟨some 17, none, .mov (.t 4)⟩,
    ⟨some 18, none, .bin .neq (.t 17) (.c (.int .i64 0))⟩]
    [1, 4, 18])
  (.cond (.t 18)
    (.seq (.region [⟨some 19, none, .mov (.t 4)⟩,
      ⟨some 2, none, .mov (.c (.slice none 0 0))⟩,
      ⟨some 3, none, .mov (.t 19)⟩]
      [2, 3])
    .ret)
    .skip)))
  (.seq (.region [⟨some 5, none, .mov (.c (.slice none 0 0))⟩]
    [1, 5])
  (.seq (.seq (.region [⟨some 20, none, .load true 3 (.t 1)⟩,
    ⟨some 21, none, .call F.plan_Cores [.t 20]⟩,
    ⟨some 22, none, .len (.t 21)⟩,
    ⟨some 23, none, .mov (.c (.int .i64 0))⟩]
    [1, 5, 21, 22, 23])
  (.block 0
    (.loop [1, 5, 21, 22, 23] RB.table_Of_4) [5]))
  (.seq (.region [⟨some 75, none, .mov (.t 5)⟩,
    ⟨some 2, none, .mov (.t 75)⟩,
    ⟨some 3, none, .mov (.c (.int .i64 0))⟩]
    [2, 3])
  .ret)))))⟩

def RB.ref16_Right_1 : RCode :=
  (.seq (.seq (.region [⟨some 72, none, .mov (.t 5)⟩,
    ⟨some 73, none, .mov (.t 4)⟩,
    ⟨some 74, none, .len (.t 73)⟩,
    ⟨some 75, none, .bin .lss (.t 72) (.t 74)⟩]
    [1, 4, 5, 75])
  (.cond (.t 75)
    .skip
    (.exit 2)))
  (.seq (.block 3
    (.seq (.drawn [⟨some 78, none, .load true 3 (.t 1)⟩,
      ⟨some 79, none, .mov (.t 4)⟩,
      ⟨some 80, none, .mov (.t 5)⟩,
      ⟨some 81, none, .idxS 1 (.t 79) (.t 80)⟩,
      ⟨some 82, none, .load false 1 (.t 81)⟩,
      ⟨some 83, none, .call F.ref16_Load [.t 78, .t 82]⟩,
      ⟨some 84, none, .fieldAddr 0 (.t 1)⟩,
      ⟨some 85, none, .load false 1 (.t 84)⟩,
      ⟨some 86, none, .bin .gtr (.t 83) (.t 85)⟩]
      [[], [], [], [1, 2], [3], [0, 4], [], [6], [5, 7]]
      [(1, []), (2, []), (3, []), (6, []), (0, []), (4, []), (7, []), (5, [84]), (8, [])]
      [[], [], [], [1, 2], [1, 2, 3], [0, 1, 2, 3, 4], [], [6], [0, 1, 2, 3, 4, 5, 6, 7]]
      [1, 4, 5, 86])
    (.cond (.t 86)
      (.seq (.region [⟨some 2, none, .mov (.c (.bool false))⟩]
        [2])
      .ret)
      .skip)) [1, 4, 5])
  (.region [⟨some 76, none, .mov (.t 5)⟩,
    ⟨some 77, none, .bin .add (.t 76) (.c (.int .i64 1))⟩,
    ⟨some 5, none, .mov (.t 77)⟩]
    [1, 4, 5])))
def RB.ref16_Right_2 : RCode :=
  (.seq (.seq (.region [⟨some 24, none, .mov (.t 3)⟩,
    ⟨some 25, none, .fieldAddr 2 (.t 1)⟩,
    ⟨some 26, none, .load false 1 (.t 25)⟩,
    ⟨some 27, none, .len (.t 26)⟩,
    ⟨some 28, none, .bin .lss (.t 24) (.t 27)⟩]
    [1, 3, 28])
  (.cond (.t 28)
    .skip
    (.exit 0)))
  (.seq (.block 1
    (.seq (.drawn [⟨some 31, none, .load true 3 (.t 1)⟩,
      ⟨some 32, none, .fieldAddr 2 (.t 1)⟩,
      ⟨some 33, none, .load false 1 (.t 32)⟩,
      ⟨some 34, none, .mov (.t 3)⟩,
      ⟨some 35, none, .idxS 4 (.t 33) (.t 34)⟩,
      ⟨some 36, none, .load true 4 (.t 35)⟩,
      ⟨some 37, none, .call F.ref16_place [.t 31, .t 36]⟩,
      ⟨some 38, none, .un .not (.t 37)⟩,
      ⟨some 39, none, .mov (.t 38)⟩,
      ⟨some 40, some (39, false), .mov (.t 3)⟩,
      ⟨some 41, some (39, false), .bin .gtr (.t 40) (.c (.int .i64 0))⟩,
      ⟨some 42, some (39, false), .mov (.t 41)⟩,
      ⟨some 43, some (42, true), .fieldAddr 2 (.t 1)⟩,
      ⟨some 44, some (42, true), .load false 1 (.t 43)⟩,
      ⟨some 45, some (42, true), .mov (.t 3)⟩,
      ⟨some 46, some (42, true), .bin .sub (.t 45) (.c (.int .i64 1))⟩,
      ⟨some 47, some (42, true), .idxS 4 (.t 44) (.t 46)⟩,
      ⟨some 48, some (42, true), .fieldAddr 0 (.t 47)⟩,
      ⟨some 49, some (42, true), .load false 1 (.t 48)⟩,
      ⟨some 50, some (42, true), .fieldAddr 2 (.t 1)⟩,
      ⟨some 51, some (42, true), .load false 1 (.t 50)⟩,
      ⟨some 52, some (42, true), .mov (.t 3)⟩,
      ⟨some 53, some (42, true), .idxS 4 (.t 51) (.t 52)⟩,
      ⟨some 54, some (42, true), .fieldAddr 0 (.t 53)⟩,
      ⟨some 55, some (42, true), .load false 1 (.t 54)⟩,
      ⟨some 56, some (42, true), .bin .geq (.t 49) (.t 55)⟩,
      ⟨some 57, some (39, false), .pick (.t 42) (.t 56) (.c (.bool false))⟩,
      ⟨some 58, none, .pick (.t 39) (.c (.bool true)) (.t 57)⟩]
      [[], [], [1], [], [2, 3], [4], [0, 5], [6], [7, 6], [8], [9, 8], [10, 8, 8], [11], [12, 11], [11], [14, 11], [13, 15, 11], [16, 11], [17, 11], [11], [19, 11], [11], [20, 21, 11], [22, 11], [23, 11], [18, 24, 11], [11, 25, 8], [8, 26]]
      [(1, []), (3, []), (0, []), (2, []), (4, []), (5, []), (6, []), (7, []), (8, []), (9, []), (10, []), (11, []), (12, []), (14, []), (15, []), (19, []), (21, []), (13, []), (16, []), (17, []), (18, []), (20, []), (22, []), (23, []), (24, []), (25, []), (26, []), (27, [])]
      [[], [], [1], [], [1, 2, 3], [1, 2, 3, 4], [0, 1, 2, 3, 4, 5], [0, 1, 2, 3, 4, 5, 6], [0, 1, 2, 3, 4, 5, 6, 7], [0, 1, 2, 3, 4, 5, 6, 7, 8], [0, 1, 2, 3, 4, 5, 6, 7, 8, 9], [0, 1, 2, 3, 4, 5, 6, 7, 8, 9, 10], [0, 1, 2, 3, 4, 5, 6, 7, 8, 9, 10, 11], [0, 1, 2, 3, 4, 5, 6, 7, 8, 9, 10, 11, 12], [0, 1, 2, 3, 4, 5, 6, 7, 8, 9, 10, 11], [0, 1, 2, 3, 4, 5, 6, 7, 8, 9, 10, 11, 14], [0, 1, 2, 3, 4, 5, 6, 7, 8, 9, 10, 11, 12, 13, 14, 15], [0, 1, 2, 3, 4, 5, 6, 7, 8, 9, 10, 11, 12, 13, 14, 15, 16], [0, 1, 2, 3, 4, 5, 6, 7, 8, 9, 10, 11, 12, 13, 14, 15, 16, 17], [0, 1, 2, 3, 4, 5, 6, 7, 8, 9, 10, 11], [0, 1, 2, 3, 4, 5, 6, 7, 8, 9, 10, 11, 19], [0, 1, 2, 3, 4, 5, 6, 7, 8, 9, 10, 11], [0, 1, 2, 3, 4, 5, 6, 7, 8, 9, 10, 11, 19, 20, 21], [0, 1, 2, 3, 4, 5, 6, 7, 8, 9, 10, 11, 19, 20, 21, 22], [0, 1, 2, 3, 4, 5, 6, 7, 8, 9, 10, 11, 19, 20, 21, 22, 23], [0, 1, 2, 3, 4, 5, 6, 7, 8, 9, 10, 11, 12, 13, 14, 15, 16, 17, 18, 19, 20, 21, 22, 23, 24], [0, 1, 2, 3, 4, 5, 6, 7, 8, 9, 10, 11, 12, 13, 14, 15, 16, 17, 18, 19, 20, 21, 22, 23, 24, 25], [0, 1, 2, 3, 4, 5, 6, 7, 8, 9, 10, 11, 12, 13, 14, 15, 16, 17, 18, 19, 20, 21, 22, 23, 24, 25, 26]]
      [1, 3, 58])
    (.cond (.t 58)
      (.seq (.region [⟨some 2, none, .mov (.c (.bool false))⟩]
        [2])
      .ret)
      .skip)) [1, 3])
  (.region [⟨some 29, none, .mov (.t 3)⟩,
    ⟨some 30, none, .bin .add (.t 29) (.c (.int .i64 1))⟩,
    ⟨some 3, none, .mov (.t 30)⟩]
    [1, 3])))
def RC.ref16_Right : RFn := ⟨1, [.slot 2],
  (.seq (.region [⟨some 1, none, .box (.t 0)⟩,
    ⟨some 2, none, .mov (.c (.bool false))⟩]
    [1])
  (.seq (.seq (.region [⟨some 6, none, .fieldAddr 0 (.t 1)⟩,
    ⟨some 7, none, .load false 1 (.t 6)⟩,
    ⟨some 8, none, .bin .lss (.t 7) (.c (.int .i64 2))⟩,
    ⟨some 9, none, .mov (.t 8)⟩,
    ⟨some 10, some (9, false), .fieldAddr 0 (.t 1)⟩,
    ⟨some 11, some (9, false), .load false 1 (.t 10)⟩,
    ⟨some 12, some (9, false), .bin .gtr (.t 11) (.c (.int .i64 64))⟩,
    ⟨some 13, none, .pick (.t 9) (.c (.bool true)) (.t 12)⟩,
    ⟨some 14, none, .mov (.t 13)⟩,
    ⟨some 15, some (14, false), .fieldAddr 1 (.t 1)⟩,
    ⟨some 16, some (14, false), .load false 1 (.t 15)⟩,
    ⟨some 17, some (14, false), .bin .eql (.t 16) (.c (u32 0#32))⟩,
    ⟨some 18, none, .pick (.t 14) (.c (.bool true)) (.t 17)⟩,
    ⟨some 19, none, .mov (.t 18)⟩,
    ⟨some 20, some (19, false), .fieldAddr 1 (.t 1)⟩,
    ⟨some 21, some (19, false), .load false 1 (.t 20)⟩,
    ⟨some 22, some (19, false), .bin .gtr (.t 21) (.c (u32 65535#32))⟩,
    ⟨some 23, none, .pick (.t 19) (.c (.bool true)) (.t 22)⟩]
    [1, 23])
  (.cond (.t 23)
    (.seq (.region [⟨some 2, none, .mov (.c (.bool false))⟩]
      [2])
    .ret)
    .skip))
  (.seq (.seq (.region [⟨some 3, none, .mov (.c (.int .i64 0))⟩]
    [1, 3])
  (.block 0
    (.loop [1, 3] RB.ref16_Right_2) [1]))
  (.seq (.seq (.drawn [⟨some 59, none, .load true 3 (.t 1)⟩,
    ⟨some 60, none, .call F.ref16_apart [.t 59]⟩,
    ⟨some 61, none, .un .not (.t 60)⟩,
    ⟨some 62, none, .mov (.t 61)⟩,
    ⟨some 63, some (62, false), .load true 3 (.t 1)⟩,
    ⟨some 64, some (62, false), .call F.ref16_Splits [.t 63]⟩,
    ⟨some 65, some (62, false), .load true 3 (.t 1)⟩,
    ⟨some 66, some (62, false), .call F.ref16_Cores [.t 65]⟩,
    ⟨some 67, some (62, false), .len (.t 66)⟩,
    ⟨some 68, some (62, false), .bin .geq (.t 64) (.t 67)⟩,
    ⟨some 69, none, .pick (.t 62) (.c (.bool true)) (.t 68)⟩]
    [[], [0], [1], [2, 1], [3], [4, 3, 3], [3], [6, 5, 3], [7, 3], [5, 8, 3], [3, 9]]
    [(0, []), (1, []), (2, []), (3, []), (4, []), (6, []), (5, [1]), (7, []), (8, []), (9, []), (10, [])]
    [[], [0], [0, 1], [0, 1, 2], [0, 1, 2, 3], [0, 1, 2, 3, 4], [0, 1, 2, 3], [0, 1, 2, 3, 4, 5, 6], [0, 1, 2, 3, 4, 5, 6, 7], [0, 1, 2, 3, 4, 5, 6, 7, 8], [0, 1, 2, 3, 4, 5, 6, 7, 8, 9]]
    [1, 69])
  (.cond (.t 69)
    (.seq (.region [⟨some 2, none, .mov (.c (.bool false))⟩]
      [2])
    .ret)
    .skip))
  (.seq (.region [⟨some 70, none, .load true 3 (.t 1)⟩,
    ⟨some 71, none, .call F.ref16_Cores [.t 70]⟩,
    ⟨some 4, none, .mov (.t 71)⟩]
    [1, 4])
  (.seq (.seq (.region [⟨some 5, none, .mov (.c (.int .i64 0))⟩]
    [1, 4, 5])
  (.block 2
    (.loop [1, 4, 5] RB.ref16_Right_1) []))
  (.seq (.region [⟨some 2, none, .mov (.c (.bool true))⟩]
    [2])
  .ret)))))))⟩

def RB.ref17_Of_1 : RCode :=
  (.seq (.seq (.region [⟨some 38, none, .mov (.t 8)⟩,
    ⟨some 39, none, .fieldAddr 2 (.t 1)⟩,
    ⟨some 40, none, .load false 1 (.t 39)⟩,
    ⟨some 41, none, .len (.t 40)⟩,
    ⟨some 42, none, .bin .lss (.t 38) (.t 41)⟩]
    [1, 3, 4, 5, 6, 7, 8, 42])
  (.cond (.t 42)
    .skip
    (.exit 4)))
  (.seq (.block 5
    (.seq (.drawn [⟨some 45, none, .fieldAddr 2 (.t 1)⟩,
      ⟨some 46, none, .load false 1 (.t 45)⟩,
      ⟨some 47, none, .mov (.t 8)⟩,
      ⟨some 48, none, .idxS 4 (.t 46) (.t 47)⟩,
      ⟨some 49, none, .load true 4 (.t 48)⟩,
      ⟨some 50, none, .mov (.t 4)⟩,
      ⟨some 51, none, .mov (.t 5)⟩,
      ⟨some 52, none, .idxS 1 (.t 50) (.t 51)⟩,
      ⟨some 53, none, .load false 1 (.t 52)⟩,
      ⟨some 54, none, .mov (.t 7)⟩,
      ⟨some 55, none, .call F.ref16_At [.t 49, .t 53, .t 54]⟩,
      ⟨some 56, none, .bin .gtr (.t 55) (.c (.int .i64 0))⟩]
      [[], [0], [], [1, 2], [3], [], [], [5, 6], [7], [], [4, 8, 9], [10]]
      [(0, []), (2, []), (5, []), (6, []), (7, []), (9, []), (1, []), (3, []), (4, []), (8, []), (10, []), (11, [])]
      [[], [0], [], [0, 1, 2], [0, 1, 2, 3], [], [], [5, 6], [5, 6, 7], [], [0, 1, 2, 3, 4, 5, 6, 7, 8, 9], [0, 1, 2, 3, 4, 5, 6, 7, 8, 9, 10]]
      [1, 3, 4, 5, 6, 7, 8, 56])
    (.cond (.t 56)
      (.drawn [⟨some 57, none, .fieldAddr 1 (.t 6)⟩,
        ⟨some 58, none, .load false 1 (.t 57)⟩,
        ⟨some 59, none, .mov (.t 7)⟩,
        ⟨some 60, none, .fieldAddr 2 (.t 1)⟩,
        ⟨some 61, none, .load false 1 (.t 60)⟩,
        ⟨some 62, none, .mov (.t 8)⟩,
        ⟨some 63, none, .idxS 4 (.t 61) (.t 62)⟩,
        ⟨some 64, none, .fieldAddr 0 (.t 63)⟩,
        ⟨some 65, none, .load false 1 (.t 64)⟩,
        ⟨some 66, none, .idxS 1 (.t 58) (.t 59)⟩,
        ⟨none, none, .store 1 (.t 66) (.t 65)⟩]
        [[], [0], [], [], [3], [], [4, 5], [6], [7], [1, 2, 0, 1, 2, 3, 4, 5, 6, 7, 8], [9, 8, 0, 1, 2, 3, 4, 5, 6, 7, 8]]
        [(0, []), (2, []), (3, []), (5, []), (1, []), (4, []), (6, []), (7, []), (8, []), (9, []), (10, [])]
        [[], [0], [], [], [3], [], [3, 4, 5], [3, 4, 5, 6], [3, 4, 5, 6, 7], [0, 1, 2, 3, 4, 5, 6, 7, 8], [0, 1, 2, 3, 4, 5, 6, 7, 8, 9]]
        [1, 3, 4, 5, 6, 7, 8])
      .skip)) [1, 3, 4, 5, 6, 7, 8])
  (.region [⟨some 43, none, .mov (.t 8)⟩,
    ⟨some 44, none, .bin .add (.t 43) (.c (.int .i64 1))⟩,
    ⟨some 8, none, .mov (.t 44)⟩]
    [1, 3, 4, 5, 6, 7, 8])))
def RB.ref17_Of_2 : RCode :=
  (.seq (.seq (.region [⟨some 32, none, .mov (.t 7)⟩,
    ⟨some 33, none, .fieldAddr 0 (.t 1)⟩,
    ⟨some 34, none, .load false 1 (.t 33)⟩,
    ⟨some 35, none, .bin .lss (.t 32) (.t 34)⟩]
    [1, 3, 4, 5, 6, 7, 35])
  (.cond (.t 35)
    .skip
    (.exit 2)))
  (.seq (.block 3
    (.seq (.region [⟨some 8, none, .mov (.c (.int .i64 0))⟩]
      [1, 3, 4, 5, 6, 7, 8])
    (.block 4
      (.loop [1, 3, 4, 5, 6, 7, 8] RB.ref17_Of_1) [1, 3, 4, 5, 6, 7])) [1, 3, 4, 5, 6, 7])
  (.region [⟨some 36, none, .mov (.t 7)⟩,
    ⟨some 37, none, .bin .add (.t 36) (.c (.int .i64 1))⟩,
    ⟨some 7, none, .mov (.t 37)⟩]
    [1, 3, 4, 5, 6, 7])))
def RB.ref17_Of_3 : RCode :=
  (.seq (.seq (.region [⟨some 12, none, .mov (.t 5)⟩,
    ⟨some 13, none, .mov (.t 4)⟩,
    ⟨some 14, none, .len (.t 13)⟩,
    ⟨some 15, none, .bin .lss (.t 12) (.t 14)⟩]
    [1, 3, 4, 5, 15])
  (.cond (.t 15)
    .skip
    (.exit 0)))
  (.seq (.block 1
    (.seq (.drawn [⟨some 18, none, .mov (.t 4)⟩,
      ⟨some 19, none, .mov (.t 5)⟩,
      ⟨some 20, none, .idxS 1 (.t 18) (.t 19)⟩,
      ⟨some 21, none, .load false 1 (.t 20)⟩,
      ⟨some 22, none, .fieldAddr 0 (.t 1)⟩,
      ⟨some 23, none, .load false 1 (.t 22)⟩,
      ⟨some 24, none, .mkslice 1 8 [(.int .i64 0)] (.t 23) (.t 23)⟩,
      ⟨some 25, none, .load true 3 (.t 1)⟩,
      ⟨some 26, none, .mov (.t 4)⟩,
      ⟨some 27, none, .mov (.t 5)⟩,
      ⟨some 28, none, .idxS 1 (.t 26) (.t 27)⟩,
      ⟨some 29, none, .load false 1 (.t 28)⟩,
      ⟨some 30, none, .call F.ref16_Wholes [.t 25, .t 29]⟩,
      ⟨some 31, none, .build [(.int .i64 0), (.slice none 0 0), (.slice none 0 0)] [(0, 1, .t 21), (1, 1, .t 24), (2, 1, .t 30)]⟩,
      ⟨some 6, none, .alloc [(.int .i64 0), (.slice none 0 0), (.slice none 0 0)]⟩,
      ⟨none, none, .store 3 (.t 6) (.t 31)⟩]
      [[], [], [0, 1], [2], [], [4], [5, 5], [], [], [], [8, 9], [10], [7, 11], [3, 6, 12], [], [14, 13, 12, 0, 1, 2, 3, 4, 5, 6, 7, 8, 9, 10, 11, 12, 13, 14]]
      [(0, []), (1, []), (2, []), (4, []), (8, []), (9, []), (10, []), (3, []), (5, []), (7, []), (11, []), (12, [20, 22]), (6, []), (13, []), (14, []), (15, [])]
      [[], [], [0, 1], [0, 1, 2], [], [4], [4, 5], [], [], [], [8, 9], [8, 9, 10], [7, 8, 9, 10, 11], [0, 1, 2, 3, 4, 5, 6, 7, 8, 9, 10, 11, 12], [], [0, 1, 2, 3, 4, 5, 6, 7, 8, 9, 10, 11, 12, 13, 14]]
      [1, 3, 4, 5, 6])
    (.seq (.seq (.region [⟨some 7, none, .mov (.c (.int .i64 0))⟩]
      [1, 3, 4, 5, 6, 7])
    (.block 2
      (.loop [1, 3, 4, 5, 6, 7] RB.ref17_Of_2) [1, 3, 4, 5, 6]))
    (.region [⟨some 67, none, .mov (.t 3)⟩,
      ⟨some 68, none, .load true 3 (.t 6)⟩,
      ⟨some 69, none, .bslice [(.int .i64 0), (.slice none 0 0), (.slice none 0 0)] [(0, 3, .t 68)] 1 3⟩,
      ⟨some 70, none, .app 3 56 (.t 67) (.t 69)⟩,
      ⟨some 3, none, .mov (.t 70)⟩]
      [1, 3, 4, 5]))) [1, 3, 4, 5])
  (.region [⟨some 16, none, .mov (.t 5)⟩,
    ⟨some 17, none, .bin .add (.t 16) (.c (.int .i64 1))⟩,
    ⟨some 5, none, .mov (.t 17)⟩]
    [1, 3, 4, 5])))
def RC.ref17_Of : RFn := ⟨1, [.slot 2],
  (.seq (.region [⟨some 1, none, .box (.t 0)⟩,
    ⟨some 2, none, .mov (.c (.slice none 0 0))⟩]
    [1])
  (.seq (.region [⟨some 9, none, .bslice [] [] 0 3⟩,
    ⟨some 3, none, .mov (.t 9)⟩]
    [1, 3])
  (.seq (.region [⟨some 10, none, .load true 3 (.t 1)⟩,
    ⟨some 11, none, .call F.ref16_Cores [.t 10]⟩,
    ⟨some 4, none, .mov (.t 11)⟩]
    [1, 3, 4])
  (.seq (.seq (.region [⟨some 5, none, .mov (.c (.int .i64 0))⟩]
    [1, 3, 4, 5])
  (.block 0
    (.loop [1, 3, 4, 5] RB.ref17_Of_3) [3]))
  (.seq (.region [⟨some 71, none, .mov (.t 3)⟩,
    ⟨some 2, none, .mov (.t 71)⟩]
    [2])
  .ret)))))⟩

def RC.law17_theirs : RFn := ⟨2, [.slot 4],
  (.seq (.region [⟨some 2, none, .box (.t 0)⟩,
    ⟨some 3, none, .box (.t 1)⟩,
    ⟨some 4, none, .mov (.c (.bool false))⟩]
    [2, 3])
  (.seq (.region [⟨some 5, none, .fieldAddr 0 (.t 2)⟩,
    ⟨some 6, none, .load false 1 (.t 5)⟩,
    ⟨some 7, none, .fieldAddr 1 (.t 2)⟩,
    ⟨some 8, none, .load false 1 (.t 7)⟩,
    ⟨some 9, none, .fieldAddr 2 (.t 2)⟩,
    ⟨some 10, none, .load false 1 (.t 9)⟩,
    ⟨some 11, none, .build [(.int .i64 0), (.slice none 0 0), (.slice none 0 0)] [(0, 1, .t 6), (1, 1, .t 8), (2, 1, .t 10)]⟩,
    ⟨some 12, none, .load true 3 (.t 3)⟩,
    ⟨some 13, none, .call F.ref17_Same [.t 11, .t 12]⟩,
    ⟨some 4, none, .mov (.t 13)⟩]
    [4])
  .ret))⟩

def RB.table_At_1 : RCode :=
  (.seq (.region [⟨some 13, none, .bin .lss (.t 12) (.t 11)⟩]
    [1, 2, 10, 11, 12, 13])
  (.seq (.cond (.t 13)
    .skip
    (.exit 0))
  (.seq (.block 1
    (.seq (.region [⟨some 14, none, .idxS 3 (.t 10) (.t 12)⟩,
      ⟨some 15, none, .load true 3 (.t 14)⟩,
      ⟨some 9, none, .alloc [(.int .i64 0), (.slice none 0 0), (.slice none 0 0)]⟩,
      ⟨none, none, .store 3 (.t 9) (.t 15)⟩]
      [1, 2, 9, 10, 11, 12])
    (.seq (.region [⟨some 16, none, .fieldAddr 0 (.t 9)⟩,
      ⟨some 17, none, .load false 1 (.t 16)⟩,
      ⟨some 18, none, .mov (.t 1)⟩,
      ⟨some 19, none, .bin .eql (.t 17) (.t 18)⟩,
      ⟨some 20, none, .mov (.t 19)⟩,
      ⟨some 21, some (20, true), .mov (.t 2)⟩,
      ⟨some 22, some (20, true), .bin .geq (.t 21) (.c (.int .i64 0))⟩,
      ⟨some 23, none, .pick (.t 20) (.t 22) (.c (.bool false))⟩,
      ⟨some 24, none, .mov (.t 23)⟩,
      ⟨some 25, some (24, true), .mov (.t 2)⟩,
      ⟨some 26, some (24, true), .fieldAddr 1 (.t 9)⟩,
      ⟨some 27, some (24, true), .load false 1 (.t 26)⟩,
      ⟨some 28, some (24, true), .len (.t 27)⟩,
      ⟨some 29, some (24, true), .bin .lss (.t 25) (.t 28)⟩,
      ⟨some 30, none, .pick (.t 24) (.t 29) (.c (.bool false))⟩]
      [1, 2, 9, 10, 11, 12, 30])
    (.cond (.t 30)
      (.seq (.drawn [⟨some 31, none, .fieldAddr 1 (.t 9)⟩,
        ⟨some 32, none, .load false 1 (.t 31)⟩,
        ⟨some 33, none, .mov (.t 2)⟩,
        ⟨some 34, none, .idxS 1 (.t 32) (.t 33)⟩,
        ⟨some 35, none, .load false 1 (.t 34)⟩,
        ⟨some 36, none, .fieldAddr 1 (.t 9)⟩,
        ⟨some 37, none, .load false 1 (.t 36)⟩,
        ⟨some 38, none, .mov (.t 2)⟩,
        ⟨some 39, none, .idxS 1 (.t 37) (.t 38)⟩,
        ⟨some 40, none, .load false 1 (.t 39)⟩,
        ⟨some 41, none, .bin .neq (.t 40) (.c (.int .i64 0))⟩,
        ⟨some 6, none, .mov (.t 35)⟩,
        ⟨some 7, none, .mov (.t 41)⟩]
        [[], [0], [], [1, 2], [3], [], [5], [], [6, 7], [8], [9], [4, 0, 1, 2, 3, 4], [10, 11, 0, 1, 2, 3, 4, 5, 6, 7, 8, 9, 10, 11]]
        [(0, []), (2, []), (5, []), (7, []), (1, []), (3, []), (4, []), (11, []), (6, []), (8, []), (9, []), (10, []), (12, [])]
        [[], [0], [], [0, 1, 2], [0, 1, 2, 3], [], [5], [], [5, 6, 7], [5, 6, 7, 8], [5, 6, 7, 8, 9], [0, 1, 2, 3, 4], [0, 1, 2, 3, 4, 5, 6, 7, 8, 9, 10, 11]]
        [6, 7])
      .ret)
      .skip))) [1, 2, 10, 11, 12])
  (.region [⟨some 42, none, .bin .add (.t 12) (.c (.int .i64 1))⟩,
    ⟨some 12, none, .mov (.t 42)⟩]
    [1, 2, 10, 11, 12]))))
def RC.table_At : RFn := ⟨3, [.slot 6, .slot 7],
  (.seq (.region [⟨some 6, none, .mov (.c (.int .i64 0))⟩,
    ⟨some 7, none, .mov (.c (.bool false))⟩]
    [0, 1, 2])
  (.seq (.seq (.region [⟨some 10, none, .mov (.t 0)⟩,
    ⟨some 11, none, .len (.t 10)⟩,
    ⟨some 12, none, .mov (.c (.int .i64 0))⟩]
    [1, 2, 10, 11, 12])
  (.block 0
    (.loop [1, 2, 10, 11, 12] RB.table_At_1) []))
  (.seq (.region [⟨some 6, none, .mov (.c (.int .i64 0))⟩,
    ⟨some 7, none, .mov (.c (.bool false))⟩]
    [6, 7])
  .ret)))⟩

def RB.ref17_At_1 : RCode :=
  (.seq (.seq (.region [⟨some 8, none, .mov (.t 7)⟩,
    ⟨some 9, none, .mov (.t 0)⟩,
    ⟨some 10, none, .len (.t 9)⟩,
    ⟨some 11, none, .bin .lss (.t 8) (.t 10)⟩]
    [0, 1, 2, 7, 11])
  (.cond (.t 11)
    .skip
    (.exit 0)))
  (.seq (.block 1
    (.seq (.region [⟨some 14, none, .mov (.t 0)⟩,
      ⟨some 15, none, .mov (.t 7)⟩,
      ⟨some 16, none, .idxS 3 (.t 14) (.t 15)⟩,
      ⟨some 17, none, .fieldAddr 0 (.t 16)⟩,
      ⟨some 18, none, .load false 1 (.t 17)⟩,
      ⟨some 19, none, .mov (.t 1)⟩,
      ⟨some 20, none, .bin .eql (.t 18) (.t 19)⟩,
      ⟨some 21, none, .mov (.t 20)⟩,
      ⟨some 22, some (21, true), .mov (.t 2)⟩,
      ⟨some 23, some (21, true), .bin .geq (.t 22) (.c (.int .i64 0))⟩,
      ⟨some 24, none, .pick (.t 21) (.t 23) (.c (.bool false))⟩,
      ⟨some 25, none, .mov (.t 24)⟩,
      ⟨some 26, some (25, true), .mov (.t 2)⟩,
      ⟨some 27, some (25, true), .mov (.t 0)⟩,
      ⟨some 28, some (25, true), .mov (.t 7)⟩,
      ⟨some 29, some (25, true), .idxS 3 (.t 27) (.t 28)⟩,
      ⟨some 30, some (25, true), .fieldAddr 1 (.t 29)⟩,
      ⟨some 31, some (25, true), .load false 1 (.t 30)⟩,
      ⟨some 32, some (25, true), .len (.t 31)⟩,
      ⟨some 33, some (25, true), .bin .lss (.t 26) (.t 32)⟩,
      ⟨some 34, none, .pick (.t 25) (.t 33) (.c (.bool false))⟩]
      [0, 1, 2, 7, 34])
    (.cond (.t 34)
      (.seq (.region [⟨some 35, none, .mov (.t 0)⟩,
        ⟨some 36, none, .mov (.t 7)⟩,
        ⟨some 37, none, .idxS 3 (.t 35) (.t 36)⟩,
        ⟨some 38, none, .fieldAddr 1 (.t 37)⟩,
        ⟨some 39, none, .load false 1 (.t 38)⟩,
        ⟨some 40, none, .mov (.t 2)⟩,
        ⟨some 41, none, .idxS 1 (.t 39) (.t 40)⟩,
        ⟨some 42, none, .load false 1 (.t 41)⟩,
        ⟨some 6, none, .mov (.t 42)⟩]
        [6])
      .ret)
      .skip)) [0, 1, 2, 7])
  (.region [⟨some 12, none, .mov (.t 7)⟩,
    ⟨some 13, none, .bin .add (.t 12) (.c (.int .i64 1))⟩,
    ⟨some 7, none, .mov (.t 13)⟩]
    [0, 1, 2, 7])))
def RC.ref17_At : RFn := ⟨3, [.slot 6],
  (.seq (.region [⟨some 6, none, .mov (.c (.int .i64 0))⟩]
    [0, 1, 2])
  (.seq (.seq (.region [⟨some 7, none, .mov (.c (.int .i64 0))⟩]
    [0, 1, 2, 7])
  (.block 0
    (.loop [0, 1, 2, 7] RB.ref17_At_1) []))
  (.seq (.region [⟨some 6, none, .mov (.c (.int .i64 0))⟩]
    [6])
  .ret)))⟩

def RB.table_Busy_1 : RCode :=
  (.seq (.region [⟨some 13, none, .bin .lss (.t 12) (.t 11)⟩]
    [0, 1, 5, 10, 11, 12, 13])
  (.seq (.cond (.t 13)
    .skip
    (.exit 0))
  (.seq (.block 1
    (.seq (.region [⟨some 14, none, .idxS 3 (.t 10) (.t 12)⟩,
      ⟨some 15, none, .load true 3 (.t 14)⟩,
      ⟨some 7, none, .alloc [(.int .i64 0), (.slice none 0 0), (.slice none 0 0)]⟩,
      ⟨none, none, .store 3 (.t 7) (.t 15)⟩]
      [0, 1, 5, 7, 10, 11, 12])
    (.seq (.region [⟨some 17, none, .mov (.t 0)⟩,
      ⟨some 18, none, .fieldAddr 0 (.t 7)⟩,
      ⟨some 19, none, .load false 1 (.t 18)⟩,
      ⟨some 20, none, .mov (.t 1)⟩,
      ⟨some 21, none, .call F.table_At [.t 17, .t 19, .t 20]⟩,
      ⟨some 16, none, .mov (.t 21)⟩,
      ⟨some 22, none, .ext 0 (.t 16)⟩,
      ⟨some 23, none, .ext 1 (.t 16)⟩,
      ⟨some 8, none, .mov (.t 22)⟩,
      ⟨some 9, none, .mov (.t 23)⟩]
      [0, 1, 5, 8, 9, 10, 11, 12])
    (.seq (.region [⟨some 24, none, .mov (.t 9)⟩]
      [0, 1, 5, 8, 10, 11, 12, 24])
    (.cond (.t 24)
      (.region [⟨some 25, none, .mov (.t 5)⟩,
        ⟨some 26, none, .mov (.t 8)⟩,
        ⟨some 27, none, .bslice [(.int .i64 0)] [(0, 1, .t 26)] 1 1⟩,
        ⟨some 28, none, .app 1 8 (.t 25) (.t 27)⟩,
        ⟨some 5, none, .mov (.t 28)⟩]
        [0, 1, 5, 10, 11, 12])
      .skip)))) [0, 1, 5, 10, 11, 12])
  (.region [⟨some 29, none, .bin .add (.t 12) (.c (.int .i64 1))⟩,
    ⟨some 12, none, .mov (.t 29)⟩]
    [0, 1, 5, 10, 11, 12]))))
def RC.table_Busy : RFn := ⟨2, [.slot 4],
  (.seq (.region [⟨some 4, none, .mov (.c (.slice none 0 0))⟩]
    [0, 1])
  (.seq (.region [⟨some 5, none, .mov (.c (.slice none 0 0))⟩]
    [0, 1, 5])
  (.seq (.seq (.region [⟨some 10, none, .mov (.t 0)⟩,
    ⟨some 11, none, .len (.t 10)⟩,
    ⟨some 12, none, .mov (.c (.int .i64 0))⟩]
    [0, 1, 5, 10, 11, 12])
  (.block 0
    (.loop [0, 1, 5, 10, 11, 12] RB.table_Busy_1) [5]))
  (.seq (.region [⟨some 30, none, .mov (.t 5)⟩,
    ⟨some 4, none, .mov (.t 30)⟩]
    [4])
  .ret))))⟩

def RC.table_Loose : RFn := ⟨1, [.slot 2],
  (.seq (.region [⟨some 1, none, .box (.t 0)⟩,
    ⟨some 2, none, .mov (.c (.int .i64 0))⟩]
    [1])
  (.seq (.region [⟨some 3, none, .fieldAddr 1 (.t 1)⟩,
    ⟨some 4, none, .load false 1 (.t 3)⟩,
    ⟨some 5, none, .call F.table_count_int [.t 4, .c (.int .i64 0)]⟩,
    ⟨some 2, none, .mov (.t 5)⟩]
    [2])
  .ret))⟩

def RB.ref17_Same_1 : RCode :=
  (.seq (.seq (.region [⟨some 48, none, .mov (.t 6)⟩,
    ⟨some 49, none, .fieldAddr 2 (.t 2)⟩,
    ⟨some 50, none, .load false 1 (.t 49)⟩,
    ⟨some 51, none, .len (.t 50)⟩,
    ⟨some 52, none, .bin .lss (.t 48) (.t 51)⟩]
    [2, 3, 6, 52])
  (.cond (.t 52)
    .skip
    (.exit 2)))
  (.seq (.block 3
    (.seq (.drawn [⟨some 55, none, .fieldAddr 2 (.t 2)⟩,
      ⟨some 56, none, .load false 1 (.t 55)⟩,
      ⟨some 57, none, .mov (.t 6)⟩,
      ⟨some 58, none, .idxS 2 (.t 56) (.t 57)⟩,
      ⟨some 59, none, .load true 2 (.t 58)⟩,
      ⟨some 60, none, .fieldAddr 2 (.t 3)⟩,
      ⟨some 61, none, .load false 1 (.t 60)⟩,
      ⟨some 62, none, .mov (.t 6)⟩,
      ⟨some 63, none, .idxS 2 (.t 61) (.t 62)⟩,
      ⟨some 64, none, .load true 2 (.t 63)⟩,
      ⟨some 65, none, .eq true (.flat [.int, .int]) (.t 59) (.t 64)⟩]
      [[], [0], [], [1, 2], [3], [], [5], [], [6, 7], [8], [4, 9]]
      [(0, []), (2, []), (5, []), (7, []), (1, []), (3, []), (4, []), (6, []), (8, []), (9, []), (10, [])]
      [[], [0], [], [0, 1, 2], [0, 1, 2, 3], [], [5], [], [5, 6, 7], [5, 6, 7, 8], [0, 1, 2, 3, 4, 5, 6, 7, 8, 9]]
      [2, 3, 6, 65])
    (.cond (.t 65)
      (.seq (.region [⟨some 4, none, .mov (.c (.bool false))⟩]
        [4])
      .ret)
      .skip)) [2, 3, 6])
  (.region [⟨some 53, none, .mov (.t 6)⟩,
    ⟨some 54, none, .bin .add (.t 53) (.c (.int .i64 1))⟩,
    ⟨some 6, none, .mov (.t 54)⟩]
    [2, 3, 6])))
def RB.ref17_Same_2 : RCode :=
  (.seq (.seq (.region [⟨some 30, none, .mov (.t 5)⟩,
    ⟨some 31, none, .fieldAddr 1 (.t 2)⟩,
    ⟨some 32, none, .load false 1 (.t 31)⟩,
    ⟨some 33, none, .len (.t 32)⟩,
    ⟨some 34, none, .bin .lss (.t 30) (.t 33)⟩]
    [2, 3, 5, 34])
  (.cond (.t 34)
    .skip
    (.exit 0)))
  (.seq (.block 1
    (.seq (.drawn [⟨some 37, none, .fieldAddr 1 (.t 2)⟩,
      ⟨some 38, none, .load false 1 (.t 37)⟩,
      ⟨some 39, none, .mov (.t 5)⟩,
      ⟨some 40, none, .idxS 1 (.t 38) (.t 39)⟩,
      ⟨some 41, none, .load false 1 (.t 40)⟩,
      ⟨some 42, none, .fieldAddr 1 (.t 3)⟩,
      ⟨some 43, none, .load false 1 (.t 42)⟩,
      ⟨some 44, none, .mov (.t 5)⟩,
      ⟨some 45, none, .idxS 1 (.t 43) (.t 44)⟩,
      ⟨some 46, none, .load false 1 (.t 45)⟩,
      ⟨some 47, none, .bin .neq (.t 41) (.t 46)⟩]
      [[], [0], [], [1, 2], [3], [], [5], [], [6, 7], [8], [4, 9]]
      [(0, []), (2, []), (5, []), (7, []), (1, []), (3, []), (4, []), (6, []), (8, []), (9, []), (10, [])]
      [[], [0], [], [0, 1, 2], [0, 1, 2, 3], [], [5], [], [5, 6, 7], [5, 6, 7, 8], [0, 1, 2, 3, 4, 5, 6, 7, 8, 9]]
      [2, 3, 5, 47])
    (.cond (.t 47)
      (.seq (.region [⟨some 4, none, .mov (.c (.bool false))⟩]
        [4])
      .ret)
      .skip)) [2, 3, 5])
  (.region [⟨some 35, none, .mov (.t 5)⟩,
    ⟨some 36, none, .bin .add (.t 35) (.c (.int .i64 1))⟩,
    ⟨some 5, none, .mov (.t 36)⟩]
    [2, 3, 5])))
def RC.ref17_Same : RFn := ⟨2, [.slot 4],
  (.seq (.region [⟨some 2, none, .box (.t 0)⟩,
    ⟨some 3, none, .box (.t 1)⟩,
    ⟨some 4, none, .mov (.c (.bool false))⟩]
    [2, 3])
  (.seq (.seq (.region [⟨some 7, none, .fieldAddr 0 (.t 2)⟩,
    ⟨some 8, none, .load false 1 (.t 7)⟩,
    ⟨some 9, none, .fieldAddr 0 (.t 3)⟩,
    ⟨some 10, none, .load false 1 (.t 9)⟩,
    ⟨some 11, none, .bin .neq (.t 8) (.t 10)⟩,
    ⟨some 12, none, .mov (.t 11)⟩,
    ⟨some 13, some (12, false), .fieldAddr 1 (.t 2)⟩,
    ⟨some 14, some (12, false), .load false 1 (.t 13)⟩,
    ⟨some 15, some (12, false), .len (.t 14)⟩,
    ⟨some 16, some (12, false), .fieldAddr 1 (.t 3)⟩,
    ⟨some 17, some (12, false), .load false 1 (.t 16)⟩,
    ⟨some 18, some (12, false), .len (.t 17)⟩,
    ⟨some 19, some (12, false), .bin .neq (.t 15) (.t 18)⟩,
    ⟨some 20, none, .pick (.t 12) (.c (.bool true)) (.t 19)⟩,
    ⟨some 21, none, .mov (.t 20)⟩,
    ⟨some 22, some (21, false), .fieldAddr 2 (.t 2)⟩,
    ⟨some 23, some (21, false), .load false 1 (.t 22)⟩,
    ⟨some 24, some (21, false), .len (.t 23)⟩,
    ⟨some 25, some (21, false), .fieldAddr 2 (.t 3)⟩,
    ⟨some 26, some (21, false), .load false 1 (.t 25)⟩,
    ⟨some 27, some (21, false), .len (.t 26)⟩,
    ⟨some 28, some (21, false), .bin .neq (.t 24) (.t 27)⟩,
    ⟨some 29, none, .pick (.t 21) (.c (.bool true)) (.t 28)⟩]
    [2, 3, 29])
  (.cond (.t 29)
    (.seq (.region [⟨some 4, none, .mov (.c (.bool false))⟩]
      [4])
    .ret)
    .skip))
  (.seq (.seq (.region [⟨some 5, none, .mov (.c (.int .i64 0))⟩]
    [2, 3, 5])
  (.block 0
    (.loop [2, 3, 5] RB.ref17_Same_2) [2, 3]))
  (.seq (.seq (.region [⟨some 6, none, .mov (.c (.int .i64 0))⟩]
    [2, 3, 6])
  (.block 2
    (.loop [2, 3, 6] RB.ref17_Same_1) []))
  (.seq (.region [⟨some 4, none, .mov (.c (.bool true))⟩]
    [4])
  .ret)))))⟩

def RB.plan_Check_1 : RCode :=
  (.seq (.region [⟨some 70, none, .bin .lss (.t 69) (.t 68)⟩]
    [1, 67, 68, 69, 70])
  (.seq (.cond (.t 70)
    .skip
    (.exit 2))
  (.seq (.block 3
    (.seq (.region [⟨some 71, none, .idxS 1 (.t 67) (.t 69)⟩,
      ⟨some 72, none, .load false 1 (.t 71)⟩,
      ⟨some 6, none, .mov (.t 72)⟩]
      [1, 6, 67, 68, 69])
    (.seq (.region [⟨some 73, none, .load true 3 (.t 1)⟩,
      ⟨some 74, none, .mov (.t 6)⟩,
      ⟨some 75, none, .call F.plan_left [.t 73, .t 74]⟩,
      ⟨some 76, none, .bin .lss (.t 75) (.c (.int .i64 0))⟩]
      [1, 67, 68, 69, 76])
    (.cond (.t 76)
      (.seq (.region [⟨some 2, none, .mov (.c (.int .i64 30))⟩]
        [2])
      .ret)
      .skip))) [1, 67, 68, 69])
  (.region [⟨some 77, none, .bin .add (.t 69) (.c (.int .i64 1))⟩,
    ⟨some 69, none, .mov (.t 77)⟩]
    [1, 67, 68, 69]))))
def RB.plan_Check_2 : RCode :=
  (.seq (.region [⟨some 30, none, .bin .lss (.t 29) (.t 28)⟩]
    [1, 27, 28, 29, 30])
  (.seq (.cond (.t 30)
    .skip
    (.exit 0))
  (.seq (.block 1
    (.seq (.region [⟨some 31, none, .mov (.t 29)⟩,
      ⟨some 32, none, .idxS 4 (.t 27) (.t 29)⟩,
      ⟨some 33, none, .load true 4 (.t 32)⟩,
      ⟨some 4, none, .alloc [(.int .i64 0), (.int .i64 0), (.int .i64 0), (.slice none 0 0)]⟩,
      ⟨some 3, none, .mov (.t 31)⟩,
      ⟨none, none, .store 4 (.t 4) (.t 33)⟩]
      [1, 3, 4, 27, 28, 29])
    (.seq (.drawn [⟨some 34, none, .load true 3 (.t 1)⟩,
      ⟨some 35, none, .load true 4 (.t 4)⟩,
      ⟨some 36, none, .call F.plan_place [.t 34, .t 35]⟩,
      ⟨some 37, none, .un .not (.t 36)⟩,
      ⟨some 38, none, .mov (.t 37)⟩,
      ⟨some 39, some (38, false), .mov (.t 3)⟩,
      ⟨some 40, some (38, false), .bin .gtr (.t 39) (.c (.int .i64 0))⟩,
      ⟨some 41, some (38, false), .mov (.t 40)⟩,
      ⟨some 42, some (41, true), .fieldAddr 2 (.t 1)⟩,
      ⟨some 43, some (41, true), .load false 1 (.t 42)⟩,
      ⟨some 44, some (41, true), .mov (.t 3)⟩,
      ⟨some 45, some (41, true), .bin .sub (.t 44) (.c (.int .i64 1))⟩,
      ⟨some 46, some (41, true), .idxS 4 (.t 43) (.t 45)⟩,
      ⟨some 47, some (41, true), .fieldAddr 0 (.t 46)⟩,
      ⟨some 48, some (41, true), .load false 1 (.t 47)⟩,
      ⟨some 49, some (41, true), .fieldAddr 0 (.t 4)⟩,
      ⟨some 50, some (41, true), .load false 1 (.t 49)⟩,
      ⟨some 51, some (41, true), .bin .geq (.t 48) (.t 50)⟩,
      ⟨some 52, some (38, false), .pick (.t 41) (.t 51) (.c (.bool false))⟩,
      ⟨some 53, none, .pick (.t 38) (.c (.bool true)) (.t 52)⟩]
      [[], [], [0, 1], [2], [3, 2], [4], [5, 4], [6, 4, 4], [7], [8, 7], [7], [10, 7], [9, 11, 7], [12, 7], [13, 7], [7], [15, 7], [14, 16, 7], [7, 17, 4], [4, 18]]
      [(0, []), (1, []), (2, []), (3, []), (4, []), (5, []), (6, []), (7, []), (8, []), (10, []), (11, []), (15, []), (9, []), (12, []), (13, []), (14, []), (16, []), (17, []), (18, []), (19, [])]
      [[], [], [0, 1], [0, 1, 2], [0, 1, 2, 3], [0, 1, 2, 3, 4], [0, 1, 2, 3, 4, 5], [0, 1, 2, 3, 4, 5, 6], [0, 1, 2, 3, 4, 5, 6, 7], [0, 1, 2, 3, 4, 5, 6, 7, 8], [0, 1, 2, 3, 4, 5, 6, 7], [0, 1, 2, 3, 4, 5, 6, 7, 10], [0, 1, 2, 3, 4, 5, 6, 7, 8, 9, 10, 11], [0, 1, 2, 3, 4, 5, 6, 7, 8, 9, 10, 11, 12], [0, 1, 2, 3, 4, 5, 6, 7, 8, 9, 10, 11, 12, 13], [0, 1, 2, 3, 4, 5, 6, 7], [0, 1, 2, 3, 4, 5, 6, 7, 15], [0, 1, 2, 3, 4, 5, 6, 7, 8, 9, 10, 11, 12, 13, 14, 15, 16], [0, 1, 2, 3, 4, 5, 6, 7, 8, 9, 10, 11, 12, 13, 14, 15, 16, 17], [0, 1, 2, 3, 4, 5, 6, 7, 8, 9, 10, 11, 12, 13, 14, 15, 16, 17, 18]]
      [1, 27, 28, 29, 53])
    (.cond (.t 53)
      (.seq (.region [⟨some 2, none, .mov (.c (.int .i64 30))⟩]
        [2])
      .ret)
      .skip))) [1, 27, 28, 29])
  (.region [⟨some 54, none, .bin .add (.t 29) (.c (.int .i64 1))⟩,
    ⟨some 29, none, .mov (.t 54)⟩]
    [1, 27, 28, 29]))))
def RC.plan_Check : RFn := ⟨1, [.slot 2],
  (.seq (.region [⟨some 1, none, .box (.t 0)⟩,
    ⟨some 2, none, .mov (.c (.int .i64 0))⟩]
    [1])
  (.seq (.seq (.region [⟨some 7, none, .fieldAddr 0 (.t 1)⟩,
    ⟨some 8, none, .load false 1 (.t 7)⟩,
    ⟨some 9, none, .bin .lss (.t 8) (.c (.int .i64 2))⟩,
    ⟨some 10, none, .mov (.t 9)⟩,
    ⟨some 11, some (10, false), .fieldAddr 0 (.t 1)⟩,
    ⟨some 12, some (10, false), .load false 1 (.t 11)⟩,
    ⟨some 13, some (10, false), .bin .gtr (.t 12) (.c (.int .i64 64))⟩,
    ⟨some 14, none, .pick (.t 10) (.c (.bool true)) (.t 13)⟩,
    ⟨some 15, none, .mov (.t 14)⟩,
    ⟨some 16, some (15, false), .fieldAddr 1 (.t 1)⟩,
    ⟨some 17, some (15, false), .load false 1 (.t 16)⟩,
    ⟨some 18, some (15, false), .bin .eql (.t 17) (.c (u32 0#32))⟩,
    ⟨some 19, none, .pick (.t 15) (.c (.bool true)) (.t 18)⟩,
    ⟨some 20, none, .mov (.t 19)⟩,
    ⟨some 21, some (20, false), .fieldAddr 1 (.t 1)⟩,
    ⟨some 22, some (20, false), .load false 1 (.t 21)⟩,
    ⟨some 23, some (20, false), .bin .shr (.t 22) (.c (u64 16#64))⟩,
    ⟨some 24, some (20, false), .bin .neq (.t 23) (.c (u32 0#32))⟩,
    ⟨some 25, none, .pick (.t 20) (.c (.bool true)) (.t 24)⟩]
    [1, 25])
  (.cond (.t 25)
    (.seq (.region [⟨some 2, none, .mov (.c (.int .i64 30))⟩]
      [2])
    .ret)
    .skip))
  (.seq (.seq (.region [⟨some 26, none, .fieldAddr 2 (.t 1)⟩,
    ⟨some 27, none, .load false 1 (.t 26)⟩,
    ⟨some 28, none, .len (.t 27)⟩,
    ⟨some 29, none, .mov (.c (.int .i64 0))⟩]
    [1, 27, 28, 29])
  (.block 0
    (.loop [1, 27, 28, 29] RB.plan_Check_2) [1]))
  (.seq (.seq (.drawn [⟨some 55, none, .load true 3 (.t 1)⟩,
    ⟨some 56, none, .call F.plan_apart [.t 55]⟩,
    ⟨some 57, none, .un .not (.t 56)⟩,
    ⟨some 58, none, .mov (.t 57)⟩,
    ⟨some 59, some (58, false), .load true 3 (.t 1)⟩,
    ⟨some 60, some (58, false), .call F.plan_Splits [.t 59]⟩,
    ⟨some 61, some (58, false), .load true 3 (.t 1)⟩,
    ⟨some 62, some (58, false), .call F.plan_Cores [.t 61]⟩,
    ⟨some 63, some (58, false), .len (.t 62)⟩,
    ⟨some 64, some (58, false), .bin .geq (.t 60) (.t 63)⟩,
    ⟨some 65, none, .pick (.t 58) (.c (.bool true)) (.t 64)⟩]
    [[], [0], [1], [2, 1], [3], [4, 3, 3], [3], [6, 5, 3], [7, 3], [5, 8, 3], [3, 9]]
    [(0, []), (1, []), (2, []), (3, []), (4, []), (6, []), (5, [1]), (7, []), (8, []), (9, []), (10, [])]
    [[], [0], [0, 1], [0, 1, 2], [0, 1, 2, 3], [0, 1, 2, 3, 4], [0, 1, 2, 3], [0, 1, 2, 3, 4, 5, 6], [0, 1, 2, 3, 4, 5, 6, 7], [0, 1, 2, 3, 4, 5, 6, 7, 8], [0, 1, 2, 3, 4, 5, 6, 7, 8, 9]]
    [1, 65])
  (.cond (.t 65)
    (.seq (.region [⟨some 2, none, .mov (.c (.int .i64 30))⟩]
      [2])
    .ret)
    .skip))
  (.seq (.seq (.region [⟨some 66, none, .load true 3 (.t 1)⟩,
    ⟨some 67, none, .call F.plan_Cores [.t 66]⟩,
    ⟨some 68, none, .len (.t 67)⟩,
    ⟨some 69, none, .mov (.c (.int .i64 0))⟩]
    [1, 67, 68, 69])
  (.block 2
    (.loop [1, 67, 68, 69] RB.plan_Check_1) []))
  (.seq (.region [⟨some 2, none, .mov (.c (.int .i64 0))⟩]
    [2])
  .ret))))))⟩

def RB.plan_Cores_1 : RCode :=
  (.seq (.region [⟨some 6, none, .bin .lss (.t 5) (.c (.int .i64 16))⟩]
    [1, 3, 5, 6])
  (.seq (.cond (.t 6)
    .skip
    (.exit 0))
  (.seq (.block 1
    (.seq (.region [⟨some 7, none, .mov (.t 5)⟩,
      ⟨some 4, none, .mov (.t 7)⟩]
      [1, 3, 4, 5])
    (.seq (.region [⟨some 8, none, .load true 3 (.t 1)⟩,
      ⟨some 9, none, .mov (.t 4)⟩,
      ⟨some 10, none, .call F.plan_has [.t 8, .t 9]⟩]
      [1, 3, 4, 5, 10])
    (.cond (.t 10)
      (.region [⟨some 11, none, .mov (.t 3)⟩,
        ⟨some 12, none, .mov (.t 4)⟩,
        ⟨some 13, none, .bslice [(.int .i64 0)] [(0, 1, .t 12)] 1 1⟩,
        ⟨some 14, none, .app 1 8 (.t 11) (.t 13)⟩,
        ⟨some 3, none, .mov (.t 14)⟩]
        [1, 3, 5])
      .skip))) [1, 3, 5])
  (.region [⟨some 15, none, .bin .add (.t 5) (.c (.int .i64 1))⟩,
    ⟨some 5, none, .mov (.t 15)⟩]
    [1, 3, 5]))))
def RC.plan_Cores : RFn := ⟨1, [.slot 2],
  (.seq (.region [⟨some 1, none, .box (.t 0)⟩,
    ⟨some 2, none, .mov (.c (.slice none 0 0))⟩]
    [1])
  (.seq (.region [⟨some 3, none, .mov (.c (.slice none 0 0))⟩]
    [1, 3])
  (.seq (.seq (.region [⟨some 5, none, .mov (.c (.int .i64 0))⟩]
    [1, 3, 5])
  (.block 0
    (.loop [1, 3, 5] RB.plan_Cores_1) [3]))
  (.seq (.region [⟨some 16, none, .mov (.t 3)⟩,
    ⟨some 2, none, .mov (.t 16)⟩]
    [2])
  .ret))))⟩

def RB.plan_Wholes_1 : RCode :=
  (.seq (.region [⟨some 12, none, .bin .lss (.t 11) (.t 10)⟩]
    [1, 5, 9, 10, 11, 12])
  (.seq (.cond (.t 12)
    .skip
    (.exit 0))
  (.seq (.block 1
    (.seq (.region [⟨some 13, none, .idxS 4 (.t 9) (.t 11)⟩,
      ⟨some 14, none, .load true 4 (.t 13)⟩,
      ⟨some 7, none, .alloc [(.int .i64 0), (.int .i64 0), (.int .i64 0), (.slice none 0 0)]⟩,
      ⟨none, none, .store 4 (.t 7) (.t 14)⟩]
      [1, 5, 7, 9, 10, 11])
    (.seq (.region [⟨some 15, none, .load true 4 (.t 7)⟩,
      ⟨some 16, none, .call F.plan_split [.t 15]⟩,
      ⟨some 17, none, .un .not (.t 16)⟩,
      ⟨some 18, none, .mov (.t 17)⟩,
      ⟨some 19, some (18, true), .fieldAddr 2 (.t 7)⟩,
      ⟨some 20, some (18, true), .load false 1 (.t 19)⟩,
      ⟨some 21, some (18, true), .mov (.t 1)⟩,
      ⟨some 22, some (18, true), .bin .eql (.t 20) (.t 21)⟩,
      ⟨some 23, none, .pick (.t 18) (.t 22) (.c (.bool false))⟩]
      [1, 5, 7, 9, 10, 11, 23])
    (.cond (.t 23)
      (.region [⟨some 24, none, .mov (.t 5)⟩,
        ⟨some 25, none, .fieldAddr 0 (.t 7)⟩,
        ⟨some 26, none, .load false 1 (.t 25)⟩,
        ⟨some 27, none, .fieldAddr 1 (.t 7)⟩,
        ⟨some 28, none, .load false 1 (.t 27)⟩,
        ⟨some 29, none, .build [(.int .i64 0), (.int .i64 0)] [(0, 1, .t 26), (1, 1, .t 28)]⟩,
        ⟨some 30, none, .bslice [(.int .i64 0), (.int .i64 0)] [(0, 2, .t 29)] 1 2⟩,
        ⟨some 31, none, .app 2 16 (.t 24) (.t 30)⟩,
        ⟨some 5, none, .mov (.t 31)⟩]
        [1, 5, 9, 10, 11])
      .skip))) [1, 5, 9, 10, 11])
  (.region [⟨some 32, none, .bin .add (.t 11) (.c (.int .i64 1))⟩,
    ⟨some 11, none, .mov (.t 32)⟩]
    [1, 5, 9, 10, 11]))))
def RC.plan_Wholes : RFn := ⟨2, [.slot 4],
  (.seq (.region [⟨some 2, none, .box (.t 0)⟩,
    ⟨some 4, none, .mov (.c (.slice none 0 0))⟩]
    [1, 2])
  (.seq (.region [⟨some 5, none, .mov (.c (.slice none 0 0))⟩]
    [1, 2, 5])
  (.seq (.seq (.region [⟨some 8, none, .fieldAddr 2 (.t 2)⟩,
    ⟨some 9, none, .load false 1 (.t 8)⟩,
    ⟨some 10, none, .len (.t 9)⟩,
    ⟨some 11, none, .mov (.c (.int .i64 0))⟩]
    [1, 5, 9, 10, 11])
  (.block 0
    (.loop [1, 5, 9, 10, 11] RB.plan_Wholes_1) [5]))
  (.seq (.region [⟨some 33, none, .mov (.t 5)⟩,
    ⟨some 4, none, .mov (.t 33)⟩]
    [4])
  .ret))))⟩

def RB.mask_Ticks_1 : RCode :=
  (.seq (.seq (.region [⟨some 4, none, .mov (.t 0)⟩,
    ⟨some 5, none, .bin .neq (.t 4) (.c (u64 0#64))⟩]
    [0, 3, 5])
  (.cond (.t 5)
    .skip
    (.exit 0)))
  (.seq (.block 1
    (.region [⟨some 10, none, .mov (.t 3)⟩,
      ⟨some 11, none, .mov (.t 0)⟩,
      ⟨some 12, none, .call F.math_bits_TrailingZeros64 [.t 11]⟩,
      ⟨some 13, none, .bslice [(.int .i64 0)] [(0, 1, .t 12)] 1 1⟩,
      ⟨some 14, none, .app 1 8 (.t 10) (.t 13)⟩,
      ⟨some 3, none, .mov (.t 14)⟩]
      [0, 3]) [0, 3])
  (.region [⟨some 6, none, .mov (.t 0)⟩,
    ⟨some 7, none, .mov (.t 0)⟩,
    ⟨some 8, none, .bin .sub (.t 7) (.c (u64 1#64))⟩,
    ⟨some 9, none, .bin .and (.t 6) (.t 8)⟩,
    ⟨some 0, none, .mov (.t 9)⟩]
    [0, 3])))
def RC.mask_Ticks : RFn := ⟨1, [.slot 2],
  (.seq (.region [⟨some 2, none, .mov (.c (.slice none 0 0))⟩]
    [0])
  (.seq (.region [⟨some 3, none, .mov (.c (.slice none 0 0))⟩]
    [0, 3])
  (.seq (.block 0
    (.loop [0, 3] RB.mask_Ticks_1) [3])
  (.seq (.region [⟨some 15, none, .mov (.t 3)⟩,
    ⟨some 2, none, .mov (.t 15)⟩]
    [2])
  .ret))))⟩

def RB.ref16_place_1 : RCode :=
  (.seq (.seq (.region [⟨some 72, none, .mov (.t 8)⟩,
    ⟨some 73, none, .bin .lss (.t 72) (.c (.int .i64 64))⟩]
    [2, 3, 7, 8, 73])
  (.cond (.t 73)
    .skip
    (.exit 2)))
  (.seq (.block 3
    (.seq (.region [⟨some 76, none, .load true 4 (.t 3)⟩,
      ⟨some 77, none, .mov (.t 8)⟩,
      ⟨some 78, none, .call F.ref16_At [.t 76, .c (.int .i64 (-1)), .t 77]⟩,
      ⟨some 9, none, .mov (.t 78)⟩]
      [2, 3, 7, 8, 9])
    (.seq (.seq (.region [⟨some 79, none, .mov (.t 9)⟩,
      ⟨some 80, none, .bin .gtr (.t 79) (.c (.int .i64 1))⟩,
      ⟨some 81, none, .mov (.t 80)⟩,
      ⟨some 82, some (81, false), .mov (.t 9)⟩,
      ⟨some 83, some (81, false), .bin .gtr (.t 82) (.c (.int .i64 0))⟩,
      ⟨some 84, some (81, false), .mov (.t 83)⟩,
      ⟨some 85, some (84, true), .mov (.t 8)⟩,
      ⟨some 86, some (84, true), .fieldAddr 0 (.t 2)⟩,
      ⟨some 87, some (84, true), .load false 1 (.t 86)⟩,
      ⟨some 88, some (84, true), .bin .geq (.t 85) (.t 87)⟩,
      ⟨some 89, some (81, false), .pick (.t 84) (.t 88) (.c (.bool false))⟩,
      ⟨some 90, none, .pick (.t 81) (.c (.bool true)) (.t 89)⟩]
      [2, 3, 7, 8, 9, 90])
    (.cond (.t 90)
      (.seq (.region [⟨some 4, none, .mov (.c (.bool false))⟩]
        [4])
      .ret)
      .skip))
    (.region [⟨some 91, none, .mov (.t 7)⟩,
      ⟨some 92, none, .mov (.t 9)⟩,
      ⟨some 93, none, .bin .add (.t 91) (.t 92)⟩,
      ⟨some 7, none, .mov (.t 93)⟩]
      [2, 3, 7, 8]))) [2, 3, 7, 8])
  (.region [⟨some 74, none, .mov (.t 8)⟩,
    ⟨some 75, none, .bin .add (.t 74) (.c (.int .i64 1))⟩,
    ⟨some 8, none, .mov (.t 75)⟩]
    [2, 3, 7, 8])))
def RB.ref16_place_2 : RCode :=
  (.seq (.seq (.region [⟨some 34, none, .mov (.t 5)⟩,
    ⟨some 35, none, .fieldAddr 3 (.t 3)⟩,
    ⟨some 36, none, .load false 1 (.t 35)⟩,
    ⟨some 37, none, .len (.t 36)⟩,
    ⟨some 38, none, .bin .lss (.t 34) (.t 37)⟩]
    [2, 3, 5, 38])
  (.cond (.t 38)
    .skip
    (.exit 0)))
  (.seq (.block 1
    (.seq (.region [⟨some 41, none, .fieldAddr 3 (.t 3)⟩,
      ⟨some 42, none, .load false 1 (.t 41)⟩,
      ⟨some 43, none, .mov (.t 5)⟩,
      ⟨some 44, none, .idxS 2 (.t 42) (.t 43)⟩,
      ⟨some 45, none, .load true 2 (.t 44)⟩,
      ⟨some 6, none, .alloc [(.int .i64 0), (u64 0#64)]⟩,
      ⟨none, none, .store 2 (.t 6) (.t 45)⟩]
      [2, 3, 5, 6])
    (.seq (.drawn [⟨some 46, none, .load true 3 (.t 2)⟩,
      ⟨some 47, none, .fieldAddr 0 (.t 6)⟩,
      ⟨some 48, none, .load false 1 (.t 47)⟩,
      ⟨some 49, none, .call F.ref16_Has [.t 46, .t 48]⟩,
      ⟨some 50, none, .un .not (.t 49)⟩,
      ⟨some 51, none, .mov (.t 50)⟩,
      ⟨some 52, some (51, false), .mov (.t 5)⟩,
      ⟨some 53, some (51, false), .bin .gtr (.t 52) (.c (.int .i64 0))⟩,
      ⟨some 54, some (51, false), .mov (.t 53)⟩,
      ⟨some 55, some (54, true), .fieldAddr 0 (.t 6)⟩,
      ⟨some 56, some (54, true), .load false 1 (.t 55)⟩,
      ⟨some 57, some (54, true), .fieldAddr 3 (.t 3)⟩,
      ⟨some 58, some (54, true), .load false 1 (.t 57)⟩,
      ⟨some 59, some (54, true), .mov (.t 5)⟩,
      ⟨some 60, some (54, true), .bin .sub (.t 59) (.c (.int .i64 1))⟩,
      ⟨some 61, some (54, true), .idxS 2 (.t 58) (.t 60)⟩,
      ⟨some 62, some (54, true), .fieldAddr 0 (.t 61)⟩,
      ⟨some 63, some (54, true), .load false 1 (.t 62)⟩,
      ⟨some 64, some (54, true), .bin .leq (.t 56) (.t 63)⟩,
      ⟨some 65, some (51, false), .pick (.t 54) (.t 64) (.c (.bool false))⟩,
      ⟨some 66, none, .pick (.t 51) (.c (.bool true)) (.t 65)⟩,
      ⟨some 67, none, .mov (.t 66)⟩,
      ⟨some 68, some (67, false), .fieldAddr 1 (.t 6)⟩,
      ⟨some 69, some (67, false), .load false 1 (.t 68)⟩,
      ⟨some 70, some (67, false), .bin .eql (.t 69) (.c (u64 0#64))⟩,
      ⟨some 71, none, .pick (.t 67) (.c (.bool true)) (.t 70)⟩]
      [[], [], [1], [0, 2], [3], [4, 3], [5], [6, 5], [7, 5, 5], [8], [9, 8], [8], [11, 8], [8], [13, 8], [12, 14, 8], [15, 8], [16, 8], [10, 17, 8], [8, 18, 5], [5, 19], [20, 8], [21], [22, 21], [23, 21], [21, 24]]
      [(1, []), (0, []), (2, []), (3, []), (4, []), (5, []), (6, []), (7, []), (8, []), (9, []), (11, []), (13, []), (14, []), (10, []), (12, []), (15, []), (16, []), (17, []), (18, []), (19, []), (20, []), (21, []), (22, []), (23, []), (24, []), (25, [])]
      [[], [], [1], [0, 1, 2], [0, 1, 2, 3], [0, 1, 2, 3, 4], [0, 1, 2, 3, 4, 5], [0, 1, 2, 3, 4, 5, 6], [0, 1, 2, 3, 4, 5, 6, 7], [0, 1, 2, 3, 4, 5, 6, 7, 8], [0, 1, 2, 3, 4, 5, 6, 7, 8, 9], [0, 1, 2, 3, 4, 5, 6, 7, 8], [0, 1, 2, 3, 4, 5, 6, 7, 8, 11], [0, 1, 2, 3, 4, 5, 6, 7, 8], [0, 1, 2, 3, 4, 5, 6, 7, 8, 13], [0, 1, 2, 3, 4, 5, 6, 7, 8, 11, 12, 13, 14], [0, 1, 2, 3, 4, 5, 6, 7, 8, 11, 12, 13, 14, 15], [0, 1, 2, 3, 4, 5, 6, 7, 8, 11, 12, 13, 14, 15, 16], [0, 1, 2, 3, 4, 5, 6, 7, 8, 9, 10, 11, 12, 13, 14, 15, 16, 17], [0, 1, 2, 3, 4, 5, 6, 7, 8, 9, 10, 11, 12, 13, 14, 15, 16, 17, 18], [0, 1, 2, 3, 4, 5, 6, 7, 8, 9, 10, 11, 12, 13, 14, 15, 16, 17, 18, 19], [0, 1, 2, 3, 4, 5, 6, 7, 8, 9, 10, 11, 12, 13, 14, 15, 16, 17, 18, 19, 20], [0, 1, 2, 3, 4, 5, 6, 7, 8, 9, 10, 11, 12, 13, 14, 15, 16, 17, 18, 19, 20, 21], [0, 1, 2, 3, 4, 5, 6, 7, 8, 9, 10, 11, 12, 13, 14, 15, 16, 17, 18, 19, 20, 21, 22], [0, 1, 2, 3, 4, 5, 6, 7, 8, 9, 10, 11, 12, 13, 14, 15, 16, 17, 18, 19, 20, 21, 22, 23], [0, 1, 2, 3, 4, 5, 6, 7, 8, 9, 10, 11, 12, 13, 14, 15, 16, 17, 18, 19, 20, 21, 22, 23, 24]]
      [2, 3, 5, 71])
    (.cond (.t 71)
      (.seq (.region [⟨some 4, none, .mov (.c (.bool false))⟩]
        [4])
      .ret)
      .skip))) [2, 3, 5])
  (.region [⟨some 39, none, .mov (.t 5)⟩,
    ⟨some 40, none, .bin .add (.t 39) (.c (.int .i64 1))⟩,
    ⟨some 5, none, .mov (.t 40)⟩]
    [2, 3, 5])))
def RC.ref16_place : RFn := ⟨2, [.slot 4],
  (.seq (.region [⟨some 2, none, .box (.t 0)⟩,
    ⟨some 3, none, .box (.t 1)⟩,
    ⟨some 4, none, .mov (.c (.bool false))⟩]
    [2, 3])
  (.seq (.seq (.region [⟨some 10, none, .fieldAddr 0 (.t 3)⟩,
    ⟨some 11, none, .load false 1 (.t 10)⟩,
    ⟨some 12, none, .call F.ref08_Is [.t 11]⟩,
    ⟨some 13, none, .un .not (.t 12)⟩,
    ⟨some 14, none, .mov (.t 13)⟩,
    ⟨some 15, some (14, false), .fieldAddr 1 (.t 3)⟩,
    ⟨some 16, some (14, false), .load false 1 (.t 15)⟩,
    ⟨some 17, some (14, false), .bin .lss (.t 16) (.c (.int .i64 1))⟩,
    ⟨some 18, none, .pick (.t 14) (.c (.bool true)) (.t 17)⟩,
    ⟨some 19, none, .mov (.t 18)⟩,
    ⟨some 20, some (19, false), .fieldAddr 1 (.t 3)⟩,
    ⟨some 21, some (19, false), .load false 1 (.t 20)⟩,
    ⟨some 22, some (19, false), .fieldAddr 0 (.t 2)⟩,
    ⟨some 23, some (19, false), .load false 1 (.t 22)⟩,
    ⟨some 24, some (19, false), .bin .gtr (.t 21) (.t 23)⟩,
    ⟨some 25, none, .pick (.t 19) (.c (.bool true)) (.t 24)⟩]
    [2, 3, 25])
  (.cond (.t 25)
    (.seq (.region [⟨some 4, none, .mov (.c (.bool false))⟩]
      [4])
    .ret)
    .skip))
  (.seq (.seq (.region [⟨some 26, none, .fieldAddr 3 (.t 3)⟩,
    ⟨some 27, none, .load false 1 (.t 26)⟩,
    ⟨some 28, none, .len (.t 27)⟩,
    ⟨some 29, none, .bin .eql (.t 28) (.c (.int .i64 0))⟩]
    [2, 3, 29])
  (.cond (.t 29)
    (.seq (.region [⟨some 30, none, .load true 3 (.t 2)⟩,
      ⟨some 31, none, .fieldAddr 2 (.t 3)⟩,
      ⟨some 32, none, .load false 1 (.t 31)⟩,
      ⟨some 33, none, .call F.ref16_Has [.t 30, .t 32]⟩,
      ⟨some 4, none, .mov (.t 33)⟩]
      [4])
    .ret)
    .skip))
  (.seq (.seq (.region [⟨some 5, none, .mov (.c (.int .i64 0))⟩]
    [2, 3, 5])
  (.block 0
    (.loop [2, 3, 5] RB.ref16_place_2) [2, 3]))
  (.seq (.region [⟨some 7, none, .mov (.c (.int .i64 0))⟩]
    [2, 3, 7])
  (.seq (.seq (.region [⟨some 8, none, .mov (.c (.int .i64 0))⟩]
    [2, 3, 7, 8])
  (.block 2
    (.loop [2, 3, 7, 8] RB.ref16_place_1) [3, 7]))
  (.seq (.region [⟨some 94, none, .fieldAddr 3 (.t 3)⟩,
    ⟨some 95, none, .load false 1 (.t 94)⟩,
    ⟨some 96, none, .len (.t 95)⟩,
    ⟨some 97, none, .bin .geq (.t 96) (.c (.int .i64 2))⟩,
    ⟨some 98, none, .mov (.t 97)⟩,
    ⟨some 99, some (98, true), .fieldAddr 2 (.t 3)⟩,
    ⟨some 100, some (98, true), .load false 1 (.t 99)⟩,
    ⟨some 101, some (98, true), .bin .eql (.t 100) (.c (.int .i64 0))⟩,
    ⟨some 102, none, .pick (.t 98) (.t 101) (.c (.bool false))⟩,
    ⟨some 103, none, .mov (.t 102)⟩,
    ⟨some 104, some (103, true), .mov (.t 7)⟩,
    ⟨some 105, some (103, true), .fieldAddr 1 (.t 3)⟩,
    ⟨some 106, some (103, true), .load false 1 (.t 105)⟩,
    ⟨some 107, some (103, true), .bin .eql (.t 104) (.t 106)⟩,
    ⟨some 108, none, .pick (.t 103) (.t 107) (.c (.bool false))⟩,
    ⟨some 4, none, .mov (.t 108)⟩]
    [4])
  .ret)))))))⟩

def RB.ref16_apart_1 : RCode :=
  (.seq (.seq (.region [⟨some 15, none, .mov (.t 6)⟩,
    ⟨some 16, none, .fieldAddr 2 (.t 1)⟩,
    ⟨some 17, none, .load false 1 (.t 16)⟩,
    ⟨some 18, none, .len (.t 17)⟩,
    ⟨some 19, none, .bin .lss (.t 15) (.t 18)⟩]
    [1, 3, 4, 5, 6, 19])
  (.cond (.t 19)
    .skip
    (.exit 4)))
  (.seq (.block 5
    (.region [⟨some 22, none, .mov (.t 5)⟩,
      ⟨some 23, none, .fieldAddr 2 (.t 1)⟩,
      ⟨some 24, none, .load false 1 (.t 23)⟩,
      ⟨some 25, none, .mov (.t 6)⟩,
      ⟨some 26, none, .idxS 4 (.t 24) (.t 25)⟩,
      ⟨some 27, none, .load true 4 (.t 26)⟩,
      ⟨some 28, none, .mov (.t 3)⟩,
      ⟨some 29, none, .mov (.t 4)⟩,
      ⟨some 30, none, .call F.ref16_At [.t 27, .t 28, .t 29]⟩,
      ⟨some 31, none, .bin .add (.t 22) (.t 30)⟩,
      ⟨some 5, none, .mov (.t 31)⟩]
      [1, 3, 4, 5, 6]) [1, 3, 4, 5, 6])
  (.region [⟨some 20, none, .mov (.t 6)⟩,
    ⟨some 21, none, .bin .add (.t 20) (.c (.int .i64 1))⟩,
    ⟨some 6, none, .mov (.t 21)⟩]
    [1, 3, 4, 5, 6])))
def RB.ref16_apart_2 : RCode :=
  (.seq (.seq (.region [⟨some 11, none, .mov (.t 4)⟩,
    ⟨some 12, none, .bin .lss (.t 11) (.c (.int .i64 64))⟩]
    [1, 3, 4, 12])
  (.cond (.t 12)
    .skip
    (.exit 2)))
  (.seq (.block 3
    (.seq (.region [⟨some 5, none, .mov (.c (.int .i64 0))⟩]
      [1, 3, 4, 5])
    (.seq (.seq (.region [⟨some 6, none, .mov (.c (.int .i64 0))⟩]
      [1, 3, 4, 5, 6])
    (.block 4
      (.loop [1, 3, 4, 5, 6] RB.ref16_apart_1) [1, 3, 4, 5]))
    (.seq (.region [⟨some 32, none, .mov (.t 5)⟩,
      ⟨some 33, none, .bin .gtr (.t 32) (.c (.int .i64 1))⟩]
      [1, 3, 4, 33])
    (.cond (.t 33)
      (.seq (.region [⟨some 2, none, .mov (.c (.bool false))⟩]
        [2])
      .ret)
      .skip)))) [1, 3, 4])
  (.region [⟨some 13, none, .mov (.t 4)⟩,
    ⟨some 14, none, .bin .add (.t 13) (.c (.int .i64 1))⟩,
    ⟨some 4, none, .mov (.t 14)⟩]
    [1, 3, 4])))
def RB.ref16_apart_3 : RCode :=
  (.seq (.seq (.region [⟨some 7, none, .mov (.t 3)⟩,
    ⟨some 8, none, .bin .lss (.t 7) (.c (.int .i64 16))⟩]
    [1, 3, 8])
  (.cond (.t 8)
    .skip
    (.exit 0)))
  (.seq (.block 1
    (.seq (.region [⟨some 4, none, .mov (.c (.int .i64 0))⟩]
      [1, 3, 4])
    (.block 2
      (.loop [1, 3, 4] RB.ref16_apart_2) [1, 3])) [1, 3])
  (.region [⟨some 9, none, .mov (.t 3)⟩,
    ⟨some 10, none, .bin .add (.t 9) (.c (.int .i64 1))⟩,
    ⟨some 3, none, .mov (.t 10)⟩]
    [1, 3])))
def RC.ref16_apart : RFn := ⟨1, [.slot 2],
  (.seq (.region [⟨some 1, none, .box (.t 0)⟩,
    ⟨some 2, none, .mov (.c (.bool false))⟩]
    [1])
  (.seq (.seq (.region [⟨some 3, none, .mov (.c (.int .i64 0))⟩]
    [1, 3])
  (.block 0
    (.loop [1, 3] RB.ref16_apart_3) []))
  (.seq (.region [⟨some 2, none, .mov (.c (.bool true))⟩]
    [2])
  .ret)))⟩

def RB.ref16_Splits_1 : RCode :=
  (.seq (.seq (.region [⟨some 5, none, .mov (.t 4)⟩,
    ⟨some 6, none, .fieldAddr 2 (.t 1)⟩,
    ⟨some 7, none, .load false 1 (.t 6)⟩,
    ⟨some 8, none, .len (.t 7)⟩,
    ⟨some 9, none, .bin .lss (.t 5) (.t 8)⟩]
    [1, 3, 4, 9])
  (.cond (.t 9)
    .skip
    (.exit 0)))
  (.seq (.block 1
    (.seq (.region [⟨some 12, none, .fieldAddr 2 (.t 1)⟩,
      ⟨some 13, none, .load false 1 (.t 12)⟩,
      ⟨some 14, none, .mov (.t 4)⟩,
      ⟨some 15, none, .idxS 4 (.t 13) (.t 14)⟩,
      ⟨some 16, none, .fieldAddr 3 (.t 15)⟩,
      ⟨some 17, none, .load false 1 (.t 16)⟩,
      ⟨some 18, none, .len (.t 17)⟩,
      ⟨some 19, none, .bin .gtr (.t 18) (.c (.int .i64 0))⟩]
      [1, 3, 4, 19])
    (.cond (.t 19)
      (.region [⟨some 20, none, .mov (.t 3)⟩,
        ⟨some 21, none, .bin .add (.t 20) (.c (.int .i64 1))⟩,
        ⟨some 3, none, .mov (.t 21)⟩]
        [1, 3, 4])
      .skip)) [1, 3, 4])
  (.region [⟨some 10, none, .mov (.t 4)⟩,
    ⟨some 11, none, .bin .add (.t 10) (.c (.int .i64 1))⟩,
    ⟨some 4, none, .mov (.t 11)⟩]
    [1, 3, 4])))
def RC.ref16_Splits : RFn := ⟨1, [.slot 2],
  (.seq (.region [⟨some 1, none, .box (.t 0)⟩,
    ⟨some 2, none, .mov (.c (.int .i64 0))⟩]
    [1])
  (.seq (.region [⟨some 3, none, .mov (.c (.int .i64 0))⟩]
    [1, 3])
  (.seq (.seq (.region [⟨some 4, none, .mov (.c (.int .i64 0))⟩]
    [1, 3, 4])
  (.block 0
    (.loop [1, 3, 4] RB.ref16_Splits_1) [3]))
  (.seq (.region [⟨some 22, none, .mov (.t 3)⟩,
    ⟨some 2, none, .mov (.t 22)⟩]
    [2])
  .ret))))⟩

def RB.ref16_Cores_1 : RCode :=
  (.seq (.seq (.region [⟨some 6, none, .mov (.t 4)⟩,
    ⟨some 7, none, .bin .lss (.t 6) (.c (.int .i64 16))⟩]
    [1, 3, 4, 7])
  (.cond (.t 7)
    .skip
    (.exit 0)))
  (.seq (.block 1
    (.seq (.region [⟨some 10, none, .load true 3 (.t 1)⟩,
      ⟨some 11, none, .mov (.t 4)⟩,
      ⟨some 12, none, .call F.ref16_Has [.t 10, .t 11]⟩]
      [1, 3, 4, 12])
    (.cond (.t 12)
      (.region [⟨some 13, none, .mov (.t 3)⟩,
        ⟨some 14, none, .mov (.t 4)⟩,
        ⟨some 15, none, .bslice [(.int .i64 0)] [(0, 1, .t 14)] 1 1⟩,
        ⟨some 16, none, .app 1 8 (.t 13) (.t 15)⟩,
        ⟨some 3, none, .mov (.t 16)⟩]
        [1, 3, 4])
      .skip)) [1, 3, 4])
  (.region [⟨some 8, none, .mov (.t 4)⟩,
    ⟨some 9, none, .bin .add (.t 8) (.c (.int .i64 1))⟩,
    ⟨some 4, none, .mov (.t 9)⟩]
    [1, 3, 4])))
def RC.ref16_Cores : RFn := ⟨1, [.slot 2],
  (.seq (.region [⟨some 1, none, .box (.t 0)⟩,
    ⟨some 2, none, .mov (.c (.slice none 0 0))⟩]
    [1])
  (.seq (.region [⟨some 5, none, .bslice [] [] 0 1⟩,
    ⟨some 3, none, .mov (.t 5)⟩]
    [1, 3])
  (.seq (.seq (.region [⟨some 4, none, .mov (.c (.int .i64 0))⟩]
    [1, 3, 4])
  (.block 0
    (.loop [1, 3, 4] RB.ref16_Cores_1) [3]))
  (.seq (.region [⟨some 17, none, .mov (.t 3)⟩,
    ⟨some 2, none, .mov (.t 17)⟩]
    [2])
  .ret))))⟩

def RB.ref16_Load_1 : RCode :=
  (.seq (.seq (.region [⟨some 15, none, .mov (.t 7)⟩,
    ⟨some 16, none, .mov (.t 6)⟩,
    ⟨some 17, none, .len (.t 16)⟩,
    ⟨some 18, none, .bin .lss (.t 15) (.t 17)⟩]
    [5, 6, 7, 18])
  (.cond (.t 18)
    .skip
    (.exit 0)))
  (.seq (.block 1
    (.region [⟨some 21, none, .mov (.t 5)⟩,
      ⟨some 22, none, .mov (.t 6)⟩,
      ⟨some 23, none, .mov (.t 7)⟩,
      ⟨some 24, none, .idxS 2 (.t 22) (.t 23)⟩,
      ⟨some 25, none, .fieldAddr 1 (.t 24)⟩,
      ⟨some 26, none, .load false 1 (.t 25)⟩,
      ⟨some 27, none, .bin .add (.t 21) (.t 26)⟩,
      ⟨some 5, none, .mov (.t 27)⟩]
      [5, 6, 7]) [5, 6, 7])
  (.region [⟨some 19, none, .mov (.t 7)⟩,
    ⟨some 20, none, .bin .add (.t 19) (.c (.int .i64 1))⟩,
    ⟨some 7, none, .mov (.t 20)⟩]
    [5, 6, 7])))
def RC.ref16_Load : RFn := ⟨2, [.slot 4],
  (.seq (.region [⟨some 2, none, .box (.t 0)⟩,
    ⟨some 4, none, .mov (.c (.int .i64 0))⟩]
    [1, 2])
  (.seq (.region [⟨some 8, none, .load true 3 (.t 2)⟩,
    ⟨some 9, none, .mov (.t 1)⟩,
    ⟨some 10, none, .call F.ref16_Windows [.t 8, .t 9]⟩,
    ⟨some 11, none, .call F.ref04_Count [.t 10]⟩,
    ⟨some 5, none, .mov (.t 11)⟩]
    [1, 2, 5])
  (.seq (.region [⟨some 12, none, .load true 3 (.t 2)⟩,
    ⟨some 13, none, .mov (.t 1)⟩,
    ⟨some 14, none, .call F.ref16_Wholes [.t 12, .t 13]⟩,
    ⟨some 6, none, .mov (.t 14)⟩]
    [5, 6])
  (.seq (.seq (.region [⟨some 7, none, .mov (.c (.int .i64 0))⟩]
    [5, 6, 7])
  (.block 0
    (.loop [5, 6, 7] RB.ref16_Load_1) [5]))
  (.seq (.region [⟨some 28, none, .mov (.t 5)⟩,
    ⟨some 4, none, .mov (.t 28)⟩]
    [4])
  .ret)))))⟩

def RB.ref16_Wholes_1 : RCode :=
  (.seq (.seq (.region [⟨some 9, none, .mov (.t 6)⟩,
    ⟨some 10, none, .fieldAddr 2 (.t 2)⟩,
    ⟨some 11, none, .load false 1 (.t 10)⟩,
    ⟨some 12, none, .len (.t 11)⟩,
    ⟨some 13, none, .bin .lss (.t 9) (.t 12)⟩]
    [1, 2, 5, 6, 13])
  (.cond (.t 13)
    .skip
    (.exit 0)))
  (.seq (.block 1
    (.seq (.region [⟨some 16, none, .fieldAddr 2 (.t 2)⟩,
      ⟨some 17, none, .load false 1 (.t 16)⟩,
      ⟨some 18, none, .mov (.t 6)⟩,
      ⟨some 19, none, .idxS 4 (.t 17) (.t 18)⟩,
      ⟨some 20, none, .load true 4 (.t 19)⟩,
      ⟨some 7, none, .alloc [(.int .i64 0), (.int .i64 0), (.int .i64 0), (.slice none 0 0)]⟩,
      ⟨none, none, .store 4 (.t 7) (.t 20)⟩]
      [1, 2, 5, 6, 7])
    (.seq (.region [⟨some 21, none, .fieldAddr 3 (.t 7)⟩,
      ⟨some 22, none, .load false 1 (.t 21)⟩,
      ⟨some 23, none, .len (.t 22)⟩,
      ⟨some 24, none, .bin .eql (.t 23) (.c (.int .i64 0))⟩,
      ⟨some 25, none, .mov (.t 24)⟩,
      ⟨some 26, some (25, true), .fieldAddr 2 (.t 7)⟩,
      ⟨some 27, some (25, true), .load false 1 (.t 26)⟩,
      ⟨some 28, some (25, true), .mov (.t 1)⟩,
      ⟨some 29, some (25, true), .bin .eql (.t 27) (.t 28)⟩,
      ⟨some 30, none, .pick (.t 25) (.t 29) (.c (.bool false))⟩]
      [1, 2, 5, 6, 7, 30])
    (.cond (.t 30)
      (.region [⟨some 31, none, .mov (.t 5)⟩,
        ⟨some 32, none, .fieldAddr 0 (.t 7)⟩,
        ⟨some 33, none, .load false 1 (.t 32)⟩,
        ⟨some 34, none, .fieldAddr 1 (.t 7)⟩,
        ⟨some 35, none, .load false 1 (.t 34)⟩,
        ⟨some 36, none, .build [(.int .i64 0), (.int .i64 0)] [(0, 1, .t 33), (1, 1, .t 35)]⟩,
        ⟨some 37, none, .bslice [(.int .i64 0), (.int .i64 0)] [(0, 2, .t 36)] 1 2⟩,
        ⟨some 38, none, .app 2 16 (.t 31) (.t 37)⟩,
        ⟨some 5, none, .mov (.t 38)⟩]
        [1, 2, 5, 6])
      .skip))) [1, 2, 5, 6])
  (.region [⟨some 14, none, .mov (.t 6)⟩,
    ⟨some 15, none, .bin .add (.t 14) (.c (.int .i64 1))⟩,
    ⟨some 6, none, .mov (.t 15)⟩]
    [1, 2, 5, 6])))
def RC.ref16_Wholes : RFn := ⟨2, [.slot 4],
  (.seq (.region [⟨some 2, none, .box (.t 0)⟩,
    ⟨some 4, none, .mov (.c (.slice none 0 0))⟩]
    [1, 2])
  (.seq (.region [⟨some 8, none, .bslice [] [] 0 2⟩,
    ⟨some 5, none, .mov (.t 8)⟩]
    [1, 2, 5])
  (.seq (.seq (.region [⟨some 6, none, .mov (.c (.int .i64 0))⟩]
    [1, 2, 5, 6])
  (.block 0
    (.loop [1, 2, 5, 6] RB.ref16_Wholes_1) [5]))
  (.seq (.region [⟨some 39, none, .mov (.t 5)⟩,
    ⟨some 4, none, .mov (.t 39)⟩]
    [4])
  .ret))))⟩

def RB.ref16_At_1 : RCode :=
  (.seq (.seq (.region [⟨some 9, none, .mov (.t 8)⟩,
    ⟨some 10, none, .fieldAddr 3 (.t 3)⟩,
    ⟨some 11, none, .load false 1 (.t 10)⟩,
    ⟨some 12, none, .len (.t 11)⟩,
    ⟨some 13, none, .bin .lss (.t 9) (.t 12)⟩]
    [1, 2, 3, 7, 8, 13])
  (.cond (.t 13)
    .skip
    (.exit 0)))
  (.seq (.block 1
    (.seq (.region [⟨some 16, none, .mov (.t 1)⟩,
      ⟨some 17, none, .bin .lss (.t 16) (.c (.int .i64 0))⟩,
      ⟨some 18, none, .mov (.t 17)⟩,
      ⟨some 19, some (18, false), .fieldAddr 3 (.t 3)⟩,
      ⟨some 20, some (18, false), .load false 1 (.t 19)⟩,
      ⟨some 21, some (18, false), .mov (.t 8)⟩,
      ⟨some 22, some (18, false), .idxS 2 (.t 20) (.t 21)⟩,
      ⟨some 23, some (18, false), .fieldAddr 0 (.t 22)⟩,
      ⟨some 24, some (18, false), .load false 1 (.t 23)⟩,
      ⟨some 25, some (18, false), .mov (.t 1)⟩,
      ⟨some 26, some (18, false), .bin .eql (.t 24) (.t 25)⟩,
      ⟨some 27, none, .pick (.t 18) (.c (.bool true)) (.t 26)⟩,
      ⟨some 28, none, .mov (.t 27)⟩,
      ⟨some 29, some (28, true), .fieldAddr 3 (.t 3)⟩,
      ⟨some 30, some (28, true), .load false 1 (.t 29)⟩,
      ⟨some 31, some (28, true), .mov (.t 8)⟩,
      ⟨some 32, some (28, true), .idxS 2 (.t 30) (.t 31)⟩,
      ⟨some 33, some (28, true), .fieldAddr 1 (.t 32)⟩,
      ⟨some 34, some (28, true), .load false 1 (.t 33)⟩,
      ⟨some 35, some (28, true), .mov (.t 2)⟩,
      ⟨some 36, some (28, true), .call F.ref04_Has [.t 34, .t 35]⟩,
      ⟨some 37, none, .pick (.t 28) (.t 36) (.c (.bool false))⟩]
      [1, 2, 3, 7, 8, 37])
    (.cond (.t 37)
      (.region [⟨some 38, none, .mov (.t 7)⟩,
        ⟨some 39, none, .bin .add (.t 38) (.c (.int .i64 1))⟩,
        ⟨some 7, none, .mov (.t 39)⟩]
        [1, 2, 3, 7, 8])
      .skip)) [1, 2, 3, 7, 8])
  (.region [⟨some 14, none, .mov (.t 8)⟩,
    ⟨some 15, none, .bin .add (.t 14) (.c (.int .i64 1))⟩,
    ⟨some 8, none, .mov (.t 15)⟩]
    [1, 2, 3, 7, 8])))
def RC.ref16_At : RFn := ⟨3, [.slot 6],
  (.seq (.region [⟨some 3, none, .box (.t 0)⟩,
    ⟨some 6, none, .mov (.c (.int .i64 0))⟩]
    [1, 2, 3])
  (.seq (.region [⟨some 7, none, .mov (.c (.int .i64 0))⟩]
    [1, 2, 3, 7])
  (.seq (.seq (.region [⟨some 8, none, .mov (.c (.int .i64 0))⟩]
    [1, 2, 3, 7, 8])
  (.block 0
    (.loop [1, 2, 3, 7, 8] RB.ref16_At_1) [7]))
  (.seq (.region [⟨some 40, none, .mov (.t 7)⟩,
    ⟨some 6, none, .mov (.t 40)⟩]
    [6])
  .ret))))⟩

def RB.table_count_int_1 : RCode :=
  (.seq (.region [⟨some 11, none, .bin .lss (.t 10) (.t 9)⟩]
    [1, 5, 8, 9, 10, 11])
  (.seq (.cond (.t 11)
    .skip
    (.exit 0))
  (.seq (.block 1
    (.seq (.region [⟨some 12, none, .idxS 1 (.t 8) (.t 10)⟩,
      ⟨some 13, none, .load false 1 (.t 12)⟩,
      ⟨some 7, none, .mov (.t 13)⟩]
      [1, 5, 7, 8, 9, 10])
    (.seq (.region [⟨some 14, none, .mov (.t 7)⟩,
      ⟨some 15, none, .mov (.t 1)⟩,
      ⟨some 16, none, .bin .eql (.t 14) (.t 15)⟩]
      [1, 5, 8, 9, 10, 16])
    (.cond (.t 16)
      (.region [⟨some 17, none, .mov (.t 5)⟩,
        ⟨some 18, none, .bin .add (.t 17) (.c (.int .i64 1))⟩,
        ⟨some 5, none, .mov (.t 18)⟩]
        [1, 5, 8, 9, 10])
      .skip))) [1, 5, 8, 9, 10])
  (.region [⟨some 19, none, .bin .add (.t 10) (.c (.int .i64 1))⟩,
    ⟨some 10, none, .mov (.t 19)⟩]
    [1, 5, 8, 9, 10]))))
def RC.table_count_int : RFn := ⟨2, [.slot 4],
  (.seq (.region [⟨some 4, none, .mov (.c (.int .i64 0))⟩]
    [0, 1])
  (.seq (.region [⟨some 5, none, .mov (.c (.int .i64 0))⟩]
    [0, 1, 5])
  (.seq (.seq (.region [⟨some 8, none, .mov (.t 0)⟩,
    ⟨some 9, none, .len (.t 8)⟩,
    ⟨some 10, none, .mov (.c (.int .i64 0))⟩]
    [1, 5, 8, 9, 10])
  (.block 0
    (.loop [1, 5, 8, 9, 10] RB.table_count_int_1) [5]))
  (.seq (.region [⟨some 20, none, .mov (.t 5)⟩,
    ⟨some 4, none, .mov (.t 20)⟩]
    [4])
  .ret))))⟩

def RC.plan_place : RFn := ⟨2, [.slot 4],
  (.seq (.region [⟨some 2, none, .box (.t 0)⟩,
    ⟨some 3, none, .box (.t 1)⟩,
    ⟨some 4, none, .mov (.c (.bool false))⟩]
    [2, 3])
  (.seq (.seq (.region [⟨some 9, none, .fieldAddr 0 (.t 3)⟩,
    ⟨some 10, none, .load false 1 (.t 9)⟩,
    ⟨some 11, none, .call F.order_Kind [.t 10]⟩,
    ⟨some 8, none, .mov (.t 11)⟩,
    ⟨some 12, none, .ext 0 (.t 8)⟩,
    ⟨some 13, none, .ext 1 (.t 8)⟩,
    ⟨some 14, none, .ext 2 (.t 8)⟩,
    ⟨some 5, none, .mov (.t 12)⟩,
    ⟨some 6, none, .mov (.t 13)⟩,
    ⟨some 7, none, .mov (.t 14)⟩]
    [2, 3, 7])
  (.seq (.region [⟨some 15, none, .mov (.t 7)⟩,
    ⟨some 16, none, .un .not (.t 15)⟩,
    ⟨some 17, none, .mov (.t 16)⟩,
    ⟨some 18, some (17, false), .fieldAddr 1 (.t 3)⟩,
    ⟨some 19, some (17, false), .load false 1 (.t 18)⟩,
    ⟨some 20, some (17, false), .bin .lss (.t 19) (.c (.int .i64 1))⟩,
    ⟨some 21, none, .pick (.t 17) (.c (.bool true)) (.t 20)⟩,
    ⟨some 22, none, .mov (.t 21)⟩,
    ⟨some 23, some (22, false), .fieldAddr 1 (.t 3)⟩,
    ⟨some 24, some (22, false), .load false 1 (.t 23)⟩,
    ⟨some 25, some (22, false), .fieldAddr 0 (.t 2)⟩,
    ⟨some 26, some (22, false), .load false 1 (.t 25)⟩,
    ⟨some 27, some (22, false), .bin .gtr (.t 24) (.t 26)⟩,
    ⟨some 28, none, .pick (.t 22) (.c (.bool true)) (.t 27)⟩]
    [2, 3, 28])
  (.cond (.t 28)
    (.seq (.region [⟨some 4, none, .mov (.c (.bool false))⟩]
      [4])
    .ret)
    .skip)))
  (.seq (.seq (.region [⟨some 29, none, .load true 4 (.t 3)⟩,
    ⟨some 30, none, .call F.plan_split [.t 29]⟩]
    [2, 3, 30])
  (.cond (.t 30)
    (.seq (.region [⟨some 31, none, .load true 3 (.t 2)⟩,
      ⟨some 32, none, .load true 4 (.t 3)⟩,
      ⟨some 33, none, .call F.plan_pieces [.t 31, .t 32]⟩,
      ⟨some 4, none, .mov (.t 33)⟩]
      [4])
    .ret)
    .skip))
  (.seq (.region [⟨some 34, none, .load true 3 (.t 2)⟩,
    ⟨some 35, none, .fieldAddr 2 (.t 3)⟩,
    ⟨some 36, none, .load false 1 (.t 35)⟩,
    ⟨some 37, none, .call F.plan_has [.t 34, .t 36]⟩,
    ⟨some 4, none, .mov (.t 37)⟩]
    [4])
  .ret))))⟩

def RB.plan_apart_1 : RCode :=
  (.seq (.region [⟨some 19, none, .bin .lss (.t 18) (.t 17)⟩]
    [3, 9, 10, 11, 16, 17, 18, 19])
  (.seq (.cond (.t 19)
    .skip
    (.exit 2))
  (.seq (.block 3
    (.seq (.region [⟨some 20, none, .idxS 2 (.t 16) (.t 18)⟩,
      ⟨some 21, none, .load true 2 (.t 20)⟩,
      ⟨some 7, none, .alloc [(.int .i64 0), (u64 0#64)]⟩,
      ⟨none, none, .store 2 (.t 7) (.t 21)⟩]
      [3, 7, 9, 10, 11, 16, 17, 18])
    (.seq (.seq (.drawn [⟨some 22, none, .fieldAddr 0 (.t 7)⟩,
      ⟨some 23, none, .load false 1 (.t 22)⟩,
      ⟨some 24, none, .idxP 16 1 (.t 3) (.t 23)⟩,
      ⟨some 25, none, .load false 1 (.t 24)⟩,
      ⟨some 26, none, .fieldAddr 1 (.t 7)⟩,
      ⟨some 27, none, .load false 1 (.t 26)⟩,
      ⟨some 28, none, .bin .and (.t 25) (.t 27)⟩,
      ⟨some 29, none, .bin .neq (.t 28) (.c (u64 0#64))⟩]
      [[], [0], [1], [2], [], [4], [3, 5], [6]]
      [(0, []), (4, []), (1, []), (2, []), (3, []), (5, []), (6, []), (7, [])]
      [[], [0], [0, 1], [0, 1, 2], [], [4], [0, 1, 2, 3, 4, 5], [0, 1, 2, 3, 4, 5, 6]]
      [3, 7, 9, 10, 11, 16, 17, 18, 29])
    (.cond (.t 29)
      (.seq (.region [⟨some 2, none, .mov (.c (.bool false))⟩]
        [2])
      .ret)
      .skip))
    (.drawn [⟨some 30, none, .fieldAddr 0 (.t 7)⟩,
      ⟨some 31, none, .load false 1 (.t 30)⟩,
      ⟨some 32, none, .idxP 16 1 (.t 3) (.t 31)⟩,
      ⟨some 33, none, .load false 1 (.t 32)⟩,
      ⟨some 34, none, .fieldAddr 1 (.t 7)⟩,
      ⟨some 35, none, .load false 1 (.t 34)⟩,
      ⟨some 36, none, .bin .or (.t 33) (.t 35)⟩,
      ⟨some 37, none, .idxP 16 1 (.t 3) (.t 31)⟩,
      ⟨none, none, .store 1 (.t 37) (.t 36)⟩]
      [[], [0], [1], [2], [], [4], [3, 5], [1, 0, 1, 2, 3, 4, 5, 6], [7, 6, 0, 1, 2, 3, 4, 5, 6]]
      [(0, []), (4, []), (1, []), (2, []), (3, []), (5, []), (6, []), (7, []), (8, [])]
      [[], [0], [0, 1], [0, 1, 2], [], [4], [0, 1, 2, 3, 4, 5], [0, 1, 2, 3, 4, 5, 6], [0, 1, 2, 3, 4, 5, 6, 7]]
      [3, 9, 10, 11, 16, 17, 18]))) [3, 9, 10, 11, 16, 17, 18])
  (.region [⟨some 38, none, .bin .add (.t 18) (.c (.int .i64 1))⟩,
    ⟨some 18, none, .mov (.t 38)⟩]
    [3, 9, 10, 11, 16, 17, 18]))))
def RB.plan_apart_2 : RCode :=
  (.seq (.region [⟨some 12, none, .bin .lss (.t 11) (.t 10)⟩]
    [3, 9, 10, 11, 12])
  (.seq (.cond (.t 12)
    .skip
    (.exit 0))
  (.seq (.block 1
    (.seq (.region [⟨some 13, none, .idxS 4 (.t 9) (.t 11)⟩,
      ⟨some 14, none, .load true 4 (.t 13)⟩,
      ⟨some 5, none, .alloc [(.int .i64 0), (.int .i64 0), (.int .i64 0), (.slice none 0 0)]⟩,
      ⟨none, none, .store 4 (.t 5) (.t 14)⟩]
      [3, 5, 9, 10, 11])
    (.seq (.region [⟨some 15, none, .fieldAddr 3 (.t 5)⟩,
      ⟨some 16, none, .load false 1 (.t 15)⟩,
      ⟨some 17, none, .len (.t 16)⟩,
      ⟨some 18, none, .mov (.c (.int .i64 0))⟩]
      [3, 9, 10, 11, 16, 17, 18])
    (.block 2
      (.loop [3, 9, 10, 11, 16, 17, 18] RB.plan_apart_1) [3, 9, 10, 11]))) [3, 9, 10, 11])
  (.region [⟨some 39, none, .bin .add (.t 11) (.c (.int .i64 1))⟩,
    ⟨some 11, none, .mov (.t 39)⟩]
    [3, 9, 10, 11]))))
def RC.plan_apart : RFn := ⟨1, [.slot 2],
  (.seq (.region [⟨some 1, none, .box (.t 0)⟩,
    ⟨some 2, none, .mov (.c (.bool false))⟩]
    [1])
  (.seq (.region [⟨some 3, none, .alloc [(u64 0#64), (u64 0#64), (u64 0#64), (u64 0#64), (u64 0#64), (u64 0#64), (u64 0#64), (u64 0#64), (u64 0#64), (u64 0#64), (u64 0#64), (u64 0#64), (u64 0#64), (u64 0#64), (u64 0#64), (u64 0#64)]⟩]
    [1, 3])
  (.seq (.seq (.region [⟨some 8, none, .fieldAddr 2 (.t 1)⟩,
    ⟨some 9, none, .load false 1 (.t 8)⟩,
    ⟨some 10, none, .len (.t 9)⟩,
    ⟨some 11, none, .mov (.c (.int .i64 0))⟩]
    [3, 9, 10, 11])
  (.block 0
    (.loop [3, 9, 10, 11] RB.plan_apart_2) []))
  (.seq (.region [⟨some 2, none, .mov (.c (.bool true))⟩]
    [2])
  .ret))))⟩

def RB.plan_Splits_1 : RCode :=
  (.seq (.region [⟨some 10, none, .bin .lss (.t 9) (.t 8)⟩]
    [3, 7, 8, 9, 10])
  (.seq (.cond (.t 10)
    .skip
    (.exit 0))
  (.seq (.block 1
    (.seq (.region [⟨some 11, none, .idxS 4 (.t 7) (.t 9)⟩,
      ⟨some 12, none, .load true 4 (.t 11)⟩,
      ⟨some 5, none, .alloc [(.int .i64 0), (.int .i64 0), (.int .i64 0), (.slice none 0 0)]⟩,
      ⟨none, none, .store 4 (.t 5) (.t 12)⟩]
      [3, 5, 7, 8, 9])
    (.seq (.region [⟨some 13, none, .load true 4 (.t 5)⟩,
      ⟨some 14, none, .call F.plan_split [.t 13]⟩]
      [3, 7, 8, 9, 14])
    (.cond (.t 14)
      (.region [⟨some 15, none, .mov (.t 3)⟩,
        ⟨some 16, none, .bin .add (.t 15) (.c (.int .i64 1))⟩,
        ⟨some 3, none, .mov (.t 16)⟩]
        [3, 7, 8, 9])
      .skip))) [3, 7, 8, 9])
  (.region [⟨some 17, none, .bin .add (.t 9) (.c (.int .i64 1))⟩,
    ⟨some 9, none, .mov (.t 17)⟩]
    [3, 7, 8, 9]))))
def RC.plan_Splits : RFn := ⟨1, [.slot 2],
  (.seq (.region [⟨some 1, none, .box (.t 0)⟩,
    ⟨some 2, none, .mov (.c (.int .i64 0))⟩]
    [1])
  (.seq (.region [⟨some 3, none, .mov (.c (.int .i64 0))⟩]
    [1, 3])
  (.seq (.seq (.region [⟨some 6, none, .fieldAddr 2 (.t 1)⟩,
    ⟨some 7, none, .load false 1 (.t 6)⟩,
    ⟨some 8, none, .len (.t 7)⟩,
    ⟨some 9, none, .mov (.c (.int .i64 0))⟩]
    [3, 7, 8, 9])
  (.block 0
    (.loop [3, 7, 8, 9] RB.plan_Splits_1) [3]))
  (.seq (.region [⟨some 18, none, .mov (.t 3)⟩,
    ⟨some 2, none, .mov (.t 18)⟩]
    [2])
  .ret))))⟩

def RB.plan_left_1 : RCode :=
  (.seq (.region [⟨some 20, none, .bin .lss (.t 19) (.t 18)⟩]
    [5, 17, 18, 19, 20])
  (.seq (.cond (.t 20)
    .skip
    (.exit 0))
  (.seq (.block 1
    (.seq (.region [⟨some 21, none, .idxS 2 (.t 17) (.t 19)⟩,
      ⟨some 22, none, .load true 2 (.t 21)⟩,
      ⟨some 7, none, .alloc [(.int .i64 0), (.int .i64 0)]⟩,
      ⟨none, none, .store 2 (.t 7) (.t 22)⟩]
      [5, 7, 17, 18, 19])
    (.region [⟨some 23, none, .mov (.t 5)⟩,
      ⟨some 24, none, .fieldAddr 1 (.t 7)⟩,
      ⟨some 25, none, .load false 1 (.t 24)⟩,
      ⟨some 26, none, .bin .sub (.t 23) (.t 25)⟩,
      ⟨some 5, none, .mov (.t 26)⟩]
      [5, 17, 18, 19])) [5, 17, 18, 19])
  (.region [⟨some 27, none, .bin .add (.t 19) (.c (.int .i64 1))⟩,
    ⟨some 19, none, .mov (.t 27)⟩]
    [5, 17, 18, 19]))))
def RC.plan_left : RFn := ⟨2, [.slot 4],
  (.seq (.region [⟨some 2, none, .box (.t 0)⟩,
    ⟨some 4, none, .mov (.c (.int .i64 0))⟩]
    [1, 2])
  (.seq (.drawn [⟨some 8, none, .fieldAddr 0 (.t 2)⟩,
    ⟨some 9, none, .load false 1 (.t 8)⟩,
    ⟨some 10, none, .load true 3 (.t 2)⟩,
    ⟨some 11, none, .mov (.t 1)⟩,
    ⟨some 12, none, .call F.plan_Windows [.t 10, .t 11]⟩,
    ⟨some 13, none, .call F.mask_Count [.t 12]⟩,
    ⟨some 14, none, .bin .sub (.t 9) (.t 13)⟩,
    ⟨some 5, none, .mov (.t 14)⟩]
    [[], [0], [], [], [2, 3], [4, 4], [1, 5], [6, 5, 0, 1, 2, 3, 4, 5, 6]]
    [(0, []), (3, []), (1, []), (2, []), (4, [8]), (5, [8]), (6, []), (7, [])]
    [[], [0], [], [], [2, 3], [2, 3, 4], [0, 1, 2, 3, 4, 5], [0, 1, 2, 3, 4, 5, 6]]
    [1, 2, 5])
  (.seq (.seq (.region [⟨some 15, none, .load true 3 (.t 2)⟩,
    ⟨some 16, none, .mov (.t 1)⟩,
    ⟨some 17, none, .call F.plan_Wholes [.t 15, .t 16]⟩,
    ⟨some 18, none, .len (.t 17)⟩,
    ⟨some 19, none, .mov (.c (.int .i64 0))⟩]
    [5, 17, 18, 19])
  (.block 0
    (.loop [5, 17, 18, 19] RB.plan_left_1) [5]))
  (.seq (.region [⟨some 28, none, .mov (.t 5)⟩,
    ⟨some 4, none, .mov (.t 28)⟩]
    [4])
  .ret))))⟩

def RC.plan_has : RFn := ⟨2, [.slot 4],
  (.seq (.region [⟨some 2, none, .box (.t 0)⟩,
    ⟨some 4, none, .mov (.c (.bool false))⟩]
    [1, 2])
  (.seq (.region [⟨some 5, none, .mov (.t 1)⟩,
    ⟨some 6, none, .bin .geq (.t 5) (.c (.int .i64 0))⟩,
    ⟨some 7, none, .mov (.t 6)⟩,
    ⟨some 8, some (7, true), .mov (.t 1)⟩,
    ⟨some 9, some (7, true), .bin .lss (.t 8) (.c (.int .i64 16))⟩,
    ⟨some 10, none, .pick (.t 7) (.t 9) (.c (.bool false))⟩,
    ⟨some 11, none, .mov (.t 10)⟩,
    ⟨some 12, some (11, true), .fieldAddr 1 (.t 2)⟩,
    ⟨some 13, some (11, true), .load false 1 (.t 12)⟩,
    ⟨some 14, some (11, true), .mov (.t 1)⟩,
    ⟨some 15, some (11, true), .bin .shr (.t 13) (.t 14)⟩,
    ⟨some 16, some (11, true), .bin .and (.t 15) (.c (u32 1#32))⟩,
    ⟨some 17, some (11, true), .bin .eql (.t 16) (.c (u32 1#32))⟩,
    ⟨some 18, none, .pick (.t 11) (.t 17) (.c (.bool false))⟩,
    ⟨some 4, none, .mov (.t 18)⟩]
    [4])
  .ret))⟩

def RC.plan_split : RFn := ⟨1, [.slot 2],
  (.seq (.region [⟨some 1, none, .box (.t 0)⟩,
    ⟨some 2, none, .mov (.c (.bool false))⟩]
    [1])
  (.seq (.region [⟨some 3, none, .fieldAddr 3 (.t 1)⟩,
    ⟨some 4, none, .load false 1 (.t 3)⟩,
    ⟨some 5, none, .len (.t 4)⟩,
    ⟨some 6, none, .bin .gtr (.t 5) (.c (.int .i64 0))⟩,
    ⟨some 2, none, .mov (.t 6)⟩]
    [2])
  .ret))⟩

def RC.ref08_Is : RFn := ⟨1, [.slot 2],
  (.seq (.region [⟨some 2, none, .mov (.c (.bool false))⟩]
    [0])
  (.seq (.region [⟨some 3, none, .mov (.t 0)⟩,
    ⟨some 4, none, .bin .geq (.t 3) (.c (.int .i64 1))⟩,
    ⟨some 5, none, .mov (.t 4)⟩,
    ⟨some 6, some (5, true), .mov (.t 0)⟩,
    ⟨some 7, some (5, true), .bin .leq (.t 6) (.c (.int .i64 200))⟩,
    ⟨some 8, none, .pick (.t 5) (.t 7) (.c (.bool false))⟩,
    ⟨some 9, none, .mov (.t 8)⟩,
    ⟨some 10, some (9, false), .mov (.t 0)⟩,
    ⟨some 11, some (9, false), .bin .geq (.t 10) (.c (.int .i64 1001))⟩,
    ⟨some 12, some (9, false), .mov (.t 11)⟩,
    ⟨some 13, some (12, true), .mov (.t 0)⟩,
    ⟨some 14, some (12, true), .bin .leq (.t 13) (.c (.int .i64 1040))⟩,
    ⟨some 15, some (9, false), .pick (.t 12) (.t 14) (.c (.bool false))⟩,
    ⟨some 16, none, .pick (.t 9) (.c (.bool true)) (.t 15)⟩,
    ⟨some 2, none, .mov (.t 16)⟩]
    [2])
  .ret))⟩

def RC.ref16_Has : RFn := ⟨2, [.slot 4],
  (.seq (.region [⟨some 2, none, .box (.t 0)⟩,
    ⟨some 4, none, .mov (.c (.bool false))⟩]
    [1, 2])
  (.seq (.region [⟨some 5, none, .mov (.t 1)⟩,
    ⟨some 6, none, .bin .geq (.t 5) (.c (.int .i64 0))⟩,
    ⟨some 7, none, .mov (.t 6)⟩,
    ⟨some 8, some (7, true), .mov (.t 1)⟩,
    ⟨some 9, some (7, true), .bin .leq (.t 8) (.c (.int .i64 15))⟩,
    ⟨some 10, none, .pick (.t 7) (.t 9) (.c (.bool false))⟩,
    ⟨some 11, none, .mov (.t 10)⟩,
    ⟨some 12, some (11, true), .fieldAddr 1 (.t 2)⟩,
    ⟨some 13, some (11, true), .load false 1 (.t 12)⟩,
    ⟨some 14, some (11, true), .conv .u64 (.t 13)⟩,
    ⟨some 15, some (11, true), .mov (.t 1)⟩,
    ⟨some 16, some (11, true), .call F.ref04_Has [.t 14, .t 15]⟩,
    ⟨some 17, none, .pick (.t 11) (.t 16) (.c (.bool false))⟩,
    ⟨some 4, none, .mov (.t 17)⟩]
    [4])
  .ret))⟩

def RC.ref04_Count : RFn := ⟨1, [.slot 2],
  (.seq (.region [⟨some 2, none, .mov (.c (.int .i64 0))⟩]
    [0])
  (.seq (.region [⟨some 3, none, .mov (.t 0)⟩,
    ⟨some 4, none, .call F.ref04_Ticks [.t 3]⟩,
    ⟨some 5, none, .len (.t 4)⟩,
    ⟨some 2, none, .mov (.t 5)⟩]
    [2])
  .ret))⟩

def RB.ref16_Windows_1 : RCode :=
  (.seq (.seq (.region [⟨some 12, none, .mov (.t 7)⟩,
    ⟨some 13, none, .fieldAddr 2 (.t 2)⟩,
    ⟨some 14, none, .load false 1 (.t 13)⟩,
    ⟨some 15, none, .len (.t 14)⟩,
    ⟨some 16, none, .bin .lss (.t 12) (.t 15)⟩]
    [1, 2, 5, 6, 7, 16])
  (.cond (.t 16)
    .skip
    (.exit 2)))
  (.seq (.block 3
    (.seq (.region [⟨some 19, none, .fieldAddr 2 (.t 2)⟩,
      ⟨some 20, none, .load false 1 (.t 19)⟩,
      ⟨some 21, none, .mov (.t 7)⟩,
      ⟨some 22, none, .idxS 4 (.t 20) (.t 21)⟩,
      ⟨some 23, none, .load true 4 (.t 22)⟩,
      ⟨some 24, none, .mov (.t 1)⟩,
      ⟨some 25, none, .mov (.t 6)⟩,
      ⟨some 26, none, .call F.ref16_At [.t 23, .t 24, .t 25]⟩,
      ⟨some 27, none, .bin .gtr (.t 26) (.c (.int .i64 0))⟩]
      [1, 2, 5, 6, 7, 27])
    (.cond (.t 27)
      (.region [⟨some 28, none, .mov (.t 5)⟩,
        ⟨some 29, none, .mov (.t 6)⟩,
        ⟨some 30, none, .call F.ref04_With [.t 28, .t 29]⟩,
        ⟨some 5, none, .mov (.t 30)⟩]
        [1, 2, 5, 6, 7])
      .skip)) [1, 2, 5, 6, 7])
  (.region [⟨some 17, none, .mov (.t 7)⟩,
    ⟨some 18, none, .bin .add (.t 17) (.c (.int .i64 1))⟩,
    ⟨some 7, none, .mov (.t 18)⟩]
    [1, 2, 5, 6, 7])))
def RB.ref16_Windows_2 : RCode :=
  (.seq (.seq (.region [⟨some 8, none, .mov (.t 6)⟩,
    ⟨some 9, none, .bin .lss (.t 8) (.c (.int .i64 64))⟩]
    [1, 2, 5, 6, 9])
  (.cond (.t 9)
    .skip
    (.exit 0)))
  (.seq (.block 1
    (.seq (.region [⟨some 7, none, .mov (.c (.int .i64 0))⟩]
      [1, 2, 5, 6, 7])
    (.block 2
      (.loop [1, 2, 5, 6, 7] RB.ref16_Windows_1) [1, 2, 5, 6])) [1, 2, 5, 6])
  (.region [⟨some 10, none, .mov (.t 6)⟩,
    ⟨some 11, none, .bin .add (.t 10) (.c (.int .i64 1))⟩,
    ⟨some 6, none, .mov (.t 11)⟩]
    [1, 2, 5, 6])))
def RC.ref16_Windows : RFn := ⟨2, [.slot 4],
  (.seq (.region [⟨some 2, none, .box (.t 0)⟩,
    ⟨some 4, none, .mov (.c (u64 0#64))⟩]
    [1, 2])
  (.seq (.region [⟨some 5, none, .mov (.c (u64 0#64))⟩]
    [1, 2, 5])
  (.seq (.seq (.region [⟨some 6, none, .mov (.c (.int .i64 0))⟩]
    [1, 2, 5, 6])
  (.block 0
    (.loop [1, 2, 5, 6] RB.ref16_Windows_2) [5]))
  (.seq (.region [⟨some 31, none, .mov (.t 5)⟩,
    ⟨some 4, none, .mov (.t 31)⟩]
    [4])
  .ret))))⟩

def RC.ref04_Has : RFn := ⟨2, [.slot 4],
  (.seq (.region [⟨some 4, none, .mov (.c (.bool false))⟩]
    [0, 1])
  (.seq (.seq (.region [⟨some 5, none, .mov (.t 1)⟩,
    ⟨some 6, none, .bin .lss (.t 5) (.c (.int .i64 0))⟩,
    ⟨some 7, none, .mov (.t 6)⟩,
    ⟨some 8, some (7, false), .mov (.t 1)⟩,
    ⟨some 9, some (7, false), .bin .gtr (.t 8) (.c (.int .i64 63))⟩,
    ⟨some 10, none, .pick (.t 7) (.c (.bool true)) (.t 9)⟩]
    [0, 1, 10])
  (.cond (.t 10)
    (.seq (.region [⟨some 4, none, .mov (.c (.bool false))⟩]
      [4])
    .ret)
    .skip))
  (.seq (.region [⟨some 11, none, .mov (.t 0)⟩,
    ⟨some 12, none, .mov (.t 1)⟩,
    ⟨some 13, none, .conv .u64 (.t 12)⟩,
    ⟨some 14, none, .bin .shr (.t 11) (.t 13)⟩,
    ⟨some 15, none, .bin .rem (.t 14) (.c (u64 2#64))⟩,
    ⟨some 16, none, .bin .eql (.t 15) (.c (u64 1#64))⟩,
    ⟨some 4, none, .mov (.t 16)⟩]
    [4])
  .ret)))⟩

def RC.order_Kind : RFn := ⟨1, [.slot 2, .slot 3, .slot 4],
  (.seq (.region [⟨some 2, none, .mov (.c (.int .i64 0))⟩,
    ⟨some 3, none, .mov (.c (.bool false))⟩,
    ⟨some 4, none, .mov (.c (.bool false))⟩]
    [0])
  (.seq (.block 0
    (.seq (.region [⟨some 6, none, .mov (.t 0)⟩,
      ⟨some 7, none, .bin .geq (.t 6) (.c (.int .i64 1))⟩,
      ⟨some 8, none, .mov (.t 7)⟩,
      ⟨some 9, some (8, true), .mov (.t 0)⟩,
      ⟨some 10, some (8, true), .bin .leq (.t 9) (.c (.int .i64 200))⟩,
      ⟨some 11, none, .pick (.t 8) (.t 10) (.c (.bool false))⟩,
      ⟨some 5, none, .mov (.t 11)⟩]
      [0, 5])
    (.cond (.t 5)
      (.seq (.region [⟨some 12, none, .mov (.t 0)⟩,
        ⟨some 2, none, .mov (.t 12)⟩,
        ⟨some 3, none, .mov (.c (.bool false))⟩,
        ⟨some 4, none, .mov (.c (.bool true))⟩]
        [2, 3, 4])
      .ret)
      (.seq (.region [⟨some 14, none, .mov (.t 0)⟩,
        ⟨some 15, none, .bin .gtr (.t 14) (.c (.int .i64 1000))⟩,
        ⟨some 16, none, .mov (.t 15)⟩,
        ⟨some 17, some (16, true), .mov (.t 0)⟩,
        ⟨some 18, some (16, true), .bin .leq (.t 17) (.c (.int .i64 1040))⟩,
        ⟨some 19, none, .pick (.t 16) (.t 18) (.c (.bool false))⟩,
        ⟨some 13, none, .mov (.t 19)⟩]
        [0, 13])
      (.cond (.t 13)
        (.seq (.region [⟨some 20, none, .mov (.t 0)⟩,
          ⟨some 21, none, .bin .sub (.t 20) (.c (.int .i64 1000))⟩,
          ⟨some 2, none, .mov (.t 21)⟩,
          ⟨some 3, none, .mov (.c (.bool true))⟩,
          ⟨some 4, none, .mov (.c (.bool true))⟩]
          [2, 3, 4])
        .ret)
        .skip)))) [])
  (.seq (.region [⟨some 2, none, .mov (.c (.int .i64 0))⟩,
    ⟨some 3, none, .mov (.c (.bool false))⟩,
    ⟨some 4, none, .mov (.c (.bool false))⟩]
    [2, 3, 4])
  .ret)))⟩

def RB.plan_pieces_1 : RCode :=
  (.seq (.region [⟨some 12, none, .bin .lss (.t 11) (.t 10)⟩]
    [2, 3, 5, 9, 10, 11, 12])
  (.seq (.cond (.t 12)
    .skip
    (.exit 0))
  (.seq (.block 1
    (.seq (.region [⟨some 13, none, .mov (.t 11)⟩,
      ⟨some 14, none, .idxS 2 (.t 9) (.t 11)⟩,
      ⟨some 15, none, .load true 2 (.t 14)⟩,
      ⟨some 7, none, .alloc [(.int .i64 0), (u64 0#64)]⟩,
      ⟨some 6, none, .mov (.t 13)⟩,
      ⟨none, none, .store 2 (.t 7) (.t 15)⟩]
      [2, 3, 5, 6, 7, 9, 10, 11])
    (.seq (.seq (.drawn [⟨some 16, none, .load true 3 (.t 2)⟩,
      ⟨some 17, none, .fieldAddr 0 (.t 7)⟩,
      ⟨some 18, none, .load false 1 (.t 17)⟩,
      ⟨some 19, none, .call F.plan_has [.t 16, .t 18]⟩,
      ⟨some 20, none, .un .not (.t 19)⟩,
      ⟨some 21, none, .mov (.t 20)⟩,
      ⟨some 22, some (21, false), .mov (.t 6)⟩,
      ⟨some 23, some (21, false), .bin .gtr (.t 22) (.c (.int .i64 0))⟩,
      ⟨some 24, some (21, false), .mov (.t 23)⟩,
      ⟨some 25, some (24, true), .fieldAddr 0 (.t 7)⟩,
      ⟨some 26, some (24, true), .load false 1 (.t 25)⟩,
      ⟨some 27, some (24, true), .fieldAddr 3 (.t 3)⟩,
      ⟨some 28, some (24, true), .load false 1 (.t 27)⟩,
      ⟨some 29, some (24, true), .mov (.t 6)⟩,
      ⟨some 30, some (24, true), .bin .sub (.t 29) (.c (.int .i64 1))⟩,
      ⟨some 31, some (24, true), .idxS 2 (.t 28) (.t 30)⟩,
      ⟨some 32, some (24, true), .fieldAddr 0 (.t 31)⟩,
      ⟨some 33, some (24, true), .load false 1 (.t 32)⟩,
      ⟨some 34, some (24, true), .bin .leq (.t 26) (.t 33)⟩,
      ⟨some 35, some (21, false), .pick (.t 24) (.t 34) (.c (.bool false))⟩,
      ⟨some 36, none, .pick (.t 21) (.c (.bool true)) (.t 35)⟩,
      ⟨some 37, none, .mov (.t 36)⟩,
      ⟨some 38, some (37, false), .fieldAddr 1 (.t 7)⟩,
      ⟨some 39, some (37, false), .load false 1 (.t 38)⟩,
      ⟨some 40, some (37, false), .bin .eql (.t 39) (.c (u64 0#64))⟩,
      ⟨some 41, none, .pick (.t 37) (.c (.bool true)) (.t 40)⟩,
      ⟨some 42, none, .mov (.t 41)⟩,
      ⟨some 43, some (42, false), .fieldAddr 1 (.t 7)⟩,
      ⟨some 44, some (42, false), .load false 1 (.t 43)⟩,
      ⟨some 45, some (42, false), .fieldAddr 0 (.t 2)⟩,
      ⟨some 46, some (42, false), .load false 1 (.t 45)⟩,
      ⟨some 47, some (42, false), .call F.mask_All [.t 46]⟩,
      ⟨some 48, some (42, false), .bin .andNot (.t 44) (.t 47)⟩,
      ⟨some 49, some (42, false), .bin .neq (.t 48) (.c (u64 0#64))⟩,
      ⟨some 50, none, .pick (.t 42) (.c (.bool true)) (.t 49)⟩,
      ⟨some 51, none, .mov (.t 50)⟩,
      ⟨some 52, some (51, false), .fieldAddr 1 (.t 7)⟩,
      ⟨some 53, some (51, false), .load false 1 (.t 52)⟩,
      ⟨some 54, some (51, false), .mov (.t 5)⟩,
      ⟨some 55, some (51, false), .bin .and (.t 53) (.t 54)⟩,
      ⟨some 56, some (51, false), .bin .neq (.t 55) (.c (u64 0#64))⟩,
      ⟨some 57, none, .pick (.t 51) (.c (.bool true)) (.t 56)⟩]
      [[], [], [1], [0, 2], [3], [4, 3], [5], [6, 5], [7, 5, 5], [8], [9, 8], [8], [11, 8], [8], [13, 8], [12, 14, 8], [15, 8], [16, 8], [10, 17, 8], [8, 18, 5], [5, 19], [20, 8], [21], [22, 21], [23, 21], [21, 24], [25, 21], [26], [27, 26], [26], [29, 26], [30, 26, 26], [28, 31, 26], [32, 26], [26, 33], [34, 31], [35], [36, 35], [35], [37, 38, 35], [39, 35], [35, 40]]
      [(1, []), (0, []), (2, []), (3, []), (4, []), (5, []), (6, []), (7, []), (8, []), (9, []), (11, []), (13, []), (14, []), (10, []), (12, []), (15, []), (16, []), (17, []), (18, []), (19, []), (20, []), (21, []), (22, []), (23, []), (24, []), (25, []), (26, []), (27, []), (29, []), (28, []), (30, []), (31, [43]), (32, []), (33, []), (34, []), (35, []), (36, []), (38, []), (37, []), (39, []), (40, []), (41, [])]
      [[], [], [1], [0, 1, 2], [0, 1, 2, 3], [0, 1, 2, 3, 4], [0, 1, 2, 3, 4, 5], [0, 1, 2, 3, 4, 5, 6], [0, 1, 2, 3, 4, 5, 6, 7], [0, 1, 2, 3, 4, 5, 6, 7, 8], [0, 1, 2, 3, 4, 5, 6, 7, 8, 9], [0, 1, 2, 3, 4, 5, 6, 7, 8], [0, 1, 2, 3, 4, 5, 6, 7, 8, 11], [0, 1, 2, 3, 4, 5, 6, 7, 8], [0, 1, 2, 3, 4, 5, 6, 7, 8, 13], [0, 1, 2, 3, 4, 5, 6, 7, 8, 11, 12, 13, 14], [0, 1, 2, 3, 4, 5, 6, 7, 8, 11, 12, 13, 14, 15], [0, 1, 2, 3, 4, 5, 6, 7, 8, 11, 12, 13, 14, 15, 16], [0, 1, 2, 3, 4, 5, 6, 7, 8, 9, 10, 11, 12, 13, 14, 15, 16, 17], [0, 1, 2, 3, 4, 5, 6, 7, 8, 9, 10, 11, 12, 13, 14, 15, 16, 17, 18], [0, 1, 2, 3, 4, 5, 6, 7, 8, 9, 10, 11, 12, 13, 14, 15, 16, 17, 18, 19], [0, 1, 2, 3, 4, 5, 6, 7, 8, 9, 10, 11, 12, 13, 14, 15, 16, 17, 18, 19, 20], [0, 1, 2, 3, 4, 5, 6, 7, 8, 9, 10, 11, 12, 13, 14, 15, 16, 17, 18, 19, 20, 21], [0, 1, 2, 3, 4, 5, 6, 7, 8, 9, 10, 11, 12, 13, 14, 15, 16, 17, 18, 19, 20, 21, 22], [0, 1, 2, 3, 4, 5, 6, 7, 8, 9, 10, 11, 12, 13, 14, 15, 16, 17, 18, 19, 20, 21, 22, 23], [0, 1, 2, 3, 4, 5, 6, 7, 8, 9, 10, 11, 12, 13, 14, 15, 16, 17, 18, 19, 20, 21, 22, 23, 24], [0, 1, 2, 3, 4, 5, 6, 7, 8, 9, 10, 11, 12, 13, 14, 15, 16, 17, 18, 19, 20, 21, 22, 23, 24, 25], [0, 1, 2, 3, 4, 5, 6, 7, 8, 9, 10, 11, 12, 13, 14, 15, 16, 17, 18, 19, 20, 21, 22, 23, 24, 25, 26], [0, 1, 2, 3, 4, 5, 6, 7, 8, 9, 10, 11, 12, 13, 14, 15, 16, 17, 18, 19, 20, 21, 22, 23, 24, 25, 26, 27], [0, 1, 2, 3, 4, 5, 6, 7, 8, 9, 10, 11, 12, 13, 14, 15, 16, 17, 18, 19, 20, 21, 22, 23, 24, 25, 26], [0, 1, 2, 3, 4, 5, 6, 7, 8, 9, 10, 11, 12, 13, 14, 15, 16, 17, 18, 19, 20, 21, 22, 23, 24, 25, 26, 29], [0, 1, 2, 3, 4, 5, 6, 7, 8, 9, 10, 11, 12, 13, 14, 15, 16, 17, 18, 19, 20, 21, 22, 23, 24, 25, 26, 29, 30], [0, 1, 2, 3, 4, 5, 6, 7, 8, 9, 10, 11, 12, 13, 14, 15, 16, 17, 18, 19, 20, 21, 22, 23, 24, 25, 26, 27, 28, 29, 30, 31], [0, 1, 2, 3, 4, 5, 6, 7, 8, 9, 10, 11, 12, 13, 14, 15, 16, 17, 18, 19, 20, 21, 22, 23, 24, 25, 26, 27, 28, 29, 30, 31, 32], [0, 1, 2, 3, 4, 5, 6, 7, 8, 9, 10, 11, 12, 13, 14, 15, 16, 17, 18, 19, 20, 21, 22, 23, 24, 25, 26, 27, 28, 29, 30, 31, 32, 33], [0, 1, 2, 3, 4, 5, 6, 7, 8, 9, 10, 11, 12, 13, 14, 15, 16, 17, 18, 19, 20, 21, 22, 23, 24, 25, 26, 27, 28, 29, 30, 31, 32, 33, 34], [0, 1, 2, 3, 4, 5, 6, 7, 8, 9, 10, 11, 12, 13, 14, 15, 16, 17, 18, 19, 20, 21, 22, 23, 24, 25, 26, 27, 28, 29, 30, 31, 32, 33, 34, 35], [0, 1, 2, 3, 4, 5, 6, 7, 8, 9, 10, 11, 12, 13, 14, 15, 16, 17, 18, 19, 20, 21, 22, 23, 24, 25, 26, 27, 28, 29, 30, 31, 32, 33, 34, 35, 36], [0, 1, 2, 3, 4, 5, 6, 7, 8, 9, 10, 11, 12, 13, 14, 15, 16, 17, 18, 19, 20, 21, 22, 23, 24, 25, 26, 27, 28, 29, 30, 31, 32, 33, 34, 35], [0, 1, 2, 3, 4, 5, 6, 7, 8, 9, 10, 11, 12, 13, 14, 15, 16, 17, 18, 19, 20, 21, 22, 23, 24, 25, 26, 27, 28, 29, 30, 31, 32, 33, 34, 35, 36, 37, 38], [0, 1, 2, 3, 4, 5, 6, 7, 8, 9, 10, 11, 12, 13, 14, 15, 16, 17, 18, 19, 20, 21, 22, 23, 24, 25, 26, 27, 28, 29, 30, 31, 32, 33, 34, 35, 36, 37, 38, 39], [0, 1, 2, 3, 4, 5, 6, 7, 8, 9, 10, 11, 12, 13, 14, 15, 16, 17, 18, 19, 20, 21, 22, 23, 24, 25, 26, 27, 28, 29, 30, 31, 32, 33, 34, 35, 36, 37, 38, 39, 40]]
      [2, 3, 5, 7, 9, 10, 11, 57])
    (.cond (.t 57)
      (.seq (.region [⟨some 4, none, .mov (.c (.bool false))⟩]
        [4])
      .ret)
      .skip))
    (.region [⟨some 58, none, .mov (.t 5)⟩,
      ⟨some 59, none, .fieldAddr 1 (.t 7)⟩,
      ⟨some 60, none, .load false 1 (.t 59)⟩,
      ⟨some 61, none, .bin .or (.t 58) (.t 60)⟩,
      ⟨some 5, none, .mov (.t 61)⟩]
      [2, 3, 5, 9, 10, 11]))) [2, 3, 5, 9, 10, 11])
  (.region [⟨some 62, none, .bin .add (.t 11) (.c (.int .i64 1))⟩,
    ⟨some 11, none, .mov (.t 62)⟩]
    [2, 3, 5, 9, 10, 11]))))
def RC.plan_pieces : RFn := ⟨2, [.slot 4],
  (.seq (.region [⟨some 2, none, .box (.t 0)⟩,
    ⟨some 3, none, .box (.t 1)⟩,
    ⟨some 4, none, .mov (.c (.bool false))⟩]
    [2, 3])
  (.seq (.region [⟨some 5, none, .mov (.c (u64 0#64))⟩]
    [2, 3, 5])
  (.seq (.seq (.region [⟨some 8, none, .fieldAddr 3 (.t 3)⟩,
    ⟨some 9, none, .load false 1 (.t 8)⟩,
    ⟨some 10, none, .len (.t 9)⟩,
    ⟨some 11, none, .mov (.c (.int .i64 0))⟩]
    [2, 3, 5, 9, 10, 11])
  (.block 0
    (.loop [2, 3, 5, 9, 10, 11] RB.plan_pieces_1) [3, 5]))
  (.seq (.drawn [⟨some 63, none, .fieldAddr 3 (.t 3)⟩,
    ⟨some 64, none, .load false 1 (.t 63)⟩,
    ⟨some 65, none, .len (.t 64)⟩,
    ⟨some 66, none, .bin .gtr (.t 65) (.c (.int .i64 1))⟩,
    ⟨some 67, none, .mov (.t 66)⟩,
    ⟨some 68, some (67, true), .fieldAddr 2 (.t 3)⟩,
    ⟨some 69, some (67, true), .load false 1 (.t 68)⟩,
    ⟨some 70, some (67, true), .bin .eql (.t 69) (.c (.int .i64 0))⟩,
    ⟨some 71, none, .pick (.t 67) (.t 70) (.c (.bool false))⟩,
    ⟨some 72, none, .mov (.t 71)⟩,
    ⟨some 73, some (72, true), .mov (.t 5)⟩,
    ⟨some 74, some (72, true), .call F.mask_Count [.t 73]⟩,
    ⟨some 75, some (72, true), .fieldAddr 1 (.t 3)⟩,
    ⟨some 76, some (72, true), .load false 1 (.t 75)⟩,
    ⟨some 77, some (72, true), .bin .eql (.t 74) (.t 76)⟩,
    ⟨some 78, none, .pick (.t 72) (.t 77) (.c (.bool false))⟩,
    ⟨some 4, none, .mov (.t 78)⟩]
    [[], [0], [1], [2], [3], [4], [5, 4], [6, 4], [4, 7], [8, 4], [9], [10, 9, 9], [9], [12, 9], [11, 13, 9], [9, 14], [15, 11, 0, 1, 2, 3, 4, 5, 6, 7, 8, 9, 10, 11, 12, 13, 14, 15]]
    [(0, []), (1, []), (2, []), (3, []), (4, []), (5, []), (6, []), (7, []), (8, []), (9, []), (10, []), (12, []), (13, []), (11, [75]), (14, []), (15, []), (16, [])]
    [[], [0], [0, 1], [0, 1, 2], [0, 1, 2, 3], [0, 1, 2, 3, 4], [0, 1, 2, 3, 4, 5], [0, 1, 2, 3, 4, 5, 6], [0, 1, 2, 3, 4, 5, 6, 7], [0, 1, 2, 3, 4, 5, 6, 7, 8], [0, 1, 2, 3, 4, 5, 6, 7, 8, 9], [0, 1, 2, 3, 4, 5, 6, 7, 8, 9, 10], [0, 1, 2, 3, 4, 5, 6, 7, 8, 9], [0, 1, 2, 3, 4, 5, 6, 7, 8, 9, 12], [0, 1, 2, 3, 4, 5, 6, 7, 8, 9, 10, 11, 12, 13], [0, 1, 2, 3, 4, 5, 6, 7, 8, 9, 10, 11, 12, 13, 14], [0, 1, 2, 3, 4, 5, 6, 7, 8, 9, 10, 11, 12, 13, 14, 15]]
    [4])
  .ret))))⟩

def RC.mask_Count : RFn := ⟨1, [.slot 2],
  (.seq (.region [⟨some 2, none, .mov (.c (.int .i64 0))⟩]
    [0])
  (.seq (.region [⟨some 3, none, .mov (.t 0)⟩,
    ⟨some 4, none, .call F.math_bits_OnesCount64 [.t 3]⟩,
    ⟨some 2, none, .mov (.t 4)⟩]
    [2])
  .ret))⟩

def RB.plan_Windows_1 : RCode :=
  (.seq (.region [⟨some 21, none, .bin .lss (.t 20) (.t 19)⟩]
    [1, 5, 11, 12, 13, 18, 19, 20, 21])
  (.seq (.cond (.t 21)
    .skip
    (.exit 2))
  (.seq (.block 3
    (.seq (.region [⟨some 22, none, .idxS 2 (.t 18) (.t 20)⟩,
      ⟨some 23, none, .load true 2 (.t 22)⟩,
      ⟨some 9, none, .alloc [(.int .i64 0), (u64 0#64)]⟩,
      ⟨none, none, .store 2 (.t 9) (.t 23)⟩]
      [1, 5, 9, 11, 12, 13, 18, 19, 20])
    (.seq (.region [⟨some 24, none, .fieldAddr 0 (.t 9)⟩,
      ⟨some 25, none, .load false 1 (.t 24)⟩,
      ⟨some 26, none, .mov (.t 1)⟩,
      ⟨some 27, none, .bin .eql (.t 25) (.t 26)⟩]
      [1, 5, 9, 11, 12, 13, 18, 19, 20, 27])
    (.cond (.t 27)
      (.region [⟨some 28, none, .mov (.t 5)⟩,
        ⟨some 29, none, .fieldAddr 1 (.t 9)⟩,
        ⟨some 30, none, .load false 1 (.t 29)⟩,
        ⟨some 31, none, .bin .or (.t 28) (.t 30)⟩,
        ⟨some 5, none, .mov (.t 31)⟩]
        [1, 5, 11, 12, 13, 18, 19, 20])
      .skip))) [1, 5, 11, 12, 13, 18, 19, 20])
  (.region [⟨some 32, none, .bin .add (.t 20) (.c (.int .i64 1))⟩,
    ⟨some 20, none, .mov (.t 32)⟩]
    [1, 5, 11, 12, 13, 18, 19, 20]))))
def RB.plan_Windows_2 : RCode :=
  (.seq (.region [⟨some 14, none, .bin .lss (.t 13) (.t 12)⟩]
    [1, 5, 11, 12, 13, 14])
  (.seq (.cond (.t 14)
    .skip
    (.exit 0))
  (.seq (.block 1
    (.seq (.region [⟨some 15, none, .idxS 4 (.t 11) (.t 13)⟩,
      ⟨some 16, none, .load true 4 (.t 15)⟩,
      ⟨some 7, none, .alloc [(.int .i64 0), (.int .i64 0), (.int .i64 0), (.slice none 0 0)]⟩,
      ⟨none, none, .store 4 (.t 7) (.t 16)⟩]
      [1, 5, 7, 11, 12, 13])
    (.seq (.region [⟨some 17, none, .fieldAddr 3 (.t 7)⟩,
      ⟨some 18, none, .load false 1 (.t 17)⟩,
      ⟨some 19, none, .len (.t 18)⟩,
      ⟨some 20, none, .mov (.c (.int .i64 0))⟩]
      [1, 5, 11, 12, 13, 18, 19, 20])
    (.block 2
      (.loop [1, 5, 11, 12, 13, 18, 19, 20] RB.plan_Windows_1) [1, 5, 11, 12, 13]))) [1, 5, 11, 12, 13])
  (.region [⟨some 33, none, .bin .add (.t 13) (.c (.int .i64 1))⟩,
    ⟨some 13, none, .mov (.t 33)⟩]
    [1, 5, 11, 12, 13]))))
def RC.plan_Windows : RFn := ⟨2, [.slot 4],
  (.seq (.region [⟨some 2, none, .box (.t 0)⟩,
    ⟨some 4, none, .mov (.c (u64 0#64))⟩]
    [1, 2])
  (.seq (.region [⟨some 5, none, .mov (.c (u64 0#64))⟩]
    [1, 2, 5])
  (.seq (.seq (.region [⟨some 10, none, .fieldAddr 2 (.t 2)⟩,
    ⟨some 11, none, .load false 1 (.t 10)⟩,
    ⟨some 12, none, .len (.t 11)⟩,
    ⟨some 13, none, .mov (.c (.int .i64 0))⟩]
    [1, 5, 11, 12, 13])
  (.block 0
    (.loop [1, 5, 11, 12, 13] RB.plan_Windows_2) [5]))
  (.seq (.region [⟨some 34, none, .mov (.t 5)⟩,
    ⟨some 4, none, .mov (.t 34)⟩]
    [4])
  .ret))))⟩

def RB.ref04_Ticks_1 : RCode :=
  (.seq (.seq (.region [⟨some 6, none, .mov (.t 4)⟩,
    ⟨some 7, none, .bin .lss (.t 6) (.c (.int .i64 64))⟩]
    [0, 3, 4, 7])
  (.cond (.t 7)
    .skip
    (.exit 0)))
  (.seq (.block 1
    (.seq (.region [⟨some 10, none, .mov (.t 0)⟩,
      ⟨some 11, none, .mov (.t 4)⟩,
      ⟨some 12, none, .call F.ref04_Has [.t 10, .t 11]⟩]
      [0, 3, 4, 12])
    (.cond (.t 12)
      (.region [⟨some 13, none, .mov (.t 3)⟩,
        ⟨some 14, none, .mov (.t 4)⟩,
        ⟨some 15, none, .bslice [(.int .i64 0)] [(0, 1, .t 14)] 1 1⟩,
        ⟨some 16, none, .app 1 8 (.t 13) (.t 15)⟩,
        ⟨some 3, none, .mov (.t 16)⟩]
        [0, 3, 4])
      .skip)) [0, 3, 4])
  (.region [⟨some 8, none, .mov (.t 4)⟩,
    ⟨some 9, none, .bin .add (.t 8) (.c (.int .i64 1))⟩,
    ⟨some 4, none, .mov (.t 9)⟩]
    [0, 3, 4])))
def RC.ref04_Ticks : RFn := ⟨1, [.slot 2],
  (.seq (.region [⟨some 2, none, .mov (.c (.slice none 0 0))⟩]
    [0])
  (.seq (.region [⟨some 5, none, .bslice [] [] 0 1⟩,
    ⟨some 3, none, .mov (.t 5)⟩]
    [0, 3])
  (.seq (.seq (.region [⟨some 4, none, .mov (.c (.int .i64 0))⟩]
    [0, 3, 4])
  (.block 0
    (.loop [0, 3, 4] RB.ref04_Ticks_1) [3]))
  (.seq (.region [⟨some 17, none, .mov (.t 3)⟩,
    ⟨some 2, none, .mov (.t 17)⟩]
    [2])
  .ret))))⟩

def RC.ref04_With : RFn := ⟨2, [.slot 4],
  (.seq (.region [⟨some 4, none, .mov (.c (u64 0#64))⟩]
    [0, 1])
  (.seq (.seq (.region [⟨some 5, none, .mov (.t 0)⟩,
    ⟨some 6, none, .mov (.t 1)⟩,
    ⟨some 7, none, .call F.ref04_Has [.t 5, .t 6]⟩,
    ⟨some 8, none, .mov (.t 7)⟩,
    ⟨some 9, some (8, false), .mov (.t 1)⟩,
    ⟨some 10, some (8, false), .bin .lss (.t 9) (.c (.int .i64 0))⟩,
    ⟨some 11, none, .pick (.t 8) (.c (.bool true)) (.t 10)⟩,
    ⟨some 12, none, .mov (.t 11)⟩,
    ⟨some 13, some (12, false), .mov (.t 1)⟩,
    ⟨some 14, some (12, false), .bin .gtr (.t 13) (.c (.int .i64 63))⟩,
    ⟨some 15, none, .pick (.t 12) (.c (.bool true)) (.t 14)⟩]
    [0, 1, 15])
  (.cond (.t 15)
    (.seq (.region [⟨some 16, none, .mov (.t 0)⟩,
      ⟨some 4, none, .mov (.t 16)⟩]
      [4])
    .ret)
    .skip))
  (.seq (.region [⟨some 17, none, .mov (.t 0)⟩,
    ⟨some 18, none, .mov (.t 1)⟩,
    ⟨some 19, none, .conv .u64 (.t 18)⟩,
    ⟨some 20, none, .bin .shl (.c (u64 1#64)) (.t 19)⟩,
    ⟨some 21, none, .bin .add (.t 17) (.t 20)⟩,
    ⟨some 4, none, .mov (.t 21)⟩]
    [4])
  .ret)))⟩

def RC.mask_All : RFn := ⟨1, [.slot 2],
  (.seq (.region [⟨some 2, none, .mov (.c (u64 0#64))⟩]
    [0])
  (.seq (.region [⟨some 3, none, .mov (.t 0)⟩,
    ⟨some 4, none, .call F.mask_frame [.t 3]⟩,
    ⟨some 0, none, .mov (.t 4)⟩]
    [0])
  (.seq (.seq (.region [⟨some 5, none, .mov (.t 0)⟩,
    ⟨some 6, none, .bin .eql (.t 5) (.c (.int .i64 64))⟩]
    [0, 6])
  (.cond (.t 6)
    (.seq (.region [⟨some 2, none, .mov (.c (u64 18446744073709551615#64))⟩]
      [2])
    .ret)
    .skip))
  (.seq (.region [⟨some 7, none, .mov (.t 0)⟩,
    ⟨some 8, none, .bin .shl (.c (u64 1#64)) (.t 7)⟩,
    ⟨some 9, none, .bin .sub (.t 8) (.c (u64 1#64))⟩,
    ⟨some 2, none, .mov (.t 9)⟩]
    [2])
  .ret))))⟩

def RC.math_bits_OnesCount64 : RFn := ⟨1, [.slot 2],
  (.seq (.region [⟨some 2, none, .mov (.c (.int .i64 0))⟩]
    [0])
  (.seq (.region [⟨some 3, none, .mov (.t 0)⟩,
    ⟨some 4, none, .bin .shr (.t 3) (.c (u64 1#64))⟩,
    ⟨some 5, none, .bin .and (.t 4) (.c (u64 6148914691236517205#64))⟩,
    ⟨some 6, none, .mov (.t 0)⟩,
    ⟨some 7, none, .bin .and (.t 6) (.c (u64 6148914691236517205#64))⟩,
    ⟨some 8, none, .bin .add (.t 5) (.t 7)⟩,
    ⟨some 0, none, .mov (.t 8)⟩]
    [0])
  (.seq (.region [⟨some 9, none, .mov (.t 0)⟩,
    ⟨some 10, none, .bin .shr (.t 9) (.c (u64 2#64))⟩,
    ⟨some 11, none, .bin .and (.t 10) (.c (u64 3689348814741910323#64))⟩,
    ⟨some 12, none, .mov (.t 0)⟩,
    ⟨some 13, none, .bin .and (.t 12) (.c (u64 3689348814741910323#64))⟩,
    ⟨some 14, none, .bin .add (.t 11) (.t 13)⟩,
    ⟨some 0, none, .mov (.t 14)⟩]
    [0])
  (.seq (.region [⟨some 15, none, .mov (.t 0)⟩,
    ⟨some 16, none, .bin .shr (.t 15) (.c (u64 4#64))⟩,
    ⟨some 17, none, .mov (.t 0)⟩,
    ⟨some 18, none, .bin .add (.t 16) (.t 17)⟩,
    ⟨some 19, none, .bin .and (.t 18) (.c (u64 1085102592571150095#64))⟩,
    ⟨some 0, none, .mov (.t 19)⟩]
    [0])
  (.seq (.region [⟨some 20, none, .mov (.t 0)⟩,
    ⟨some 21, none, .mov (.t 0)⟩,
    ⟨some 22, none, .bin .shr (.t 21) (.c (u64 8#64))⟩,
    ⟨some 23, none, .bin .add (.t 20) (.t 22)⟩,
    ⟨some 0, none, .mov (.t 23)⟩]
    [0])
  (.seq (.region [⟨some 24, none, .mov (.t 0)⟩,
    ⟨some 25, none, .mov (.t 0)⟩,
    ⟨some 26, none, .bin .shr (.t 25) (.c (u64 16#64))⟩,
    ⟨some 27, none, .bin .add (.t 24) (.t 26)⟩,
    ⟨some 0, none, .mov (.t 27)⟩]
    [0])
  (.seq (.region [⟨some 28, none, .mov (.t 0)⟩,
    ⟨some 29, none, .mov (.t 0)⟩,
    ⟨some 30, none, .bin .shr (.t 29) (.c (u64 32#64))⟩,
    ⟨some 31, none, .bin .add (.t 28) (.t 30)⟩,
    ⟨some 0, none, .mov (.t 31)⟩]
    [0])
  (.seq (.region [⟨some 32, none, .mov (.t 0)⟩,
    ⟨some 33, none, .conv .i64 (.t 32)⟩,
    ⟨some 34, none, .bin .and (.t 33) (.c (.int .i64 127))⟩,
    ⟨some 2, none, .mov (.t 34)⟩]
    [2])
  .ret))))))))⟩

def RC.mask_frame : RFn := ⟨1, [.slot 2],
  (.seq (.region [⟨some 2, none, .mov (.c (.int .i64 0))⟩]
    [0])
  (.seq (.region [⟨some 3, none, .mov (.t 0)⟩,
    ⟨some 4, none, .minmax true [.t 3, .c (.int .i64 0)]⟩,
    ⟨some 5, none, .minmax false [.t 4, .c (.int .i64 64)]⟩,
    ⟨some 2, none, .mov (.t 5)⟩]
    [2])
  .ret))⟩

def tab0 : List (Nat × FEnt) := [(F.law17_TableOf, .rc RC.law17_TableOf),
  (F.law17_TableAt, .rc RC.law17_TableAt),
  (F.law17_TableTwice, .rc RC.law17_TableTwice),
  (F.law16_Light, .rc RC.law16_Light),
  (F.law17_awake, .rc RC.law17_awake),
  (F.table_Of, .rc RC.table_Of),
  (F.ref16_Right, .rc RC.ref16_Right),
  (F.ref17_Of, .rc RC.ref17_Of),
  (F.law17_theirs, .rc RC.law17_theirs),
  (F.table_At, .rc RC.table_At),
  (F.ref17_At, .rc RC.ref17_At),
  (F.table_Busy, .rc RC.table_Busy),
  (F.table_Loose, .rc RC.table_Loose),
  (F.ref17_Same, .rc RC.ref17_Same),
  (F.plan_Check, .rc RC.plan_Check),
  (F.plan_Cores, .rc RC.plan_Cores),
  (F.plan_Wholes, .rc RC.plan_Wholes),
  (F.mask_Ticks, .rc RC.mask_Ticks),
  (F.ref16_place, .rc RC.ref16_place),
  (F.ref16_apart, .rc RC.ref16_apart),
  (F.ref16_Splits, .rc RC.ref16_Splits),
  (F.ref16_Cores, .rc RC.ref16_Cores),
  (F.ref16_Load, .rc RC.ref16_Load),
  (F.ref16_Wholes, .rc RC.ref16_Wholes),
  (F.ref16_At, .rc RC.ref16_At),
  (F.table_count_int, .rc RC.table_count_int),
  (F.plan_place, .rc RC.plan_place),
  (F.plan_apart, .rc RC.plan_apart),
  (F.plan_Splits, .rc RC.plan_Splits),
  (F.plan_left, .rc RC.plan_left),
  (F.plan_has, .rc RC.plan_has),
  (F.plan_split, .rc RC.plan_split),
  (F.ref08_Is, .rc RC.ref08_Is),
  (F.ref16_Has, .rc RC.ref16_Has),
  (F.ref04_Count, .rc RC.ref04_Count),
  (F.ref16_Windows, .rc RC.ref16_Windows),
  (F.ref04_Has, .rc RC.ref04_Has),
  (F.order_Kind, .rc RC.order_Kind),
  (F.plan_pieces, .rc RC.plan_pieces),
  (F.mask_Count, .rc RC.mask_Count),
  (F.plan_Windows, .rc RC.plan_Windows),
  (F.ref04_Ticks, .rc RC.ref04_Ticks),
  (F.ref04_With, .rc RC.ref04_With),
  (F.mask_All, .rc RC.mask_All),
  (F.math_bits_OnesCount64, .rc RC.math_bits_OnesCount64),
  (F.mask_frame, .rc RC.mask_frame),
  (F.math_bits_TrailingZeros64, .ext X.tz)]
/-- What each number stands for. -/
def R0 : Nat → Option FEnt := lookF tab0
/-- The same, with the examples as known. -/
def tab : List (Nat × FEnt) := (F.law17_awake, .ext X.ok) :: tab0
def R : Nat → Option FEnt := lookF tab
theorem R.law17_awake : R F.law17_awake = some (.ext X.ok) := by with_unfolding_all rfl
theorem R.law17_TableOf : R F.law17_TableOf = some (.rc RC.law17_TableOf) := by with_unfolding_all rfl
theorem R.law17_TableAt : R F.law17_TableAt = some (.rc RC.law17_TableAt) := by with_unfolding_all rfl
theorem R.law17_TableTwice : R F.law17_TableTwice = some (.rc RC.law17_TableTwice) := by with_unfolding_all rfl
theorem R.law16_Light : R F.law16_Light = some (.rc RC.law16_Light) := by with_unfolding_all rfl
theorem R.table_Of : R F.table_Of = some (.rc RC.table_Of) := by with_unfolding_all rfl
theorem R.ref16_Right : R F.ref16_Right = some (.rc RC.ref16_Right) := by with_unfolding_all rfl
theorem R.ref17_Of : R F.ref17_Of = some (.rc RC.ref17_Of) := by with_unfolding_all rfl
theorem R.law17_theirs : R F.law17_theirs = some (.rc RC.law17_theirs) := by with_unfolding_all rfl
theorem R.table_At : R F.table_At = some (.rc RC.table_At) := by with_unfolding_all rfl
theorem R.ref17_At : R F.ref17_At = some (.rc RC.ref17_At) := by with_unfolding_all rfl
theorem R.table_Busy : R F.table_Busy = some (.rc RC.table_Busy) := by with_unfolding_all rfl
theorem R.table_Loose : R F.table_Loose = some (.rc RC.table_Loose) := by with_unfolding_all rfl
theorem R.ref17_Same : R F.ref17_Same = some (.rc RC.ref17_Same) := by with_unfolding_all rfl
theorem R.plan_Check : R F.plan_Check = some (.rc RC.plan_Check) := by with_unfolding_all rfl
theorem R.plan_Cores : R F.plan_Cores = some (.rc RC.plan_Cores) := by with_unfolding_all rfl
theorem R.plan_Wholes : R F.plan_Wholes = some (.rc RC.plan_Wholes) := by with_unfolding_all rfl
theorem R.mask_Ticks : R F.mask_Ticks = some (.rc RC.mask_Ticks) := by with_unfolding_all rfl
theorem R.ref16_place : R F.ref16_place = some (.rc RC.ref16_place) := by with_unfolding_all rfl
theorem R.ref16_apart : R F.ref16_apart = some (.rc RC.ref16_apart) := by with_unfolding_all rfl
theorem R.ref16_Splits : R F.ref16_Splits = some (.rc RC.ref16_Splits) := by with_unfolding_all rfl
theorem R.ref16_Cores : R F.ref16_Cores = some (.rc RC.ref16_Cores) := by with_unfolding_all rfl
theorem R.ref16_Load : R F.ref16_Load = some (.rc RC.ref16_Load) := by with_unfolding_all rfl
theorem R.ref16_Wholes : R F.ref16_Wholes = some (.rc RC.ref16_Wholes) := by with_unfolding_all rfl
theorem R.ref16_At : R F.ref16_At = some (.rc RC.ref16_At) := by with_unfolding_all rfl
theorem R.table_count_int : R F.table_count_int = some (.rc RC.table_count_int) := by with_unfolding_all rfl
theorem R.plan_place : R F.plan_place = some (.rc RC.plan_place) := by with_unfolding_all rfl
theorem R.plan_apart : R F.plan_apart = some (.rc RC.plan_apart) := by with_unfolding_all rfl
theorem R.plan_Splits : R F.plan_Splits = some (.rc RC.plan_Splits) := by with_unfolding_all rfl
theorem R.plan_left : R F.plan_left = some (.rc RC.plan_left) := by with_unfolding_all rfl
theorem R.plan_has : R F.plan_has = some (.rc RC.plan_has) := by with_unfolding_all rfl
theorem R.plan_split : R F.plan_split = some (.rc RC.plan_split) := by with_unfolding_all rfl
theorem R.ref08_Is : R F.ref08_Is = some (.rc RC.ref08_Is) := by with_unfolding_all rfl
theorem R.ref16_Has : R F.ref16_Has = some (.rc RC.ref16_Has) := by with_unfolding_all rfl
theorem R.ref04_Count : R F.ref04_Count = some (.rc RC.ref04_Count) := by with_unfolding_all rfl
theorem R.ref16_Windows : R F.ref16_Windows = some (.rc RC.ref16_Windows) := by with_unfolding_all rfl
theorem R.ref04_Has : R F.ref04_Has = some (.rc RC.ref04_Has) := by with_unfolding_all rfl
theorem R.order_Kind : R F.order_Kind = some (.rc RC.order_Kind) := by with_unfolding_all rfl
theorem R.plan_pieces : R F.plan_pieces = some (.rc RC.plan_pieces) := by with_unfolding_all rfl
theorem R.mask_Count : R F.mask_Count = some (.rc RC.mask_Count) := by with_unfolding_all rfl
theorem R.plan_Windows : R F.plan_Windows = some (.rc RC.plan_Windows) := by with_unfolding_all rfl
theorem R.ref04_Ticks : R F.ref04_Ticks = some (.rc RC.ref04_Ticks) := by with_unfolding_all rfl
theorem R.ref04_With : R F.ref04_With = some (.rc RC.ref04_With) := by with_unfolding_all rfl
theorem R.mask_All : R F.mask_All = some (.rc RC.mask_All) := by with_unfolding_all rfl
theorem R.math_bits_OnesCount64 : R F.math_bits_OnesCount64 = some (.rc RC.math_bits_OnesCount64) := by with_unfolding_all rfl
theorem R.mask_frame : R F.mask_frame = some (.rc RC.mask_frame) := by with_unfolding_all rfl
theorem R.math_bits_TrailingZeros64 : R F.math_bits_TrailingZeros64 = some (.ext X.tz) := by with_unfolding_all rfl
end Go.Am


/- math/bits.TrailingZeros64 in this program, by its text; what its table is. -/
namespace Go.Am
open Go.Proofs Go.RowKit Go.ChangeShapes Go.WideShapes

theorem gTab : Tryd.prog.globalNamed "math/bits.deBruijn64tab" = some 0 := by kernel_rfl
theorem gTabType : (Tryd.prog.globals[0]?).map (·.type) = some 94 := by kernel_rfl
theorem cells94 : Tryd.prog.cellsOf 94 = 64 := by kernel_rfl
theorem cells5 : Tryd.prog.cellsOf 5 = 1 := by kernel_rfl

/-- The table in its variable, below the arguments. -/
def G (B0 : Nat) (w : World) : Prop := 0 < B0 ∧ TabAt 0 Lib.deBruijn64tab w

instance : Keeps G := ⟨fun B0 w w' h ⟨a, b⟩ => ⟨a, fun j hj => by rw [h.cell (p := ⟨0, j, none⟩) a]; exact b j hj⟩⟩
instance : Rises G := ⟨fun B0 B w h ⟨a, b⟩ => ⟨by omega, b⟩⟩

theorem tabIs {W : World} (h : laidMetH Tryd.prog Go.Proofs.YtnnebejpegfkbaaDoor.Rows.tableOfRow.laid W) : Lib.TabIs Tryd.prog W "math/bits.deBruijn64tab" .u8 (Lib.deBruijn64tab.map fun (n : Nat) => (n : Int)) :=
  Lib.tabIs_of_head (rest := []) gTab gTabType Tryd.underlying94 Tryd.underlying5 cells5 cells94 h

theorem tz_core (x k idx : Nat) (w : World) (hx0 : ((x : Int) == 0) = false)
    (key : IntKind.u64.wrap (bits BinOp.and IntKind.u64 (x : Int) (IntKind.u64.wrap (-(x : Int))) * 285870213051353865) / 288230376151711744 = (idx : Int))
    (hi : idx < 64) (hk : k < 64) (hcell : w.cell? ⟨0, idx, none⟩ = some (.int .u8 k)) :
    Calls Tryd.prog 46 #[.int .u64 x] w fun e w' => e = .returned (.int .i64 k) ∧ w' = w := by
  go_enter Tryd.func46, Tryd.ntmps46
  go_wp2_with (simp only [key])
  go_ret
  exact ⟨rfl, rfl⟩

theorem tz_zero (w : World) : Calls Tryd.prog 46 #[.int .u64 0] w fun e w' => e = .returned (.int .i64 64) ∧ w' = w := by
  go_enter Tryd.func46, Tryd.ntmps46
  go_wp2
  go_ret
  exact ⟨rfl, rfl⟩

theorem tz_calls (x : Nat) (hx : x < 18446744073709551616) (w : World) (hT : TabAt 0 Lib.deBruijn64tab w) :
    Calls Tryd.prog 46 #[.int .u64 x] w fun e w' => e = .returned (.int .i64 (Lib.ctz 64 x)) ∧ w' = w := by
  by_cases hx0 : x = 0
  · subst hx0
    exact tz_zero w
  · obtain ⟨hlow, hk⟩ := Lib.lowest_bit 64 x hx0 hx
    obtain ⟨hi, htab⟩ := Lib.deBruijn64_at _ hk
    have hcell := hT _ hi
    rw [htab] at hcell
    exact tz_core x _ _ w (by simp; omega) (tz64_key x _ hx hx0 hlow) hi hk hcell

theorem X.tz_frame : ExtFrame X.tz := by
  intro args m v m' k o hk hlt h
  unfold X.tz at h ⊢
  split at h
  · split at h
    · rename_i hc
      cases h
      simp only [if_pos hc]
      exact ⟨trivial, hk, hlt, Nat.le_refl _⟩
    · cases h
  · cases h

theorem X.tz_some {args : List Value} {m : Mem} {v : Value} {m' : Mem} (h : X.tz args m = some (v, m')) : ∃ q : Nat, q < 18446744073709551616 ∧ args = [.int .u64 q] ∧ v = .int .i64 (Lib.ctz 64 q) ∧ m' = m := by
  match args, h with
  | [.int .u64 n], h =>
    simp only [X.tz] at h
    split at h
    · rename_i hc
      cases h
      refine ⟨n.toNat, by omega, ?_, rfl, rfl⟩
      rw [show ((n.toNat : Nat) : Int) = n by omega]
    · cases h

theorem X.tz_sim (args : List Value) (m : Mem) (v : Value) (m' : Mem) (h : X.tz args m = some (v, m')) : SimCall Tryd.prog G 46 args m v m' := by
  intro B0 σ args2 w hg hl hm
  obtain ⟨q, hq, rfl, rfl, rfl⟩ := X.tz_some h
  obtain ⟨y, r, rfl, hy, hr⟩ := hl.cons_inv
  cases hy
  obtain rfl : r = [] := List.eq_nil_of_length_eq_zero hr.1.symm
  refine (tz_calls q hq w hg.2).mono ?_
  rintro _ _ ⟨rfl, rfl⟩
  exact ⟨_, rfl, .pure hm (.int _ _)⟩

/-- A world for the witness: the settled one, the table as its initialiser lays it. -/
noncomputable def laidWorld (os : Os) : World :=
  { World.holding Tryd.prog os ⟨#[], #[], []⟩ with heap := (World.holding Tryd.prog os ⟨#[], #[], []⟩).heap.modify 0 fun
      | .cells _ t frozen => .cells (Lib.deBruijn64tab.map fun (n : Nat) => Value.int .u8 n).toArray t frozen
      | o => o }

theorem laid_G {W : World} (h : laidMetH Tryd.prog Go.Proofs.YtnnebejpegfkbaaDoor.Rows.tableOfRow.laid W) : G W.heap.size W := by
  have cell : ∀ j, j < Lib.deBruijn64tab.length → W.cell? ⟨0, j, none⟩ = some (.int .u8 (Lib.deBruijn64tab.getD j 0 : Nat)) := by
    intro j hj
    have := (tabIs h).cell gTab j (by simpa using hj)
    rw [this]
    congr 2
    simp [List.getD, List.getElem?_eq_getElem hj]
  refine ⟨?_, cell⟩
  have := cell_spot (cell 0 (by decide))
  exact Nat.lt_of_le_of_lt (Nat.zero_le _) this.2
end Go.Am


/- The table of the layer table is as the program has it. Printed by lawgen.py. -/
namespace Go.Am
open Go.Proofs
set_option maxRecDepth 100000

theorem hmix : Tryd.prog.follows .mixedOrders = true := by kernel_rfl
theorem E.law17_TableOf : EntOk Tryd.prog G F.law17_TableOf (.rc RC.law17_TableOf) := ⟨Tryd.f3, by unfold F.law17_TableOf; exact Tryd.func3, by kernel_rfl, by kernel_rfl⟩
theorem E.law17_TableAt : EntOk Tryd.prog G F.law17_TableAt (.rc RC.law17_TableAt) := ⟨Tryd.f4, by unfold F.law17_TableAt; exact Tryd.func4, by kernel_rfl, by kernel_rfl⟩
theorem E.law17_TableTwice : EntOk Tryd.prog G F.law17_TableTwice (.rc RC.law17_TableTwice) := ⟨Tryd.f5, by unfold F.law17_TableTwice; exact Tryd.func5, by kernel_rfl, by kernel_rfl⟩
theorem E.law16_Light : EntOk Tryd.prog G F.law16_Light (.rc RC.law16_Light) := ⟨Tryd.f7, by unfold F.law16_Light; exact Tryd.func7, by kernel_rfl, by kernel_rfl⟩
theorem E.law17_awake : EntOk Tryd.prog G F.law17_awake (.rc RC.law17_awake) := ⟨Tryd.f8, by unfold F.law17_awake; exact Tryd.func8, by kernel_rfl, by kernel_rfl⟩
theorem E.table_Of : EntOk Tryd.prog G F.table_Of (.rc RC.table_Of) := ⟨Tryd.f9, by unfold F.table_Of; exact Tryd.func9, by kernel_rfl, by kernel_rfl⟩
theorem E.ref16_Right : EntOk Tryd.prog G F.ref16_Right (.rc RC.ref16_Right) := ⟨Tryd.f10, by unfold F.ref16_Right; exact Tryd.func10, by kernel_rfl, by kernel_rfl⟩
theorem E.ref17_Of : EntOk Tryd.prog G F.ref17_Of (.rc RC.ref17_Of) := ⟨Tryd.f11, by unfold F.ref17_Of; exact Tryd.func11, by kernel_rfl, by kernel_rfl⟩
theorem E.law17_theirs : EntOk Tryd.prog G F.law17_theirs (.rc RC.law17_theirs) := ⟨Tryd.f12, by unfold F.law17_theirs; exact Tryd.func12, by kernel_rfl, by kernel_rfl⟩
theorem E.table_At : EntOk Tryd.prog G F.table_At (.rc RC.table_At) := ⟨Tryd.f13, by unfold F.table_At; exact Tryd.func13, by kernel_rfl, by kernel_rfl⟩
theorem E.ref17_At : EntOk Tryd.prog G F.ref17_At (.rc RC.ref17_At) := ⟨Tryd.f14, by unfold F.ref17_At; exact Tryd.func14, by kernel_rfl, by kernel_rfl⟩
theorem E.table_Busy : EntOk Tryd.prog G F.table_Busy (.rc RC.table_Busy) := ⟨Tryd.f15, by unfold F.table_Busy; exact Tryd.func15, by kernel_rfl, by kernel_rfl⟩
theorem E.table_Loose : EntOk Tryd.prog G F.table_Loose (.rc RC.table_Loose) := ⟨Tryd.f16, by unfold F.table_Loose; exact Tryd.func16, by kernel_rfl, by kernel_rfl⟩
theorem E.ref17_Same : EntOk Tryd.prog G F.ref17_Same (.rc RC.ref17_Same) := ⟨Tryd.f20, by unfold F.ref17_Same; exact Tryd.func20, by kernel_rfl, by kernel_rfl⟩
theorem E.plan_Check : EntOk Tryd.prog G F.plan_Check (.rc RC.plan_Check) := ⟨Tryd.f21, by unfold F.plan_Check; exact Tryd.func21, by kernel_rfl, by kernel_rfl⟩
theorem E.plan_Cores : EntOk Tryd.prog G F.plan_Cores (.rc RC.plan_Cores) := ⟨Tryd.f22, by unfold F.plan_Cores; exact Tryd.func22, by kernel_rfl, by kernel_rfl⟩
theorem E.plan_Wholes : EntOk Tryd.prog G F.plan_Wholes (.rc RC.plan_Wholes) := ⟨Tryd.f23, by unfold F.plan_Wholes; exact Tryd.func23, by kernel_rfl, by kernel_rfl⟩
theorem E.mask_Ticks : EntOk Tryd.prog G F.mask_Ticks (.rc RC.mask_Ticks) := ⟨Tryd.f24, by unfold F.mask_Ticks; exact Tryd.func24, by kernel_rfl, by kernel_rfl⟩
theorem E.ref16_place : EntOk Tryd.prog G F.ref16_place (.rc RC.ref16_place) := ⟨Tryd.f25, by unfold F.ref16_place; exact Tryd.func25, by kernel_rfl, by kernel_rfl⟩
theorem E.ref16_apart : EntOk Tryd.prog G F.ref16_apart (.rc RC.ref16_apart) := ⟨Tryd.f26, by unfold F.ref16_apart; exact Tryd.func26, by kernel_rfl, by kernel_rfl⟩
theorem E.ref16_Splits : EntOk Tryd.prog G F.ref16_Splits (.rc RC.ref16_Splits) := ⟨Tryd.f27, by unfold F.ref16_Splits; exact Tryd.func27, by kernel_rfl, by kernel_rfl⟩
theorem E.ref16_Cores : EntOk Tryd.prog G F.ref16_Cores (.rc RC.ref16_Cores) := ⟨Tryd.f28, by unfold F.ref16_Cores; exact Tryd.func28, by kernel_rfl, by kernel_rfl⟩
theorem E.ref16_Load : EntOk Tryd.prog G F.ref16_Load (.rc RC.ref16_Load) := ⟨Tryd.f29, by unfold F.ref16_Load; exact Tryd.func29, by kernel_rfl, by kernel_rfl⟩
theorem E.ref16_Wholes : EntOk Tryd.prog G F.ref16_Wholes (.rc RC.ref16_Wholes) := ⟨Tryd.f30, by unfold F.ref16_Wholes; exact Tryd.func30, by kernel_rfl, by kernel_rfl⟩
theorem E.ref16_At : EntOk Tryd.prog G F.ref16_At (.rc RC.ref16_At) := ⟨Tryd.f31, by unfold F.ref16_At; exact Tryd.func31, by kernel_rfl, by kernel_rfl⟩
theorem E.table_count_int : EntOk Tryd.prog G F.table_count_int (.rc RC.table_count_int) := ⟨Tryd.f32, by unfold F.table_count_int; exact Tryd.func32, by kernel_rfl, by kernel_rfl⟩
theorem E.plan_place : EntOk Tryd.prog G F.plan_place (.rc RC.plan_place) := ⟨Tryd.f40, by unfold F.plan_place; exact Tryd.func40, by kernel_rfl, by kernel_rfl⟩
theorem E.plan_apart : EntOk Tryd.prog G F.plan_apart (.rc RC.plan_apart) := ⟨Tryd.f41, by unfold F.plan_apart; exact Tryd.func41, by kernel_rfl, by kernel_rfl⟩
theorem E.plan_Splits : EntOk Tryd.prog G F.plan_Splits (.rc RC.plan_Splits) := ⟨Tryd.f42, by unfold F.plan_Splits; exact Tryd.func42, by kernel_rfl, by kernel_rfl⟩
theorem E.plan_left : EntOk Tryd.prog G F.plan_left (.rc RC.plan_left) := ⟨Tryd.f43, by unfold F.plan_left; exact Tryd.func43, by kernel_rfl, by kernel_rfl⟩
theorem E.plan_has : EntOk Tryd.prog G F.plan_has (.rc RC.plan_has) := ⟨Tryd.f44, by unfold F.plan_has; exact Tryd.func44, by kernel_rfl, by kernel_rfl⟩
theorem E.plan_split : EntOk Tryd.prog G F.plan_split (.rc RC.plan_split) := ⟨Tryd.f45, by unfold F.plan_split; exact Tryd.func45, by kernel_rfl, by kernel_rfl⟩
theorem E.ref08_Is : EntOk Tryd.prog G F.ref08_Is (.rc RC.ref08_Is) := ⟨Tryd.f47, by unfold F.ref08_Is; exact Tryd.func47, by kernel_rfl, by kernel_rfl⟩
theorem E.ref16_Has : EntOk Tryd.prog G F.ref16_Has (.rc RC.ref16_Has) := ⟨Tryd.f48, by unfold F.ref16_Has; exact Tryd.func48, by kernel_rfl, by kernel_rfl⟩
theorem E.ref04_Count : EntOk Tryd.prog G F.ref04_Count (.rc RC.ref04_Count) := ⟨Tryd.f49, by unfold F.ref04_Count; exact Tryd.func49, by kernel_rfl, by kernel_rfl⟩
theorem E.ref16_Windows : EntOk Tryd.prog G F.ref16_Windows (.rc RC.ref16_Windows) := ⟨Tryd.f50, by unfold F.ref16_Windows; exact Tryd.func50, by kernel_rfl, by kernel_rfl⟩
theorem E.ref04_Has : EntOk Tryd.prog G F.ref04_Has (.rc RC.ref04_Has) := ⟨Tryd.f51, by unfold F.ref04_Has; exact Tryd.func51, by kernel_rfl, by kernel_rfl⟩
theorem E.order_Kind : EntOk Tryd.prog G F.order_Kind (.rc RC.order_Kind) := ⟨Tryd.f58, by unfold F.order_Kind; exact Tryd.func58, by kernel_rfl, by kernel_rfl⟩
theorem E.plan_pieces : EntOk Tryd.prog G F.plan_pieces (.rc RC.plan_pieces) := ⟨Tryd.f59, by unfold F.plan_pieces; exact Tryd.func59, by kernel_rfl, by kernel_rfl⟩
theorem E.mask_Count : EntOk Tryd.prog G F.mask_Count (.rc RC.mask_Count) := ⟨Tryd.f60, by unfold F.mask_Count; exact Tryd.func60, by kernel_rfl, by kernel_rfl⟩
theorem E.plan_Windows : EntOk Tryd.prog G F.plan_Windows (.rc RC.plan_Windows) := ⟨Tryd.f61, by unfold F.plan_Windows; exact Tryd.func61, by kernel_rfl, by kernel_rfl⟩
theorem E.ref04_Ticks : EntOk Tryd.prog G F.ref04_Ticks (.rc RC.ref04_Ticks) := ⟨Tryd.f62, by unfold F.ref04_Ticks; exact Tryd.func62, by kernel_rfl, by kernel_rfl⟩
theorem E.ref04_With : EntOk Tryd.prog G F.ref04_With (.rc RC.ref04_With) := ⟨Tryd.f63, by unfold F.ref04_With; exact Tryd.func63, by kernel_rfl, by kernel_rfl⟩
theorem E.mask_All : EntOk Tryd.prog G F.mask_All (.rc RC.mask_All) := ⟨Tryd.f74, by unfold F.mask_All; exact Tryd.func74, by kernel_rfl, by kernel_rfl⟩
theorem E.math_bits_OnesCount64 : EntOk Tryd.prog G F.math_bits_OnesCount64 (.rc RC.math_bits_OnesCount64) := ⟨Tryd.f75, by unfold F.math_bits_OnesCount64; exact Tryd.func75, by kernel_rfl, by kernel_rfl⟩
theorem E.mask_frame : EntOk Tryd.prog G F.mask_frame (.rc RC.mask_frame) := ⟨Tryd.f81, by unfold F.mask_frame; exact Tryd.func81, by kernel_rfl, by kernel_rfl⟩
theorem E.math_bits_TrailingZeros64 : EntOk Tryd.prog G F.math_bits_TrailingZeros64 (.ext X.tz) := ⟨⟨Tryd.f46, by unfold F.math_bits_TrailingZeros64; exact Tryd.func46, by kernel_rfl, by kernel_rfl⟩, X.tz_frame, by unfold F.math_bits_TrailingZeros64; exact X.tz_sim⟩
theorem ents : EntsOk Tryd.prog G tab0 := ⟨E.law17_TableOf, E.law17_TableAt, E.law17_TableTwice, E.law16_Light, E.law17_awake, E.table_Of, E.ref16_Right, E.ref17_Of, E.law17_theirs, E.table_At, E.ref17_At, E.table_Busy, E.table_Loose, E.ref17_Same, E.plan_Check, E.plan_Cores, E.plan_Wholes, E.mask_Ticks, E.ref16_place, E.ref16_apart, E.ref16_Splits, E.ref16_Cores, E.ref16_Load, E.ref16_Wholes, E.ref16_At, E.table_count_int, E.plan_place, E.plan_apart, E.plan_Splits, E.plan_left, E.plan_has, E.plan_split, E.ref08_Is, E.ref16_Has, E.ref04_Count, E.ref16_Windows, E.ref04_Has, E.order_Kind, E.plan_pieces, E.mask_Count, E.plan_Windows, E.ref04_Ticks, E.ref04_With, E.mask_All, E.math_bits_OnesCount64, E.mask_frame, E.math_bits_TrailingZeros64, trivial⟩
theorem tabOk0 : TabOk Tryd.prog G R0 := TabOk.of ents
theorem C.law17_awake : EntOk Tryd.prog G F.law17_awake (.ext X.ok) := X.ok_sim (const_sim hmix tabOk0 (n := 1000) (by kernel_rfl))
theorem tabOk : TabOk Tryd.prog G R := TabOk.of (l := tab) (⟨C.law17_awake, ents⟩)
end Go.Am


/- Blocks, by their numbers: loads and stores as what they do to a block's cells. -/
set_option linter.unusedVariables false
namespace Go.Am

def ldW : Option AObj → Nat → Option Value
  | some (.cells c _), o => c[o]?
  | _, _ => none
def ldA : Option AObj → Nat → Nat → Option Value
  | some (.cells c _), o, sz => if o + sz ≤ c.length then some (.agg ((c.drop o).take sz).toArray) else none
  | _, _, _ => none
def stB (m : Mem) (b : Nat) : Option AObj → Nat → List Value → Option Mem
  | some (.cells c (some u)), o, vs => if o + vs.length ≤ c.length ∧ oneCells vs = true then some (m.set b (some (.cells (writeL c o vs) (some u)))) else none
  | _, _, _ => none

theorem ldW_c {c : List Value} {own : Option Nat} {o : Nat} : ldW (some (.cells c own)) o = c[o]? := rfl
theorem ldA_c {c : List Value} {own : Option Nat} {o sz : Nat} : ldA (some (.cells c own)) o sz = if o + sz ≤ c.length then some (.agg ((c.drop o).take sz).toArray) else none := rfl
theorem stB_c {m : Mem} {b u o : Nat} {c vs : List Value} : stB m b (some (.cells c (some u))) o vs = if o + vs.length ≤ c.length ∧ oneCells vs = true then some (m.set b (some (.cells (writeL c o vs) (some u)))) else none := rfl

theorem load_w {m : Mem} {sz b o : Nat} : aLoad false sz m (.pointer (some ⟨b, o, none⟩)) = ldW (m.blk b) o := by
  simp only [aLoad, Bool.false_eq_true, if_false]
  unfold ldW
  split <;> simp_all
theorem load_a {m : Mem} {sz b o : Nat} : aLoad true sz m (.pointer (some ⟨b, o, none⟩)) = ldA (m.blk b) o sz := by
  simp only [aLoad, if_true]
  unfold ldA
  split <;> simp_all
theorem store_b {m : Mem} {sz b o : Nat} {v : Value} : aStore sz m (.pointer (some ⟨b, o, none⟩)) v = if v.cells.size = sz then stB m b (m.blk b) o v.cells.toList else none := by
  simp only [aStore]
  split
  · unfold aWrite stB
    split <;> simp_all
  · rfl
theorem idxS_b {u b o n c : Nat} {k : IntKind} {i : Int} : aIdxS u (.slice (some ⟨b, o, none⟩) n c) (.int k i) = if 0 ≤ i ∧ i < n then some (.pointer (some ⟨b, o + i.toNat * u, none⟩)) else none := rfl
theorem set_blk {m : Mem} {b k : Nat} {o : Option AObj} : (m.set b o).blk k = if k = b then o else m.blk k := rfl
theorem new_blk {m : Mem} {k : Nat} {o : AObj} : (m.new o).blk k = if k = m.next then some o else m.blk k := rfl
theorem set_next {m : Mem} {b : Nat} {o : Option AObj} : (m.set b o).next = m.next := rfl
theorem new_next {m : Mem} {o : AObj} : (m.new o).next = m.next + 1 := rfl
theorem len_s {a : Option Addr} {n c : Nat} : aLen (.slice a n c) = some (.int .i64 n) := rfl
theorem writeL_one {cs : List Value} {i : Nat} {v : Value} (h : i < cs.length) : writeL cs i [v] = cs.set i v := writeL_set h
theorem toArr_one {v : Value} : (#[v] : Array Value).toList = [v] := rfl
theorem size_one {v : Value} : (#[v] : Array Value).size = 1 := rfl
theorem toList_toArr {l : List Value} : l.toArray.toList = l := rfl
theorem size_toArr {l : List Value} : l.toArray.size = l.length := by simp

/-- What is at these blocks may have changed; all else is as it was. -/
structure Upd (m m' : Mem) (fp : List Nat) : Prop where
  next : m.next ≤ m'.next
  same : ∀ b, b < m.next → b ∉ fp → m'.blk b = m.blk b

theorem Upd.refl (m : Mem) (fp : List Nat) : Upd m m fp := ⟨Nat.le_refl _, fun _ _ _ => rfl⟩
theorem Upd.trans {a b c : Mem} {fp fq fr : List Nat} (h : Upd a b fp) (k : Upd b c fq) (h1 : ∀ x ∈ fp, x ∈ fr) (h2 : ∀ x ∈ fq, x ∈ fr ∨ a.next ≤ x) : Upd a c fr :=
  ⟨Nat.le_trans h.next k.next, fun x hx hn => by
    rw [k.same x (Nat.lt_of_lt_of_le hx h.next) (fun hm => by rcases h2 x hm with h3 | h3; exact hn h3; omega), h.same x hx (fun hm => hn (h1 x hm))]⟩
theorem Ext.upd {m m' : Mem} (h : Ext m m') {fp : List Nat} : Upd m m' fp := ⟨h.next, fun b hb _ => h.same b hb⟩
theorem Upd.ext {m m' : Mem} (h : Upd m m' []) : Ext m m' := ⟨h.next, fun b hb => h.same b hb (by simp)⟩
theorem Upd.set {m : Mem} {b : Nat} {o : Option AObj} {fp : List Nat} (h : b ∈ fp) : Upd m (m.set b o) fp :=
  ⟨Nat.le_refl _, fun x hx hn => by rw [set_blk, if_neg (fun e => hn (by rw [e]; exact h))]⟩
/-- Only blocks from some number on have changed. -/
theorem Upd.ext_of {m0 m m' : Mem} {fp : List Nat} (h0 : Ext m0 m) (h : Upd m m' fp) (hf : ∀ x ∈ fp, m0.next ≤ x) : Ext m0 m' :=
  ⟨Nat.le_trans h0.next h.next, fun b hb => by
    rw [h.same b (Nat.lt_of_lt_of_le hb h0.next) (fun hm => by have := hf b hm; omega), h0.same b hb]⟩
end Go.Am


/- More of slices that grow: whole slices put behind. -/
set_option linter.unusedVariables false
namespace Go.Am

theorem Sl.src {m : Mem} {u k : Nat} {xs : List Value} {x : Value} (h : Sl m u k xs x) : aSrc u k m x = some xs ∧ sliceLen x = some k := by
  cases h with
  | nil h hc => subst h; subst hc; exact ⟨rfl, rfl⟩
  | «at» hc h =>
    refine ⟨?_, rfl⟩
    simp only [aSrc]
    split
    · rename_i e; subst e
      have := aCells_len h
      rw [Nat.zero_mul] at this
      rw [List.eq_nil_of_length_eq_zero this]
    · rw [if_pos (Nat.le_refl _)]; exact h

/-- All of a slice behind one's own. -/
theorem Own.appAll {m0 m : Mem} {u n k by_ : Nat} {cs xs : List Value} {v x : Value} (h : Own m0 m u n cs v) (hx : Ext m0 m) (hs : Sl m u k xs x) (h1 : oneCells xs = true) (hby : (n + k) * by_ ≤ 2 ^ 47) (hn : n + k < 2 ^ 62) (hfull : ∀ a p q, v = .slice a p q → p = q) :
    ∃ v' m', aApp none u by_ m v x = some (v', m') ∧ Own m0 m' u (n + k) (cs ++ xs) v' ∧ Ext m0 m' := by
  obtain ⟨hsrc, hlen⟩ := hs.src
  have hxl := hs.length
  cases h with
  | nil h hc =>
    subst h; subst hc
    by_cases hk : k = 0
    · subst hk
      refine ⟨.slice none 0 0, m, by simp [aApp, hlen, hsrc], .nil rfl ?_, hx⟩
      rw [Nat.zero_mul] at hxl
      rw [List.eq_nil_of_length_eq_zero hxl]; rfl
    · refine ⟨.slice (some ⟨m.next, 0, none⟩) k k, m.new (.cells xs (some u)), ?_, ?_, hx.trans Ext.new⟩
      · simp only [aApp, hlen, Option.bind_some, hsrc, hk, if_false]
        rw [if_pos ⟨by simpa using hby, by simpa using hn, h1⟩]
        rfl
      · rw [Nat.zero_add, List.nil_append]
        exact .at (all := xs) hx.next (by simp [Mem.new]) (Nat.le_refl _) (by simp [Mem.new]) hxl (by rw [← hxl, List.take_length]) h1
  | @«at» b c all hb hb2 hnc hm hl hcs hone =>
    by_cases hk : k = 0
    · subst hk
      rw [Nat.zero_mul] at hxl
      have hxs := List.eq_nil_of_length_eq_zero hxl
      subst hxs
      refine ⟨.slice (some ⟨b, 0, none⟩) n c, m, ?_, by rw [List.append_nil]; exact .at hb hb2 hnc hm hl hcs hone, hx⟩
      simp only [aApp, hlen, Option.bind_some, hsrc, if_true]
      rw [if_pos ⟨hnc, by rw [hm]; rfl⟩]
    · by_cases hroom : n + k ≤ c
      · have hle : n * u + k * u ≤ c * u := by rw [← Nat.add_mul]; exact Nat.mul_le_mul_right _ hroom
        refine ⟨.slice (some ⟨b, 0, none⟩) (n + k) c, m.set b (some (.cells (writeL all (n * u) xs) (some u))), ?_, ?_, hx.set hb⟩
        · simp only [aApp, hlen, Option.bind_some, hsrc, hk, if_false, Nat.zero_add]
          rw [if_pos hroom]
          unfold aWrite
          rw [hm]
          simp only
          rw [if_pos ⟨by omega, h1⟩]; rfl
        · refine .at (all := writeL all (n * u) xs) hb (by simpa [Mem.set] using hb2) hroom (by simp [Mem.set]) ?_ ?_ (oneCells_append hone h1)
          · unfold writeL; simp; omega
          · unfold writeL
            rw [Nat.add_mul, List.append_assoc, List.take_append]
            have e : (all.take (n * u)).length = n * u := by simp; omega
            rw [e, List.take_of_length_le (by omega), show n * u + k * u - n * u = xs.length by omega, List.take_left, hcs]
      · have hcn : n = c := hfull _ _ _ rfl
        subst hcn
        have hall : all.take (n * u) = all := by rw [← hl, List.take_length]
        rw [hall] at hcs
        subst hcs
        refine ⟨.slice (some ⟨m.next, 0, none⟩) (n + k) (n + k), (m.set b none).new (.cells (all ++ xs) (some u)), ?_, ?_, (hx.set hb).trans Ext.new⟩
        · simp only [aApp, hlen, Option.bind_some, hsrc, hk, if_false, Nat.zero_add]
          rw [if_neg hroom, hm]
          simp only [List.drop_zero, hall]
          rw [if_pos ⟨hby, hn, h1, hone, Nat.le_refl _, by omega, .inr ⟨by first | rfl | trivial, .inr (by first | rfl | trivial)⟩⟩]
          simp only [Option.isSome_some, true_and, hl, if_true, place]
          rfl
        · refine .at (all := all ++ xs) (by have := hx.next; omega) (by simp [Mem.new, Mem.set]) (Nat.le_refl _) (by simp [Mem.new, Mem.set]) (by simp [hl, hxl, Nat.add_mul]) ?_ (oneCells_append hone h1)
          rw [Nat.add_mul, List.take_of_length_le (by simp; omega)]

/-- A slice, copied: what stands behind an empty one. -/
theorem app_copy {m : Mem} {u k by_ : Nat} {xs : List Value} {x : Value} (hs : Sl (m.new (.cells [] (some u))) u k xs x) (h1 : oneCells xs = true) (hby : k * by_ ≤ 2 ^ 47) (hn : k < 2 ^ 62) :
    ∃ v' m', aApp none u by_ (m.new (.cells [] (some u))) (.slice (some ⟨m.next, 0, none⟩) 0 0) x = some (v', m') ∧ Own m m' u k xs v' ∧ Ext m m' := by
  have ho : Own m (m.new (.cells [] (some u))) u 0 [] (.slice (some ⟨m.next, 0, none⟩) 0 0) :=
    .at (all := []) (Nat.le_refl _) (by simp [Mem.new]) (Nat.le_refl _) (by simp [Mem.new]) (by simp) (by simp) rfl
  have := ho.appAll (by_ := by_) Ext.new hs h1 (by simpa using hby) (by simpa using hn) (by intro a p q h; cases h; rfl)
  simpa using this

/-- The same, with where it stands. -/
theorem app_copy_at {m : Mem} {u k by_ : Nat} {xs : List Value} {x : Value} (hs : Sl (m.new (.cells [] (some u))) u k xs x) (h1 : oneCells xs = true) (hby : k * by_ ≤ 2 ^ 47) (hn : k < 2 ^ 62) (hk : k ≠ 0) :
    ∃ m', aApp none u by_ (m.new (.cells [] (some u))) (.slice (some ⟨m.next, 0, none⟩) 0 0) x = some (.slice (some ⟨m.next + 1, 0, none⟩) k k, m') ∧ m'.blk (m.next + 1) = some (.cells xs (some u)) ∧ m'.next = m.next + 2 ∧ Ext m m' := by
  obtain ⟨hsrc, hlen⟩ := hs.src
  refine ⟨((m.new (.cells [] (some u))).set m.next none).new (.cells xs (some u)), ?_, by simp [Mem.new, Mem.set], by simp [Mem.new, Mem.set], (Ext.new.set (Nat.le_refl _)).trans Ext.new⟩
  have hb : (m.new (.cells [] (some u))).blk m.next = some (.cells [] (some u)) := by simp [Mem.new]
  simp only [aApp, hlen, Option.bind_some, hsrc, hk, if_false, Nat.zero_add]
  rw [if_neg (by omega), hb]
  simp only [List.drop_nil, List.take_nil, Nat.zero_mul, List.length_nil, List.nil_append]
  rw [if_pos ⟨by simpa using hby, by simpa using hn, h1, by first | rfl | trivial, Nat.le_refl _, Nat.le_refl _, .inr ⟨by first | rfl | trivial, .inr (by first | rfl | trivial)⟩⟩]
  simp [place, Mem.new, Mem.set]
  rfl

/-- The same behind nothing. -/
theorem app_nil {m : Mem} {u k by_ : Nat} {xs : List Value} {x : Value} (hs : Sl m u k xs x) (h1 : oneCells xs = true) (hby : k * by_ ≤ 2 ^ 47) (hn : k < 2 ^ 62) :
    ∃ v' m', aApp none u by_ m (.slice none 0 0) x = some (v', m') ∧ Own m m' u k xs v' ∧ Ext m m' := by
  have ho : Own m m u 0 [] (.slice none 0 0) := .nil rfl rfl
  have := ho.appAll (by_ := by_) (Ext.refl _) hs h1 (by simpa using hby) (by simpa using hn) (by intro a p q h; cases h; rfl)
  simpa using this

/-- A slice whose block is none of some. -/
def SlOff (fp : List Nat) : Value → Prop
  | .slice (some a) _ _ => a.block ∉ fp
  | _ => True

theorem Sl.upd {m m' : Mem} {u n : Nat} {cs : List Value} {v : Value} {fp : List Nat} (h : Sl m u n cs v) (hb : SlLt m v) (ho : SlOff fp v) (hx : Upd m m' fp) : Sl m' u n cs v := by
  cases h with
  | nil h hc => exact .nil h hc
  | «at» hc h =>
    refine .at hc ?_
    unfold aCells at h ⊢
    rw [hx.same _ hb ho]; exact h

theorem SlLt.upd {m m' : Mem} {v : Value} {fp : List Nat} (h : SlLt m v) (hx : Upd m m' fp) : SlLt m' v := by
  unfold SlLt at *
  split <;> simp_all
  exact Nat.lt_of_lt_of_le h hx.next

theorem Own.lt {m0 m : Mem} {u n : Nat} {cs : List Value} {v : Value} (h : Own m0 m u n cs v) : SlLt m v := by
  cases h with
  | nil h hc => trivial
  | «at» hb hb2 hn hm hl hcs h1 => exact hb2
theorem Own.off {m0 m : Mem} {u n : Nat} {cs : List Value} {v : Value} {fp : List Nat} (h : Own m0 m u n cs v) (hf : ∀ x ∈ fp, x < m0.next) : SlOff fp v := by
  cases h with
  | nil h hc => trivial
  | «at» hb hb2 hn hm hl hcs h1 => intro hm; have := hf _ hm; simp only at this; omega

/-- One more behind one's own, where the new block's number is given. -/
theorem Own.appAt {m0 m : Mem} {u n by_ q : Nat} {cs xs : List Value} {v x : Value} (h : Own m0 m u n cs v) (hx : Ext m0 m) (hs : Sl m u 1 xs x) (h1 : oneCells xs = true) (hby : (n + 1) * by_ ≤ 2 ^ 47) (hn : n + 1 < 2 ^ 62) (hq : m0.next ≤ q) (hq2 : q < m.next) (ho : SlOff [q] v) :
    ∃ v' m', aApp (some q) u by_ m v x = some (v', m') ∧ Own m0 m' u (n + 1) (cs ++ xs) v' ∧ Ext m0 m' := by
  obtain ⟨hsrc, hlen⟩ := hs.src
  have hxl := hs.length
  cases h with
  | nil h hc =>
    subst h; subst hc
    refine ⟨.slice (some ⟨q, 0, none⟩) 1 1, m.set q (some (.cells xs (some u))), ?_, ?_, hx.set hq⟩
    · simp only [aApp, hlen, Option.bind_some, hsrc, Nat.one_ne_zero, if_false]
      rw [if_pos ⟨by simpa using hby, by simp, h1⟩]
      rfl
    · rw [Nat.zero_add, List.nil_append]
      exact .at (all := xs) hq (by simpa [Mem.set] using hq2) (Nat.le_refl _) (by simp [Mem.set]) hxl (by rw [← hxl, List.take_length]) h1
  | @«at» b c all hb hb2 hnc hm hl hcs hone =>
    have hbq : b ≠ q := by intro e; subst e; simp [SlOff] at ho
    by_cases hroom : n + 1 ≤ c
    · have hle : n * u + 1 * u ≤ c * u := by rw [← Nat.add_mul]; exact Nat.mul_le_mul_right _ hroom
      refine ⟨.slice (some ⟨b, 0, none⟩) (n + 1) c, m.set b (some (.cells (writeL all (n * u) xs) (some u))), ?_, ?_, hx.set hb⟩
      · simp only [aApp, hlen, Option.bind_some, hsrc, Nat.one_ne_zero, if_false, Nat.zero_add]
        rw [if_pos hroom]
        unfold aWrite
        rw [hm]
        simp only
        rw [if_pos ⟨by omega, h1⟩]; rfl
      · refine .at (all := writeL all (n * u) xs) hb (by simpa [Mem.set] using hb2) hroom (by simp [Mem.set]) ?_ ?_ (oneCells_append hone h1)
        · unfold writeL; simp; omega
        · unfold writeL
          rw [Nat.add_mul, List.append_assoc, List.take_append]
          have e : (all.take (n * u)).length = n * u := by simp; omega
          rw [e, List.take_of_length_le (by omega), show n * u + 1 * u - n * u = xs.length by omega, List.take_left, hcs]
    · have hcn : n = c := by omega
      subst hcn
      have hall : all.take (n * u) = all := by rw [← hl, List.take_length]
      rw [hall] at hcs
      subst hcs
      refine ⟨.slice (some ⟨q, 0, none⟩) (n + 1) (n + 1), (m.set b none).set q (some (.cells (all ++ xs) (some u))), ?_, ?_, (hx.set hb).set hq⟩
      · simp only [aApp, hlen, Option.bind_some, hsrc, Nat.one_ne_zero, if_false, Nat.zero_add]
        rw [if_neg hroom, hm]
        simp only [List.drop_zero, hall]
        rw [if_pos ⟨hby, hn, h1, hone, Nat.le_refl _, by omega, .inr ⟨by first | rfl | trivial, .inr (by first | rfl | trivial)⟩⟩]
        simp only [Option.isSome_some, true_and, hl, if_true, place]
      · refine .at (all := all ++ xs) hq (by simpa [Mem.set] using hq2) (Nat.le_refl _) (by simp [Mem.set]) (by simp [hl, hxl, Nat.add_mul]) ?_ (oneCells_append hone h1)
        rw [Nat.add_mul, List.take_of_length_le (by simp; omega)]

/-- The same in an open order. -/
theorem Own.appD {m0 m : Mem} {u n by_ N s t : Nat} {cs es : List Value} {v : Value} (h : Own m0 m u n cs v) (hx : Ext m0 m) (he : es.length = u) (h1 : oneCells es = true) (hby : (n + 1) * by_ ≤ 2 ^ 47) (hn : n + 1 < 2 ^ 62) (hs : s < N) (ht : t < N) :
    ∃ v' m', aApp (some (m.next + t)) u by_ ((m.bump N).set (m.next + s) (some (.cells es (some u)))) v (.slice (some ⟨m.next + s, 0, none⟩) 1 1) = some (v', m') ∧ Own m0 m' u (n + 1) (cs ++ es) v' ∧ Ext m0 m' := by
  have hX : Ext m ((m.bump N).set (m.next + s) (some (.cells es (some u)))) := by
    refine Ext.set ⟨by simp, fun b hb => rfl⟩ (by omega)
  refine (h.keep hX).appAt (hx.trans hX) ?_ h1 hby hn (by have := hx.next; omega) (by simp [Mem.set]; omega) ?_
  · refine .at (Nat.le_refl _) ?_
    unfold aCells
    simp only [Mem.set, if_true, Nat.zero_add, List.drop_zero]
    rw [if_pos (by omega), Nat.one_mul, ← he, List.take_length]
  · have := h.lt
    revert this
    cases v <;> simp only [SlOff, SlLt] <;> try (intros; trivial)
    rename_i b _ _
    cases b <;> simp only [] <;> try (intros; trivial)
    intro h; simp; omega

/-- What a loop leaves may be told ahead, and used later. -/
theorem WL.mono {R : Nat → Option FEnt} {ks : List Nat} {c : RCode} {e : Env} {m : Mem} {Q Q' : Ex → Env → Mem → Prop} (h : WL R ks c e m Q) (hq : ∀ x e m, Q x e m → Q' x e m) : WL R ks c e m Q' := by
  intro Z hZ
  refine h Z fun e m hz => hZ e m (wp.mono (fun x e' m' hx => ?_) hz)
  exact onNormal.mono (fun _ _ _ h => hq _ _ _ h) (fun e m h => h) hx

theorem watchOk_nil {e : Env} {m m' : Mem} : watchOk e m m' [] = True := (rfl)
theorem watchOk_cons {e : Env} {m m' : Mem} {x : Nat} {r : List Nat} : watchOk e m m' (x :: r) = ((match Env.get e x with | some v => (match blkOf v with | some b => m'.blk b = m.blk b | none => True) | none => False) ∧ watchOk e m m' r) := (rfl)
theorem blkOf_ptr {b o : Nat} : blkOf (.pointer (some ⟨b, o, none⟩)) = some b := (rfl)
theorem blkOf_undef : blkOf undef = none := (rfl)
theorem blkOf_int {k : IntKind} {a : Int} : blkOf (.int k a) = none := (rfl)
attribute [go_sem] watchOk_nil watchOk_cons blkOf_ptr blkOf_undef blkOf_int
theorem load_bump {w : Bool} {u n : Nat} {m : Mem} {p : Value} : aLoad w u (m.bump n) p = aLoad w u m p := (rfl)
theorem blk_bump {n : Nat} {m : Mem} : (m.bump n).blk = m.blk := (rfl)
attribute [go_sem] load_bump blk_bump
theorem Ext.bump {m : Mem} {n : Nat} : Ext m (m.bump n) := ⟨by simp, fun b hb => rfl⟩

/-! ### parts of slices, copies -/

theorem unitOk_own {m : Mem} {b u : Nat} {cs : List Value} (h : m.blk b = some (.cells cs (some u))) : unitOk u m b = true := by unfold unitOk; rw [h]; simp

theorem sub_from {m : Mem} {b o n c u : Nat} {k : IntKind} {i : Nat} (hu : unitOk u m b = true) (h : i ≤ n) (hc : n ≤ c) :
    aSub u m (.slice (some ⟨b, o, none⟩) n c) (some (.int k i)) none none = some (.slice (some ⟨b, o + i * u, none⟩) (n - i) (c - i)) := by
  simp only [aSub, hu, if_true, aBounds, aBound]
  simp [h, cutAt, hc, Int.toNat_natCast]

theorem sub_to {m : Mem} {b o n c u : Nat} {k : IntKind} {i : Nat} (hu : unitOk u m b = true) (h : i ≤ c) :
    aSub u m (.slice (some ⟨b, o, none⟩) n c) none (some (.int k i)) none = some (.slice (some ⟨b, o, none⟩) i c) := by
  simp only [aSub, hu, if_true, aBounds, aBound]
  simp [h, cutAt, Int.toNat_natCast]

theorem sub_both {m : Mem} {b o n c u : Nat} {k k' : IntKind} {i j : Nat} (hu : unitOk u m b = true) (h : i ≤ j) (hj : j ≤ c) :
    aSub u m (.slice (some ⟨b, o, none⟩) n c) (some (.int k i)) (some (.int k' j)) none = some (.slice (some ⟨b, o + i * u, none⟩) (j - i) (c - i)) := by
  simp only [aSub, hu, if_true, aBounds, aBound]
  simp [h, hj, cutAt, Int.toNat_natCast]

/-- A copy into one's own block. -/
theorem copy_into {m : Mem} {b o n c u k : Nat} {cs xs : List Value} {x : Value} (hm : m.blk b = some (.cells cs (some u))) (hs : aSrc u (Nat.min k n) m x = some xs) (hl : sliceLen x = some k) (h1 : oneCells xs = true) (hx : xs.length = (Nat.min k n) * u) (ho : o + n * u ≤ cs.length) :
    aCopy u m (.slice (some ⟨b, o, none⟩) n c) x = some (.int .i64 (Nat.min k n : Nat), m.set b (some (.cells (writeL cs o xs) (some u)))) := by
  have hd : sliceLen (.slice (some ⟨b, o, none⟩) n c) = some n := rfl
  simp only [aCopy, hd, hl, Option.bind_some, hs]
  have hle : (Nat.min k n) * u ≤ n * u := Nat.mul_le_mul_right _ (Nat.min_le_right _ _)
  by_cases h0 : Nat.min k n = 0
  · rw [if_pos h0, h0]
    rw [h0, Nat.zero_mul] at hx
    have := List.eq_nil_of_length_eq_zero hx
    subst this
    have e : writeL cs o [] = cs := by unfold writeL; simp
    rw [e]
    have : m.set b (some (.cells cs (some u))) = m := by
      unfold Mem.set; congr 1; funext q; split
      · rename_i e; subst e; exact hm.symm
      · rfl
    rw [this]; rfl
  · rw [if_neg h0]
    unfold aWrite
    rw [hm]
    simp only
    rw [if_pos ⟨by omega, h1⟩]; rfl

theorem make_eq {m : Mem} {u by_ n : Nat} {z : List Value} {k k' : IntKind} (h1 : n < 2 ^ 62) (h2 : n * by_ ≤ 2 ^ 47) (h3 : z.length = u) (h4 : oneCells z = true) :
    aMake none u by_ z m (.int k n) (.int k' n) = some (.slice (some ⟨m.next, 0, none⟩) n n, m.new (.cells (zeros z n) (some u))) := by
  simp only [aMake, place]
  rw [if_pos ⟨by omega, by omega, by omega, by omega, h3, h4⟩, Int.toNat_natCast]

theorem zeros_int {n : Nat} : zeros [.int .i64 0] n = intsZ (List.replicate n 0) := by
  induction n with
  | zero => rfl
  | succ n ih => simp [zeros, ih, intsZ, List.replicate_succ]

/-! ### elements of more than one cell -/

theorem flat_len {α : Type} {f : α → List Value} {u : Nat} (hf : ∀ a, (f a).length = u) : ∀ {l : List α}, (l.flatMap f).length = l.length * u
  | [] => by simp
  | a :: l => by rw [List.flatMap_cons, List.length_append, hf, flat_len hf, List.length_cons, Nat.succ_mul]; omega

theorem flat_drop {α : Type} {f : α → List Value} {u : Nat} (hf : ∀ a, (f a).length = u) : ∀ {l : List α} {i : Nat} (h : i < l.length), ((l.flatMap f).drop (i * u)).take u = f l[i]
  | a :: l, 0, _ => by rw [Nat.zero_mul, List.drop_zero, List.flatMap_cons, ← hf a, List.take_left]; rfl
  | a :: l, i + 1, h => by
    rw [List.flatMap_cons, show (i + 1) * u = (f a).length + i * u by rw [hf, Nat.succ_mul]; omega, ← List.drop_drop, List.drop_left, flat_drop hf (by simpa using h)]; rfl

/-- What is read of the i-th element. -/
theorem Sl.elem {α : Type} {f : α → List Value} {m : Mem} {u : Nat} {l : List α} {v : Value} (h : Sl m u l.length (l.flatMap f) v) (hf : ∀ a, (f a).length = u) {k : IntKind} {i : Nat} (hi : i < l.length) :
    ∃ b o, aIdxS u v (.int k i) = some (.pointer (some ⟨b, o, none⟩)) ∧ aLoad true u m (.pointer (some ⟨b, o, none⟩)) = some (.agg (f l[i]).toArray) ∧
      (∀ j, j < u → aLoad false 1 m (.pointer (some ⟨b, o + j, none⟩)) = (f l[i])[j]?) ∧ (SlLt m v → b < m.next) := by
  have hb : ∃ b o, aIdxS u v (.int k i) = some (.pointer (some ⟨b, o, none⟩)) ∧ (SlLt m v → b < m.next) := by
    cases h with
    | nil h hc => omega
    | @«at» b o c hc h =>
      refine ⟨b, o + i * u, ?_, fun h => h⟩
      simp only [aIdxS]; rw [if_pos (by omega), Int.toNat_natCast]
  obtain ⟨b, o, h1, h4⟩ := hb
  obtain ⟨b', o', h1', h2, h3⟩ := h.cell (k := k) hi
  rw [h1] at h1'
  cases h1'
  refine ⟨b, o, h1, by rw [h3, flat_drop hf hi], fun j hj => ?_, h4⟩
  rw [h2 j hj, ← flat_drop hf hi, List.getElem?_take, List.getElem?_drop, if_pos hj]

/-- A block that is there. -/
structure Bk (m : Mem) (b : Nat) (cs : List Value) (u : Nat) : Prop where
  at_ : m.blk b = some (.cells cs (some u))
  lt : b < m.next
theorem Bk.new {m : Mem} {cs : List Value} {u : Nat} : Bk (m.new (.cells cs (some u))) m.next cs u := ⟨by simp [Mem.new], by simp [Mem.new]⟩
theorem Bk.ne {m : Mem} {b u : Nat} {cs : List Value} (h : Bk m b cs u) : (b = m.next) = False := eq_false (Nat.ne_of_lt h.lt)
theorem Bk.keep {m m' : Mem} {b u : Nat} {cs : List Value} (h : Bk m b cs u) (hx : Ext m m') : Bk m' b cs u := ⟨by rw [hx.same _ h.lt]; exact h.at_, Nat.lt_of_lt_of_le h.lt hx.next⟩
theorem Bk.upd {m m' : Mem} {b u : Nat} {cs : List Value} {fp : List Nat} (h : Bk m b cs u) (hx : Upd m m' fp) (hn : b ∉ fp) : Bk m' b cs u := ⟨by rw [hx.same _ h.lt hn]; exact h.at_, Nat.lt_of_lt_of_le h.lt hx.next⟩
end Go.Am
