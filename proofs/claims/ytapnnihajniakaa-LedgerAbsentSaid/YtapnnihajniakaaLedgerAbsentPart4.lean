/- Parts of the proofs of the statements of this seat: AmTabLedger, LedgerKeys, LedgerCln. No conditions. -/
import Derived.Test.YtapnnihajniakaaLedgerAbsentPart3
import Derived.Test.YtapnnihajniakaaProg
set_option linter.unusedVariables false
set_option linter.unusedSimpArgs false

/- The functions of the layer ledger in the form of the abstract machine. Printed by amgen.py. -/
set_option linter.unusedVariables false
namespace Go.Am

@[irreducible] def F.law29_LedgerNever : Nat := 3
@[irreducible] def F.law29_LedgerAbsent : Nat := 4
@[irreducible] def F.law29_LedgerNobody : Nat := 5
@[irreducible] def F.ledger_New : Nat := 6
@[irreducible] def F.ref29_Right : Nat := 7
@[irreducible] def F.law29_awake : Nat := 8
@[irreducible] def F.ledger_Ledger_Do : Nat := 9
@[irreducible] def F.ledger_Ledger_Free : Nat := 10
@[irreducible] def F.ledger_Ledger_Cores : Nat := 11
@[irreducible] def F.cores_Set_Count : Nat := 12
@[irreducible] def F.ledger_Ledger_Roster : Nat := 13
@[irreducible] def F.roster_Roster_Total : Nat := 14
@[irreducible] def F.roster_Roster_Tasks : Nat := 15
@[irreducible] def F.ledger_Ledger_Clock : Nat := 16
@[irreducible] def F.cores_Set_In : Nat := 17
@[irreducible] def F.ledger_Ledger_Fork : Nat := 18
@[irreducible] def F.ledger_Check : Nat := 19
@[irreducible] def F.roster_New : Nat := 20
@[irreducible] def F.cores_New : Nat := 21
@[irreducible] def F.law29_Fit : Nat := 22
@[irreducible] def F.ledger_Ledger_none : Nat := 23
@[irreducible] def F.ledger_Ledger_tasks : Nat := 24
@[irreducible] def F.ledger_Ledger_plug : Nat := 25
@[irreducible] def F.ledger_Ledger_ticks : Nat := 26
@[irreducible] def F.roster_Roster_Task : Nat := 27
@[irreducible] def F.cores_Set_Fork : Nat := 28
@[irreducible] def F.math_bits_OnesCount32 : Nat := 29
@[irreducible] def F.roster_Roster_Fork : Nat := 30
@[irreducible] def F.order_Total : Nat := 31
@[irreducible] def F.roster_Roster_Units : Nat := 32
@[irreducible] def F.roster_Roster_none : Nat := 33
@[irreducible] def F.slices_Sorted_int : Nat := 34
@[irreducible] def F.maps_Keys_map_int_roster_Task_int_roster_Task : Nat := 35
@[irreducible] def F.cores_Set_Len : Nat := 36
@[irreducible] def F.slices_Contains_int_int : Nat := 37
@[irreducible] def F.slices_Repeat_int_int : Nat := 38
@[irreducible] def F.ledger_list : Nat := 39
@[irreducible] def F.ledger_Ledger_room : Nat := 40
@[irreducible] def F.cores_Set_Plug : Nat := 41
@[irreducible] def F.cores_Set_Unplug : Nat := 42
@[irreducible] def F.cores_Set_Turn : Nat := 43
@[irreducible] def F.roster_Roster_one : Nat := 44
@[irreducible] def F.slices_Clone_int_int : Nat := 45
@[irreducible] def F.maps_Clone_map_int_roster_Task_int_roster_Task : Nat := 46
@[irreducible] def F.maps_Clone_map_int_roster_Group_int_roster_Group : Nat := 47
@[irreducible] def F.fixq_Add : Nat := 48
@[irreducible] def F.roster_Roster_Groups : Nat := 49
@[irreducible] def F.maps_Keys_map_int_roster_Task_int_roster_Task_1 : Nat := 52
@[irreducible] def F.slices_Index_int_int : Nat := 53
@[irreducible] def F.math_bits_Mul : Nat := 54
@[irreducible] def F.roster_Roster_Arrive : Nat := 55
@[irreducible] def F.roster_Roster_Depart : Nat := 56
@[irreducible] def F.roster_Roster_Reweight : Nat := 57
@[irreducible] def F.roster_Roster_Block : Nat := 58
@[irreducible] def F.roster_Roster_Wake : Nat := 59
@[irreducible] def F.roster_Roster_Found : Nat := 60
@[irreducible] def F.roster_Roster_Fund : Nat := 61
@[irreducible] def F.roster_Roster_Disband : Nat := 62
@[irreducible] def F.roster_Roster_Enter : Nat := 63
@[irreducible] def F.roster_Roster_Weigh : Nat := 64
@[irreducible] def F.roster_Roster_Limit : Nat := 65
@[irreducible] def F.roster_Roster_Move : Nat := 66
@[irreducible] def F.cores_Set_change : Nat := 67
@[irreducible] def F.maps_Keys_map_int_roster_Group_int_roster_Group : Nat := 69
@[irreducible] def F.math_bits_Mul32 : Nat := 73
@[irreducible] def F.math_bits_Mul64 : Nat := 74
@[irreducible] def F.roster_Roster_fresh : Nat := 75
@[irreducible] def F.roster_Roster_share : Nat := 76
@[irreducible] def F.roster_Roster_count : Nat := 77
@[irreducible] def F.roster_Roster_member : Nat := 78
@[irreducible] def F.roster_Roster_off : Nat := 79
@[irreducible] def F.order_Unit : Nat := 80
@[irreducible] def F.roster_Roster_group : Nat := 81
@[irreducible] def F.roster_weight : Nat := 82
@[irreducible] def F.cores_Set_State : Nat := 83
@[irreducible] def F.maps_Keys_map_int_roster_Group_int_roster_Group_1 : Nat := 84

def RB.law29_LedgerNever_1 : RCode :=
  (.seq (.seq (.region [⟨some 25, none, .mov (.t 7)⟩,
    ⟨some 26, none, .mov (.t 1)⟩,
    ⟨some 27, none, .len (.t 26)⟩,
    ⟨some 28, none, .bin .lss (.t 25) (.t 27)⟩,
    ⟨some 29, none, .mov (.t 28)⟩,
    ⟨some 30, some (29, true), .mov (.t 7)⟩,
    ⟨some 31, some (29, true), .bin .lss (.t 30) (.c (.int .i64 80))⟩,
    ⟨some 32, none, .pick (.t 29) (.t 31) (.c (.bool false))⟩]
    [1, 2, 5, 7, 32])
  (.cond (.t 32)
    .skip
    (.exit 0)))
  (.seq (.block 1
    (.seq (.region [⟨some 35, none, .mov (.t 5)⟩,
      ⟨some 36, none, .mov (.t 1)⟩,
      ⟨some 37, none, .mov (.t 7)⟩,
      ⟨some 38, none, .idxS 8 (.t 36) (.t 37)⟩,
      ⟨some 39, none, .load true 8 (.t 38)⟩,
      ⟨some 40, none, .call F.ledger_Ledger_Do [.t 35, .t 39]⟩]
      [1, 2, 5, 7])
    (.seq (.drawn [⟨some 41, none, .mov (.t 5)⟩,
      ⟨some 42, none, .call F.ledger_Ledger_Free [.t 41]⟩,
      ⟨some 43, none, .bin .lss (.t 42) (.c (.int .i64 0))⟩,
      ⟨some 44, none, .mov (.t 43)⟩,
      ⟨some 45, some (44, false), .mov (.t 5)⟩,
      ⟨some 46, some (44, false), .call F.ledger_Ledger_Cores [.t 45]⟩,
      ⟨some 47, some (44, false), .bslice [(.int .i64 0)] [(0, 1, .c (.int .i64 1))] 1 1⟩,
      ⟨some 48, some (44, false), .call F.cores_Set_Count [.t 46, .t 47]⟩,
      ⟨some 49, some (44, false), .bin .lss (.t 48) (.c (.int .i64 1))⟩,
      ⟨some 50, none, .pick (.t 44) (.c (.bool true)) (.t 49)⟩,
      ⟨some 51, none, .mov (.t 50)⟩,
      ⟨some 52, some (51, false), .mov (.t 5)⟩,
      ⟨some 53, some (51, false), .call F.ledger_Ledger_Roster [.t 52]⟩,
      ⟨some 54, some (51, false), .call F.roster_Roster_Total [.t 53]⟩,
      ⟨some 55, some (51, false), .fieldAddr 0 (.t 2)⟩,
      ⟨some 56, some (51, false), .load false 1 (.t 55)⟩,
      ⟨some 57, some (51, false), .mov (.t 5)⟩,
      ⟨some 58, some (51, false), .call F.ledger_Ledger_Cores [.t 57]⟩,
      ⟨some 59, some (51, false), .bslice [(.int .i64 0)] [(0, 1, .c (.int .i64 1))] 1 1⟩,
      ⟨some 60, some (51, false), .call F.cores_Set_Count [.t 58, .t 59]⟩,
      ⟨some 61, some (51, false), .bin .mul (.t 56) (.t 60)⟩,
      ⟨some 62, some (51, false), .bin .gtr (.t 54) (.t 61)⟩,
      ⟨some 63, none, .pick (.t 51) (.c (.bool true)) (.t 62)⟩]
      [[], [0], [1], [2, 1], [3], [4, 3, 3], [3], [5, 6, 5, 3], [7, 3], [3, 8], [9, 7], [10], [11, 10, 10], [12, 12, 10], [10], [14, 10], [10], [16, 13, 10], [10], [17, 18, 17, 10], [15, 19, 10], [13, 20, 10], [10, 21]]
      [(0, []), (1, []), (2, []), (3, []), (4, []), (5, []), (6, []), (7, []), (8, []), (9, []), (10, []), (11, []), (14, []), (16, []), (15, []), (12, [55]), (13, [55]), (17, [55]), (18, []), (19, [55]), (20, []), (21, []), (22, [])]
      [[], [0], [0, 1], [0, 1, 2], [0, 1, 2, 3], [0, 1, 2, 3, 4], [0, 1, 2, 3], [0, 1, 2, 3, 4, 5, 6], [0, 1, 2, 3, 4, 5, 6, 7], [0, 1, 2, 3, 4, 5, 6, 7, 8], [0, 1, 2, 3, 4, 5, 6, 7, 8, 9], [0, 1, 2, 3, 4, 5, 6, 7, 8, 9, 10], [0, 1, 2, 3, 4, 5, 6, 7, 8, 9, 10, 11], [0, 1, 2, 3, 4, 5, 6, 7, 8, 9, 10, 11, 12], [0, 1, 2, 3, 4, 5, 6, 7, 8, 9, 10], [0, 1, 2, 3, 4, 5, 6, 7, 8, 9, 10, 14], [0, 1, 2, 3, 4, 5, 6, 7, 8, 9, 10], [0, 1, 2, 3, 4, 5, 6, 7, 8, 9, 10, 11, 12, 13, 16], [0, 1, 2, 3, 4, 5, 6, 7, 8, 9, 10], [0, 1, 2, 3, 4, 5, 6, 7, 8, 9, 10, 11, 12, 13, 16, 17, 18], [0, 1, 2, 3, 4, 5, 6, 7, 8, 9, 10, 11, 12, 13, 14, 15, 16, 17, 18, 19], [0, 1, 2, 3, 4, 5, 6, 7, 8, 9, 10, 11, 12, 13, 14, 15, 16, 17, 18, 19, 20], [0, 1, 2, 3, 4, 5, 6, 7, 8, 9, 10, 11, 12, 13, 14, 15, 16, 17, 18, 19, 20, 21]]
      [1, 2, 5, 7, 63])
    (.cond (.t 63)
      (.seq (.region [⟨some 4, none, .mov (.c (.bool false))⟩]
        [4])
      .ret)
      .skip))) [1, 2, 5, 7])
  (.region [⟨some 33, none, .mov (.t 7)⟩,
    ⟨some 34, none, .bin .add (.t 33) (.c (.int .i64 1))⟩,
    ⟨some 7, none, .mov (.t 34)⟩]
    [1, 2, 5, 7])))
def RC.law29_LedgerNever : RFn := ⟨2, [.slot 4],
  (.seq (.region [⟨some 2, none, .box (.t 0)⟩,
    ⟨some 4, none, .mov (.c (.bool false))⟩]
    [1, 2])
  (.seq (.region [⟨some 9, none, .load true 4 (.t 2)⟩,
    ⟨some 10, none, .call F.ledger_New [.t 9]⟩,
    ⟨some 8, none, .mov (.t 10)⟩,
    ⟨some 11, none, .ext 0 (.t 8)⟩,
    ⟨some 12, none, .ext 1 (.t 8)⟩,
    ⟨some 5, none, .mov (.t 11)⟩,
    ⟨some 6, none, .mov (.t 12)⟩]
    [1, 2, 5, 6])
  (.seq (.seq (.region [⟨some 13, none, .mov (.t 6)⟩,
    ⟨some 14, none, .bin .neq (.t 13) (.c (.int .i64 0))⟩,
    ⟨some 15, none, .mov (.t 14)⟩,
    ⟨some 16, some (15, false), .mov (.t 5)⟩,
    ⟨some 17, some (15, false), .eq false .ptr (.t 16) (.c (.pointer none))⟩,
    ⟨some 18, none, .pick (.t 15) (.c (.bool true)) (.t 17)⟩]
    [1, 2, 5, 18])
  (.cond (.t 18)
    (.seq (.region [⟨some 19, none, .load true 4 (.t 2)⟩,
      ⟨some 20, none, .call F.ref29_Right [.t 19]⟩,
      ⟨some 21, none, .un .not (.t 20)⟩,
      ⟨some 22, none, .mov (.t 21)⟩,
      ⟨some 23, some (22, true), .call F.law29_awake []⟩,
      ⟨some 24, none, .pick (.t 22) (.t 23) (.c (.bool false))⟩,
      ⟨some 4, none, .mov (.t 24)⟩]
      [4])
    .ret)
    .skip))
  (.seq (.seq (.region [⟨some 7, none, .mov (.c (.int .i64 0))⟩]
    [1, 2, 5, 7])
  (.block 0
    (.loop [1, 2, 5, 7] RB.law29_LedgerNever_1) []))
  (.seq (.region [⟨some 64, none, .call F.law29_awake []⟩,
    ⟨some 4, none, .mov (.t 64)⟩]
    [4])
  .ret)))))⟩

def RB.law29_LedgerAbsent_1 : RCode :=
  (.seq (.seq (.region [⟨some 110, none, .mov (.t 13)⟩,
    ⟨some 111, none, .bin .leq (.t 110) (.c (.int .i64 4))⟩]
    [5, 7, 13, 111])
  (.cond (.t 111)
    .skip
    (.exit 4)))
  (.seq (.block 5
    (.seq (.region [⟨some 114, none, .mov (.t 5)⟩,
      ⟨some 115, none, .call F.ledger_Ledger_Cores [.t 114]⟩,
      ⟨some 116, none, .mov (.t 13)⟩,
      ⟨some 117, none, .bslice [(.int .i64 0)] [(0, 1, .t 116)] 1 1⟩,
      ⟨some 118, none, .call F.cores_Set_In [.t 115, .t 117]⟩,
      ⟨some 119, none, .mov (.t 7)⟩,
      ⟨some 120, none, .call F.ledger_Ledger_Cores [.t 119]⟩,
      ⟨some 121, none, .mov (.t 13)⟩,
      ⟨some 122, none, .bslice [(.int .i64 0)] [(0, 1, .t 121)] 1 1⟩,
      ⟨some 123, none, .call F.cores_Set_In [.t 120, .t 122]⟩,
      ⟨some 124, none, .bin .neq (.t 118) (.t 123)⟩]
      [5, 7, 13, 124])
    (.cond (.t 124)
      (.seq (.region [⟨some 4, none, .mov (.c (.bool false))⟩]
        [4])
      .ret)
      .skip)) [5, 7, 13])
  (.region [⟨some 112, none, .mov (.t 13)⟩,
    ⟨some 113, none, .bin .add (.t 112) (.c (.int .i64 1))⟩,
    ⟨some 13, none, .mov (.t 113)⟩]
    [5, 7, 13])))
def RB.law29_LedgerAbsent_2 : RCode :=
  (.seq (.seq (.region [⟨some 95, none, .mov (.t 12)⟩,
    ⟨some 96, none, .mov (.t 10)⟩,
    ⟨some 97, none, .len (.t 96)⟩,
    ⟨some 98, none, .bin .lss (.t 95) (.t 97)⟩]
    [5, 7, 10, 11, 12, 98])
  (.cond (.t 98)
    .skip
    (.exit 2)))
  (.seq (.block 3
    (.seq (.drawn [⟨some 101, none, .mov (.t 10)⟩,
      ⟨some 102, none, .mov (.t 12)⟩,
      ⟨some 103, none, .idxS 6 (.t 101) (.t 102)⟩,
      ⟨some 104, none, .load true 6 (.t 103)⟩,
      ⟨some 105, none, .mov (.t 11)⟩,
      ⟨some 106, none, .mov (.t 12)⟩,
      ⟨some 107, none, .idxS 6 (.t 105) (.t 106)⟩,
      ⟨some 108, none, .load true 6 (.t 107)⟩,
      ⟨some 109, none, .eq true (.flat [.int, .int, .int, .int, .int, .bool]) (.t 104) (.t 108)⟩]
      [[], [], [0, 1], [2], [], [], [4, 5], [6], [3, 7]]
      [(0, []), (1, []), (2, []), (4, []), (5, []), (6, []), (3, []), (7, []), (8, [])]
      [[], [], [0, 1], [0, 1, 2], [], [], [4, 5], [4, 5, 6], [0, 1, 2, 3, 4, 5, 6, 7]]
      [5, 7, 10, 11, 12, 109])
    (.cond (.t 109)
      (.seq (.region [⟨some 4, none, .mov (.c (.bool false))⟩]
        [4])
      .ret)
      .skip)) [5, 7, 10, 11, 12])
  (.region [⟨some 99, none, .mov (.t 12)⟩,
    ⟨some 100, none, .bin .add (.t 99) (.c (.int .i64 1))⟩,
    ⟨some 12, none, .mov (.t 100)⟩]
    [5, 7, 10, 11, 12])))
def RB.law29_LedgerAbsent_3 : RCode :=
  (.seq (.seq (.region [⟨some 44, none, .mov (.t 9)⟩,
    ⟨some 45, none, .mov (.t 1)⟩,
    ⟨some 46, none, .len (.t 45)⟩,
    ⟨some 47, none, .bin .lss (.t 44) (.t 46)⟩,
    ⟨some 48, none, .mov (.t 47)⟩,
    ⟨some 49, some (48, true), .mov (.t 9)⟩,
    ⟨some 50, some (48, true), .bin .lss (.t 49) (.c (.int .i64 60))⟩,
    ⟨some 51, none, .pick (.t 48) (.t 50) (.c (.bool false))⟩]
    [1, 5, 7, 9, 51])
  (.cond (.t 51)
    .skip
    (.exit 0)))
  (.seq (.block 1
    (.seq (.region [⟨some 54, none, .mov (.t 5)⟩,
      ⟨some 55, none, .mov (.t 1)⟩,
      ⟨some 56, none, .mov (.t 9)⟩,
      ⟨some 57, none, .idxS 8 (.t 55) (.t 56)⟩,
      ⟨some 58, none, .load true 8 (.t 57)⟩,
      ⟨some 59, none, .call F.ledger_Ledger_Do [.t 54, .t 58]⟩,
      ⟨some 60, none, .bin .eql (.t 59) (.c (.int .i64 0))⟩,
      ⟨some 61, none, .mov (.t 60)⟩,
      ⟨some 62, some (61, true), .mov (.t 7)⟩,
      ⟨some 63, some (61, true), .mov (.t 1)⟩,
      ⟨some 64, some (61, true), .mov (.t 9)⟩,
      ⟨some 65, some (61, true), .idxS 8 (.t 63) (.t 64)⟩,
      ⟨some 66, some (61, true), .load true 8 (.t 65)⟩,
      ⟨some 67, some (61, true), .call F.ledger_Ledger_Do [.t 62, .t 66]⟩,
      ⟨some 68, some (61, true), .bin .neq (.t 67) (.c (.int .i64 0))⟩,
      ⟨some 69, none, .pick (.t 61) (.t 68) (.c (.bool false))⟩]
      [1, 5, 7, 9, 69])
    (.cond (.t 69)
      (.seq (.region [⟨some 4, none, .mov (.c (.bool false))⟩]
        [4])
      .ret)
      .skip)) [1, 5, 7, 9])
  (.region [⟨some 52, none, .mov (.t 9)⟩,
    ⟨some 53, none, .bin .add (.t 52) (.c (.int .i64 1))⟩,
    ⟨some 9, none, .mov (.t 53)⟩]
    [1, 5, 7, 9])))
def RC.law29_LedgerAbsent : RFn := ⟨2, [.slot 4],
  (.seq (.region [⟨some 2, none, .box (.t 0)⟩,
    ⟨some 4, none, .mov (.c (.bool false))⟩]
    [1, 2])
  (.seq (.region [⟨some 15, none, .load true 4 (.t 2)⟩,
    ⟨some 16, none, .call F.ledger_New [.t 15]⟩,
    ⟨some 14, none, .mov (.t 16)⟩,
    ⟨some 17, none, .ext 0 (.t 14)⟩,
    ⟨some 18, none, .ext 1 (.t 14)⟩,
    ⟨some 5, none, .mov (.t 17)⟩,
    ⟨some 6, none, .mov (.t 18)⟩]
    [1, 2, 5, 6])
  (.seq (.region [⟨some 20, none, .load true 4 (.t 2)⟩,
    ⟨some 21, none, .call F.ledger_New [.t 20]⟩,
    ⟨some 19, none, .mov (.t 21)⟩,
    ⟨some 22, none, .ext 0 (.t 19)⟩,
    ⟨some 23, none, .ext 1 (.t 19)⟩,
    ⟨some 7, none, .mov (.t 22)⟩,
    ⟨some 8, none, .mov (.t 23)⟩]
    [1, 2, 5, 6, 7, 8])
  (.seq (.seq (.region [⟨some 24, none, .mov (.t 6)⟩,
    ⟨some 25, none, .bin .neq (.t 24) (.c (.int .i64 0))⟩,
    ⟨some 26, none, .mov (.t 25)⟩,
    ⟨some 27, some (26, false), .mov (.t 8)⟩,
    ⟨some 28, some (26, false), .bin .neq (.t 27) (.c (.int .i64 0))⟩,
    ⟨some 29, none, .pick (.t 26) (.c (.bool true)) (.t 28)⟩,
    ⟨some 30, none, .mov (.t 29)⟩,
    ⟨some 31, some (30, false), .mov (.t 5)⟩,
    ⟨some 32, some (30, false), .eq false .ptr (.t 31) (.c (.pointer none))⟩,
    ⟨some 33, none, .pick (.t 30) (.c (.bool true)) (.t 32)⟩,
    ⟨some 34, none, .mov (.t 33)⟩,
    ⟨some 35, some (34, false), .mov (.t 7)⟩,
    ⟨some 36, some (34, false), .eq false .ptr (.t 35) (.c (.pointer none))⟩,
    ⟨some 37, none, .pick (.t 34) (.c (.bool true)) (.t 36)⟩]
    [1, 2, 5, 7, 37])
  (.cond (.t 37)
    (.seq (.region [⟨some 38, none, .load true 4 (.t 2)⟩,
      ⟨some 39, none, .call F.ref29_Right [.t 38]⟩,
      ⟨some 40, none, .un .not (.t 39)⟩,
      ⟨some 41, none, .mov (.t 40)⟩,
      ⟨some 42, some (41, true), .call F.law29_awake []⟩,
      ⟨some 43, none, .pick (.t 41) (.t 42) (.c (.bool false))⟩,
      ⟨some 4, none, .mov (.t 43)⟩]
      [4])
    .ret)
    .skip))
  (.seq (.seq (.region [⟨some 9, none, .mov (.c (.int .i64 0))⟩]
    [1, 5, 7, 9])
  (.block 0
    (.loop [1, 5, 7, 9] RB.law29_LedgerAbsent_3) [5, 7]))
  (.seq (.region [⟨some 70, none, .mov (.t 5)⟩,
    ⟨some 71, none, .call F.ledger_Ledger_Roster [.t 70]⟩,
    ⟨some 72, none, .call F.roster_Roster_Tasks [.t 71]⟩,
    ⟨some 73, none, .mov (.t 7)⟩,
    ⟨some 74, none, .call F.ledger_Ledger_Roster [.t 73]⟩,
    ⟨some 75, none, .call F.roster_Roster_Tasks [.t 74]⟩,
    ⟨some 10, none, .mov (.t 72)⟩,
    ⟨some 11, none, .mov (.t 75)⟩]
    [5, 7, 10, 11])
  (.seq (.seq (.region [⟨some 76, none, .mov (.t 10)⟩,
    ⟨some 77, none, .len (.t 76)⟩,
    ⟨some 78, none, .mov (.t 11)⟩,
    ⟨some 79, none, .len (.t 78)⟩,
    ⟨some 80, none, .bin .neq (.t 77) (.t 79)⟩,
    ⟨some 81, none, .mov (.t 80)⟩,
    ⟨some 82, some (81, false), .mov (.t 5)⟩,
    ⟨some 83, some (81, false), .call F.ledger_Ledger_Free [.t 82]⟩,
    ⟨some 84, some (81, false), .mov (.t 7)⟩,
    ⟨some 85, some (81, false), .call F.ledger_Ledger_Free [.t 84]⟩,
    ⟨some 86, some (81, false), .bin .neq (.t 83) (.t 85)⟩,
    ⟨some 87, none, .pick (.t 81) (.c (.bool true)) (.t 86)⟩,
    ⟨some 88, none, .mov (.t 87)⟩,
    ⟨some 89, some (88, false), .mov (.t 5)⟩,
    ⟨some 90, some (88, false), .call F.ledger_Ledger_Clock [.t 89]⟩,
    ⟨some 91, some (88, false), .mov (.t 7)⟩,
    ⟨some 92, some (88, false), .call F.ledger_Ledger_Clock [.t 91]⟩,
    ⟨some 93, some (88, false), .bin .neq (.t 90) (.t 92)⟩,
    ⟨some 94, none, .pick (.t 88) (.c (.bool true)) (.t 93)⟩]
    [5, 7, 10, 11, 94])
  (.cond (.t 94)
    (.seq (.region [⟨some 4, none, .mov (.c (.bool false))⟩]
      [4])
    .ret)
    .skip))
  (.seq (.seq (.region [⟨some 12, none, .mov (.c (.int .i64 0))⟩]
    [5, 7, 10, 11, 12])
  (.block 2
    (.loop [5, 7, 10, 11, 12] RB.law29_LedgerAbsent_2) [5, 7]))
  (.seq (.seq (.region [⟨some 13, none, .mov (.c (.int .i64 0))⟩]
    [5, 7, 13])
  (.block 4
    (.loop [5, 7, 13] RB.law29_LedgerAbsent_1) []))
  (.seq (.region [⟨some 125, none, .call F.law29_awake []⟩,
    ⟨some 4, none, .mov (.t 125)⟩]
    [4])
  .ret))))))))))⟩

def RB.law29_LedgerNobody_1 : RCode :=
  (.seq (.seq (.region [⟨some 10, none, .mov (.t 5)⟩,
    ⟨some 11, none, .mov (.t 4)⟩,
    ⟨some 12, none, .len (.t 11)⟩,
    ⟨some 13, none, .bin .lss (.t 10) (.t 12)⟩]
    [1, 4, 5, 13])
  (.cond (.t 13)
    .skip
    (.exit 0)))
  (.seq (.block 1
    (.seq (.drawn [⟨some 16, none, .mov (.t 4)⟩,
      ⟨some 17, none, .mov (.t 5)⟩,
      ⟨some 18, none, .idxS 1 (.t 16) (.t 17)⟩,
      ⟨some 19, none, .load false 1 (.t 18)⟩,
      ⟨some 20, none, .load true 8 (.t 1)⟩,
      ⟨some 21, none, .call F.ledger_Ledger_Do [.t 19, .t 20]⟩,
      ⟨some 22, none, .bin .neq (.t 21) (.c (.int .i64 2))⟩,
      ⟨some 23, none, .mov (.t 22)⟩,
      ⟨some 24, some (23, false), .mov (.t 4)⟩,
      ⟨some 25, some (23, false), .mov (.t 5)⟩,
      ⟨some 26, some (23, false), .idxS 1 (.t 24) (.t 25)⟩,
      ⟨some 27, some (23, false), .load false 1 (.t 26)⟩,
      ⟨some 28, some (23, false), .call F.ledger_Ledger_Clock [.t 27]⟩,
      ⟨some 29, some (23, false), .bin .neq (.t 28) (.c (.int .i64 0))⟩,
      ⟨some 30, none, .pick (.t 23) (.c (.bool true)) (.t 29)⟩,
      ⟨some 31, none, .mov (.t 30)⟩,
      ⟨some 32, some (31, false), .mov (.t 4)⟩,
      ⟨some 33, some (31, false), .mov (.t 5)⟩,
      ⟨some 34, some (31, false), .idxS 1 (.t 32) (.t 33)⟩,
      ⟨some 35, some (31, false), .load false 1 (.t 34)⟩,
      ⟨some 36, some (31, false), .call F.ledger_Ledger_Free [.t 35]⟩,
      ⟨some 37, some (31, false), .bin .neq (.t 36) (.c (.int .i64 0))⟩,
      ⟨some 38, none, .pick (.t 31) (.c (.bool true)) (.t 37)⟩,
      ⟨some 39, none, .mov (.t 38)⟩,
      ⟨some 40, some (39, false), .mov (.t 4)⟩,
      ⟨some 41, some (39, false), .mov (.t 5)⟩,
      ⟨some 42, some (39, false), .idxS 1 (.t 40) (.t 41)⟩,
      ⟨some 43, some (39, false), .load false 1 (.t 42)⟩,
      ⟨some 44, some (39, false), .call F.ledger_Ledger_Roster [.t 43]⟩,
      ⟨some 45, some (39, false), .eq true .ptr (.t 44) (.c (.pointer none))⟩,
      ⟨some 46, none, .pick (.t 39) (.c (.bool true)) (.t 45)⟩,
      ⟨some 47, none, .mov (.t 46)⟩,
      ⟨some 48, some (47, false), .mov (.t 4)⟩,
      ⟨some 49, some (47, false), .mov (.t 5)⟩,
      ⟨some 50, some (47, false), .idxS 1 (.t 48) (.t 49)⟩,
      ⟨some 51, some (47, false), .load false 1 (.t 50)⟩,
      ⟨some 52, some (47, false), .call F.ledger_Ledger_Cores [.t 51]⟩,
      ⟨some 53, some (47, false), .eq true .ptr (.t 52) (.c (.pointer none))⟩,
      ⟨some 54, none, .pick (.t 47) (.c (.bool true)) (.t 53)⟩,
      ⟨some 55, none, .mov (.t 54)⟩,
      ⟨some 56, some (55, false), .mov (.t 4)⟩,
      ⟨some 57, some (55, false), .mov (.t 5)⟩,
      ⟨some 58, some (55, false), .idxS 1 (.t 56) (.t 57)⟩,
      ⟨some 59, some (55, false), .load false 1 (.t 58)⟩,
      ⟨some 60, some (55, false), .call F.ledger_Ledger_Fork [.t 59]⟩,
      ⟨some 61, some (55, false), .eq true .ptr (.t 60) (.c (.pointer none))⟩,
      ⟨some 62, none, .pick (.t 55) (.c (.bool true)) (.t 61)⟩]
      [[], [], [0, 1], [2], [], [3, 4], [5], [6, 5], [7], [7], [8, 9, 7], [10, 7], [11, 7, 7], [12, 7], [7, 13], [14, 12], [15], [15], [16, 17, 15], [18, 15], [19, 15, 15], [20, 15], [15, 21], [22, 20], [23], [23], [24, 25, 23], [26, 23], [27, 23, 23], [28, 23], [23, 29], [30, 28], [31], [31], [32, 33, 31], [34, 31], [35, 31, 31], [36, 31], [31, 37], [38, 36], [39], [39], [40, 41, 39], [42, 39], [43, 39, 39], [44, 39], [39, 45]]
      [(0, []), (1, []), (2, []), (3, []), (4, []), (5, []), (6, []), (7, []), (8, []), (9, []), (10, []), (11, []), (12, []), (13, []), (14, []), (15, []), (16, []), (17, []), (18, []), (19, []), (20, []), (21, []), (22, []), (23, []), (24, []), (25, []), (26, []), (27, []), (28, []), (29, []), (30, []), (31, []), (32, []), (33, []), (34, []), (35, []), (36, []), (37, []), (38, []), (39, []), (40, []), (41, []), (42, []), (43, []), (44, []), (45, []), (46, [])]
      [[], [], [0, 1], [0, 1, 2], [], [0, 1, 2, 3, 4], [0, 1, 2, 3, 4, 5], [0, 1, 2, 3, 4, 5, 6], [0, 1, 2, 3, 4, 5, 6, 7], [0, 1, 2, 3, 4, 5, 6, 7], [0, 1, 2, 3, 4, 5, 6, 7, 8, 9], [0, 1, 2, 3, 4, 5, 6, 7, 8, 9, 10], [0, 1, 2, 3, 4, 5, 6, 7, 8, 9, 10, 11], [0, 1, 2, 3, 4, 5, 6, 7, 8, 9, 10, 11, 12], [0, 1, 2, 3, 4, 5, 6, 7, 8, 9, 10, 11, 12, 13], [0, 1, 2, 3, 4, 5, 6, 7, 8, 9, 10, 11, 12, 13, 14], [0, 1, 2, 3, 4, 5, 6, 7, 8, 9, 10, 11, 12, 13, 14, 15], [0, 1, 2, 3, 4, 5, 6, 7, 8, 9, 10, 11, 12, 13, 14, 15], [0, 1, 2, 3, 4, 5, 6, 7, 8, 9, 10, 11, 12, 13, 14, 15, 16, 17], [0, 1, 2, 3, 4, 5, 6, 7, 8, 9, 10, 11, 12, 13, 14, 15, 16, 17, 18], [0, 1, 2, 3, 4, 5, 6, 7, 8, 9, 10, 11, 12, 13, 14, 15, 16, 17, 18, 19], [0, 1, 2, 3, 4, 5, 6, 7, 8, 9, 10, 11, 12, 13, 14, 15, 16, 17, 18, 19, 20], [0, 1, 2, 3, 4, 5, 6, 7, 8, 9, 10, 11, 12, 13, 14, 15, 16, 17, 18, 19, 20, 21], [0, 1, 2, 3, 4, 5, 6, 7, 8, 9, 10, 11, 12, 13, 14, 15, 16, 17, 18, 19, 20, 21, 22], [0, 1, 2, 3, 4, 5, 6, 7, 8, 9, 10, 11, 12, 13, 14, 15, 16, 17, 18, 19, 20, 21, 22, 23], [0, 1, 2, 3, 4, 5, 6, 7, 8, 9, 10, 11, 12, 13, 14, 15, 16, 17, 18, 19, 20, 21, 22, 23], [0, 1, 2, 3, 4, 5, 6, 7, 8, 9, 10, 11, 12, 13, 14, 15, 16, 17, 18, 19, 20, 21, 22, 23, 24, 25], [0, 1, 2, 3, 4, 5, 6, 7, 8, 9, 10, 11, 12, 13, 14, 15, 16, 17, 18, 19, 20, 21, 22, 23, 24, 25, 26], [0, 1, 2, 3, 4, 5, 6, 7, 8, 9, 10, 11, 12, 13, 14, 15, 16, 17, 18, 19, 20, 21, 22, 23, 24, 25, 26, 27], [0, 1, 2, 3, 4, 5, 6, 7, 8, 9, 10, 11, 12, 13, 14, 15, 16, 17, 18, 19, 20, 21, 22, 23, 24, 25, 26, 27, 28], [0, 1, 2, 3, 4, 5, 6, 7, 8, 9, 10, 11, 12, 13, 14, 15, 16, 17, 18, 19, 20, 21, 22, 23, 24, 25, 26, 27, 28, 29], [0, 1, 2, 3, 4, 5, 6, 7, 8, 9, 10, 11, 12, 13, 14, 15, 16, 17, 18, 19, 20, 21, 22, 23, 24, 25, 26, 27, 28, 29, 30], [0, 1, 2, 3, 4, 5, 6, 7, 8, 9, 10, 11, 12, 13, 14, 15, 16, 17, 18, 19, 20, 21, 22, 23, 24, 25, 26, 27, 28, 29, 30, 31], [0, 1, 2, 3, 4, 5, 6, 7, 8, 9, 10, 11, 12, 13, 14, 15, 16, 17, 18, 19, 20, 21, 22, 23, 24, 25, 26, 27, 28, 29, 30, 31], [0, 1, 2, 3, 4, 5, 6, 7, 8, 9, 10, 11, 12, 13, 14, 15, 16, 17, 18, 19, 20, 21, 22, 23, 24, 25, 26, 27, 28, 29, 30, 31, 32, 33], [0, 1, 2, 3, 4, 5, 6, 7, 8, 9, 10, 11, 12, 13, 14, 15, 16, 17, 18, 19, 20, 21, 22, 23, 24, 25, 26, 27, 28, 29, 30, 31, 32, 33, 34], [0, 1, 2, 3, 4, 5, 6, 7, 8, 9, 10, 11, 12, 13, 14, 15, 16, 17, 18, 19, 20, 21, 22, 23, 24, 25, 26, 27, 28, 29, 30, 31, 32, 33, 34, 35], [0, 1, 2, 3, 4, 5, 6, 7, 8, 9, 10, 11, 12, 13, 14, 15, 16, 17, 18, 19, 20, 21, 22, 23, 24, 25, 26, 27, 28, 29, 30, 31, 32, 33, 34, 35, 36], [0, 1, 2, 3, 4, 5, 6, 7, 8, 9, 10, 11, 12, 13, 14, 15, 16, 17, 18, 19, 20, 21, 22, 23, 24, 25, 26, 27, 28, 29, 30, 31, 32, 33, 34, 35, 36, 37], [0, 1, 2, 3, 4, 5, 6, 7, 8, 9, 10, 11, 12, 13, 14, 15, 16, 17, 18, 19, 20, 21, 22, 23, 24, 25, 26, 27, 28, 29, 30, 31, 32, 33, 34, 35, 36, 37, 38], [0, 1, 2, 3, 4, 5, 6, 7, 8, 9, 10, 11, 12, 13, 14, 15, 16, 17, 18, 19, 20, 21, 22, 23, 24, 25, 26, 27, 28, 29, 30, 31, 32, 33, 34, 35, 36, 37, 38, 39], [0, 1, 2, 3, 4, 5, 6, 7, 8, 9, 10, 11, 12, 13, 14, 15, 16, 17, 18, 19, 20, 21, 22, 23, 24, 25, 26, 27, 28, 29, 30, 31, 32, 33, 34, 35, 36, 37, 38, 39], [0, 1, 2, 3, 4, 5, 6, 7, 8, 9, 10, 11, 12, 13, 14, 15, 16, 17, 18, 19, 20, 21, 22, 23, 24, 25, 26, 27, 28, 29, 30, 31, 32, 33, 34, 35, 36, 37, 38, 39, 40, 41], [0, 1, 2, 3, 4, 5, 6, 7, 8, 9, 10, 11, 12, 13, 14, 15, 16, 17, 18, 19, 20, 21, 22, 23, 24, 25, 26, 27, 28, 29, 30, 31, 32, 33, 34, 35, 36, 37, 38, 39, 40, 41, 42], [0, 1, 2, 3, 4, 5, 6, 7, 8, 9, 10, 11, 12, 13, 14, 15, 16, 17, 18, 19, 20, 21, 22, 23, 24, 25, 26, 27, 28, 29, 30, 31, 32, 33, 34, 35, 36, 37, 38, 39, 40, 41, 42, 43], [0, 1, 2, 3, 4, 5, 6, 7, 8, 9, 10, 11, 12, 13, 14, 15, 16, 17, 18, 19, 20, 21, 22, 23, 24, 25, 26, 27, 28, 29, 30, 31, 32, 33, 34, 35, 36, 37, 38, 39, 40, 41, 42, 43, 44], [0, 1, 2, 3, 4, 5, 6, 7, 8, 9, 10, 11, 12, 13, 14, 15, 16, 17, 18, 19, 20, 21, 22, 23, 24, 25, 26, 27, 28, 29, 30, 31, 32, 33, 34, 35, 36, 37, 38, 39, 40, 41, 42, 43, 44, 45]]
      [1, 4, 5, 62])
    (.cond (.t 62)
      (.seq (.region [⟨some 2, none, .mov (.c (.bool false))⟩]
        [2])
      .ret)
      .skip)) [1, 4, 5])
  (.region [⟨some 14, none, .mov (.t 5)⟩,
    ⟨some 15, none, .bin .add (.t 14) (.c (.int .i64 1))⟩,
    ⟨some 5, none, .mov (.t 15)⟩]
    [1, 4, 5])))
def RC.law29_LedgerNobody : RFn := ⟨1, [.slot 2],
  (.seq (.region [⟨some 1, none, .box (.t 0)⟩,
    ⟨some 2, none, .mov (.c (.bool false))⟩]
    [1])
  (.seq (.region [⟨some 3, none, .mov (.c (.pointer none))⟩]
    [1, 3])
  (.seq (.region [⟨some 6, none, .mov (.t 3)⟩,
    ⟨some 7, none, .build [(.int .i64 0), (.int .i64 0), (.int .i64 0), (.int .i64 0), (.pointer none), (.pointer none), (.int .i64 0)] []⟩,
    ⟨some 8, none, .box (.t 7)⟩,
    ⟨some 9, none, .bslice [(.pointer none), (.pointer none)] [(0, 1, .t 6), (1, 1, .t 8)] 2 1⟩,
    ⟨some 4, none, .mov (.t 9)⟩]
    [1, 4])
  (.seq (.seq (.region [⟨some 5, none, .mov (.c (.int .i64 0))⟩]
    [1, 4, 5])
  (.block 0
    (.loop [1, 4, 5] RB.law29_LedgerNobody_1) []))
  (.seq (.region [⟨some 63, none, .call F.law29_awake []⟩,
    ⟨some 2, none, .mov (.t 63)⟩]
    [2])
  .ret)))))⟩

def RC.ledger_New : RFn := ⟨1, [.slot 2, .slot 3],
  (.seq (.region [⟨some 1, none, .box (.t 0)⟩,
    ⟨some 2, none, .mov (.c (.pointer none))⟩,
    ⟨some 3, none, .mov (.c (.int .i64 0))⟩]
    [1])
  (.seq (.seq (.region [⟨some 8, none, .load true 4 (.t 1)⟩,
    ⟨some 9, none, .call F.ledger_Check [.t 8]⟩,
    ⟨some 4, none, .mov (.t 9)⟩]
    [1, 4])
  (.seq (.region [⟨some 10, none, .mov (.t 4)⟩,
    ⟨some 11, none, .bin .neq (.t 10) (.c (.int .i64 0))⟩]
    [1, 4, 11])
  (.cond (.t 11)
    (.seq (.region [⟨some 12, none, .mov (.t 4)⟩,
      ⟨some 2, none, .mov (.c (.pointer none))⟩,
      ⟨some 3, none, .mov (.t 12)⟩]
      [2, 3])
    .ret)
    .skip)))
  (.seq (.region [⟨some 14, none, .fieldAddr 0 (.t 1)⟩,
    ⟨some 15, none, .load false 1 (.t 14)⟩,
    ⟨some 16, none, .call F.roster_New [.t 15]⟩,
    ⟨some 13, none, .mov (.t 16)⟩,
    ⟨some 17, none, .ext 0 (.t 13)⟩,
    ⟨some 18, none, .ext 1 (.t 13)⟩,
    ⟨some 5, none, .mov (.t 17)⟩,
    ⟨some 6, none, .mov (.t 18)⟩]
    [1, 5, 6])
  (.seq (.seq (.region [⟨some 19, none, .mov (.t 6)⟩,
    ⟨some 20, none, .bin .neq (.t 19) (.c (.int .i64 0))⟩]
    [1, 5, 6, 20])
  (.cond (.t 20)
    (.seq (.region [⟨some 21, none, .mov (.t 6)⟩,
      ⟨some 2, none, .mov (.c (.pointer none))⟩,
      ⟨some 3, none, .mov (.t 21)⟩]
      [2, 3])
    .ret)
    .skip))
  (.seq (.region [⟨some 23, none, .fieldAddr 1 (.t 1)⟩,
    ⟨some 24, none, .load false 1 (.t 23)⟩,
    ⟨some 25, none, .call F.cores_New [.t 24]⟩,
    ⟨some 22, none, .mov (.t 25)⟩,
    ⟨some 26, none, .ext 0 (.t 22)⟩,
    ⟨some 27, none, .ext 1 (.t 22)⟩,
    ⟨some 7, none, .mov (.t 26)⟩,
    ⟨some 6, none, .mov (.t 27)⟩]
    [1, 5, 6, 7])
  (.seq (.seq (.region [⟨some 28, none, .mov (.t 6)⟩,
    ⟨some 29, none, .bin .neq (.t 28) (.c (.int .i64 0))⟩]
    [1, 5, 6, 7, 29])
  (.cond (.t 29)
    (.seq (.region [⟨some 30, none, .mov (.t 6)⟩,
      ⟨some 2, none, .mov (.c (.pointer none))⟩,
      ⟨some 3, none, .mov (.t 30)⟩]
      [2, 3])
    .ret)
    .skip))
  (.seq (.region [⟨some 31, none, .load true 4 (.t 1)⟩,
    ⟨some 32, none, .mov (.t 5)⟩,
    ⟨some 33, none, .mov (.t 7)⟩,
    ⟨some 34, none, .build [(.int .i64 0), (.int .i64 0), (.int .i64 0), (.int .i64 0), (.pointer none), (.pointer none), (.int .i64 0)] [(0, 4, .t 31), (4, 1, .t 32), (5, 1, .t 33)]⟩,
    ⟨some 35, none, .box (.t 34)⟩,
    ⟨some 2, none, .mov (.t 35)⟩,
    ⟨some 3, none, .mov (.c (.int .i64 0))⟩]
    [2, 3])
  .ret)))))))⟩

def RC.ref29_Right : RFn := ⟨1, [.slot 2],
  (.seq (.region [⟨some 1, none, .box (.t 0)⟩,
    ⟨some 2, none, .mov (.c (.bool false))⟩]
    [1])
  (.seq (.region [⟨some 3, none, .fieldAddr 0 (.t 1)⟩,
    ⟨some 4, none, .load false 1 (.t 3)⟩,
    ⟨some 5, none, .bin .geq (.t 4) (.c (.int .i64 2))⟩,
    ⟨some 6, none, .mov (.t 5)⟩,
    ⟨some 7, some (6, true), .fieldAddr 0 (.t 1)⟩,
    ⟨some 8, some (6, true), .load false 1 (.t 7)⟩,
    ⟨some 9, some (6, true), .bin .leq (.t 8) (.c (.int .i64 64))⟩,
    ⟨some 10, none, .pick (.t 6) (.t 9) (.c (.bool false))⟩,
    ⟨some 11, none, .mov (.t 10)⟩,
    ⟨some 12, some (11, true), .fieldAddr 1 (.t 1)⟩,
    ⟨some 13, some (11, true), .load false 1 (.t 12)⟩,
    ⟨some 14, some (11, true), .bin .geq (.t 13) (.c (.int .i64 1))⟩,
    ⟨some 15, none, .pick (.t 11) (.t 14) (.c (.bool false))⟩,
    ⟨some 16, none, .mov (.t 15)⟩,
    ⟨some 17, some (16, true), .fieldAddr 1 (.t 1)⟩,
    ⟨some 18, some (16, true), .load false 1 (.t 17)⟩,
    ⟨some 19, some (16, true), .bin .leq (.t 18) (.c (.int .i64 16))⟩,
    ⟨some 20, none, .pick (.t 16) (.t 19) (.c (.bool false))⟩,
    ⟨some 21, none, .mov (.t 20)⟩,
    ⟨some 22, some (21, true), .fieldAddr 2 (.t 1)⟩,
    ⟨some 23, some (21, true), .load false 1 (.t 22)⟩,
    ⟨some 24, some (21, true), .bin .geq (.t 23) (.c (.int .i64 1))⟩,
    ⟨some 25, none, .pick (.t 21) (.t 24) (.c (.bool false))⟩,
    ⟨some 26, none, .mov (.t 25)⟩,
    ⟨some 27, some (26, true), .fieldAddr 2 (.t 1)⟩,
    ⟨some 28, some (26, true), .load false 1 (.t 27)⟩,
    ⟨some 29, some (26, true), .bin .leq (.t 28) (.c (.int .i64 8))⟩,
    ⟨some 30, none, .pick (.t 26) (.t 29) (.c (.bool false))⟩,
    ⟨some 31, none, .mov (.t 30)⟩,
    ⟨some 32, some (31, true), .fieldAddr 3 (.t 1)⟩,
    ⟨some 33, some (31, true), .load false 1 (.t 32)⟩,
    ⟨some 34, some (31, true), .bin .geq (.t 33) (.c (.int .i64 2048))⟩,
    ⟨some 35, none, .pick (.t 31) (.t 34) (.c (.bool false))⟩,
    ⟨some 36, none, .mov (.t 35)⟩,
    ⟨some 37, some (36, true), .fieldAddr 3 (.t 1)⟩,
    ⟨some 38, some (36, true), .load false 1 (.t 37)⟩,
    ⟨some 39, some (36, true), .bin .leq (.t 38) (.c (.int .i64 1099511627776))⟩,
    ⟨some 40, none, .pick (.t 36) (.t 39) (.c (.bool false))⟩,
    ⟨some 2, none, .mov (.t 40)⟩]
    [2])
  .ret))⟩

def RC.law29_awake : RFn := ⟨0, [.slot 0],
  (.seq (.region [⟨some 0, none, .mov (.c (.bool false))⟩]
    [])
  (.seq (.region [⟨some 11, none, .call F.law29_Fit []⟩,
    ⟨some 12, none, .call F.ledger_New [.t 11]⟩,
    ⟨some 10, none, .mov (.t 12)⟩,
    ⟨some 13, none, .ext 0 (.t 10)⟩,
    ⟨some 14, none, .ext 1 (.t 10)⟩,
    ⟨some 1, none, .mov (.t 13)⟩,
    ⟨some 2, none, .mov (.t 14)⟩]
    [1, 2])
  (.seq (.seq (.region [⟨some 15, none, .mov (.t 2)⟩,
    ⟨some 16, none, .bin .neq (.t 15) (.c (.int .i64 0))⟩,
    ⟨some 17, none, .mov (.t 16)⟩,
    ⟨some 18, some (17, false), .mov (.t 1)⟩,
    ⟨some 19, some (17, false), .eq false .ptr (.t 18) (.c (.pointer none))⟩,
    ⟨some 20, none, .pick (.t 17) (.c (.bool true)) (.t 19)⟩]
    [1, 20])
  (.cond (.t 20)
    (.seq (.region [⟨some 0, none, .mov (.c (.bool false))⟩]
      [0])
    .ret)
    .skip))
  (.seq (.region [⟨some 21, none, .mov (.t 1)⟩,
    ⟨some 22, none, .build [(.int .i64 0), (.int .i64 0), (.int .i64 0), (.int .i64 0), (.int .i64 0), (.int .i64 0), (.int .i64 0), (.int .i64 0)] [(0, 1, .c (.int .i64 1)), (1, 1, .c (.int .i64 1)), (3, 1, .c (.int .i64 3))]⟩,
    ⟨some 23, none, .call F.ledger_Ledger_Do [.t 21, .t 22]⟩,
    ⟨some 24, none, .mov (.t 1)⟩,
    ⟨some 25, none, .build [(.int .i64 0), (.int .i64 0), (.int .i64 0), (.int .i64 0), (.int .i64 0), (.int .i64 0), (.int .i64 0), (.int .i64 0)] [(0, 1, .c (.int .i64 1)), (1, 1, .c (.int .i64 2)), (3, 1, .c (.int .i64 3))]⟩,
    ⟨some 26, none, .call F.ledger_Ledger_Do [.t 24, .t 25]⟩,
    ⟨some 27, none, .mov (.t 1)⟩,
    ⟨some 28, none, .build [(.int .i64 0), (.int .i64 0), (.int .i64 0), (.int .i64 0), (.int .i64 0), (.int .i64 0), (.int .i64 0), (.int .i64 0)] [(0, 1, .c (.int .i64 1)), (1, 1, .c (.int .i64 3)), (3, 1, .c (.int .i64 2))]⟩,
    ⟨some 29, none, .call F.ledger_Ledger_Do [.t 27, .t 28]⟩,
    ⟨some 3, none, .mov (.t 23)⟩,
    ⟨some 4, none, .mov (.t 26)⟩,
    ⟨some 5, none, .mov (.t 29)⟩]
    [1, 3, 4, 5])
  (.seq (.region [⟨some 30, none, .mov (.t 1)⟩,
    ⟨some 31, none, .build [(.int .i64 0), (.int .i64 0), (.int .i64 0), (.int .i64 0), (.int .i64 0), (.int .i64 0), (.int .i64 0), (.int .i64 0)] [(0, 1, .c (.int .i64 1)), (1, 1, .c (.int .i64 4)), (3, 1, .c (.int .i64 1))]⟩,
    ⟨some 32, none, .call F.ledger_Ledger_Do [.t 30, .t 31]⟩,
    ⟨some 33, none, .mov (.t 1)⟩,
    ⟨some 34, none, .build [(.int .i64 0), (.int .i64 0), (.int .i64 0), (.int .i64 0), (.int .i64 0), (.int .i64 0), (.int .i64 0), (.int .i64 0)] [(0, 1, .c (.int .i64 14))]⟩,
    ⟨some 35, none, .call F.ledger_Ledger_Do [.t 33, .t 34]⟩,
    ⟨some 6, none, .mov (.t 32)⟩,
    ⟨some 7, none, .mov (.t 35)⟩]
    [1, 3, 4, 5, 6, 7])
  (.seq (.region [⟨some 36, none, .mov (.t 1)⟩,
    ⟨some 37, none, .build [(.int .i64 0), (.int .i64 0), (.int .i64 0), (.int .i64 0), (.int .i64 0), (.int .i64 0), (.int .i64 0), (.int .i64 0)] [(0, 1, .c (.int .i64 2)), (1, 1, .c (.int .i64 1))]⟩,
    ⟨some 38, none, .call F.ledger_Ledger_Do [.t 36, .t 37]⟩,
    ⟨some 39, none, .mov (.t 1)⟩,
    ⟨some 40, none, .build [(.int .i64 0), (.int .i64 0), (.int .i64 0), (.int .i64 0), (.int .i64 0), (.int .i64 0), (.int .i64 0), (.int .i64 0)] [(0, 1, .c (.int .i64 2)), (1, 1, .c (.int .i64 2))]⟩,
    ⟨some 41, none, .call F.ledger_Ledger_Do [.t 39, .t 40]⟩,
    ⟨some 8, none, .mov (.t 38)⟩,
    ⟨some 9, none, .mov (.t 41)⟩]
    [1, 3, 4, 5, 6, 7, 8, 9])
  (.seq (.region [⟨some 42, none, .mov (.t 3)⟩,
    ⟨some 43, none, .bin .eql (.t 42) (.c (.int .i64 0))⟩,
    ⟨some 44, none, .mov (.t 43)⟩,
    ⟨some 45, some (44, true), .mov (.t 4)⟩,
    ⟨some 46, some (44, true), .bin .eql (.t 45) (.c (.int .i64 0))⟩,
    ⟨some 47, none, .pick (.t 44) (.t 46) (.c (.bool false))⟩,
    ⟨some 48, none, .mov (.t 47)⟩,
    ⟨some 49, some (48, true), .mov (.t 5)⟩,
    ⟨some 50, some (48, true), .bin .eql (.t 49) (.c (.int .i64 0))⟩,
    ⟨some 51, none, .pick (.t 48) (.t 50) (.c (.bool false))⟩,
    ⟨some 52, none, .mov (.t 51)⟩,
    ⟨some 53, some (52, true), .mov (.t 6)⟩,
    ⟨some 54, some (52, true), .bin .eql (.t 53) (.c (.int .i64 12))⟩,
    ⟨some 55, none, .pick (.t 52) (.t 54) (.c (.bool false))⟩,
    ⟨some 56, none, .mov (.t 55)⟩,
    ⟨some 57, some (56, true), .mov (.t 7)⟩,
    ⟨some 58, some (56, true), .bin .eql (.t 57) (.c (.int .i64 12))⟩,
    ⟨some 59, none, .pick (.t 56) (.t 58) (.c (.bool false))⟩,
    ⟨some 60, none, .mov (.t 59)⟩,
    ⟨some 61, some (60, true), .mov (.t 8)⟩,
    ⟨some 62, some (60, true), .bin .eql (.t 61) (.c (.int .i64 0))⟩,
    ⟨some 63, none, .pick (.t 60) (.t 62) (.c (.bool false))⟩,
    ⟨some 64, none, .mov (.t 63)⟩,
    ⟨some 65, some (64, true), .mov (.t 9)⟩,
    ⟨some 66, some (64, true), .bin .eql (.t 65) (.c (.int .i64 0))⟩,
    ⟨some 67, none, .pick (.t 64) (.t 66) (.c (.bool false))⟩,
    ⟨some 68, none, .mov (.t 67)⟩,
    ⟨some 69, some (68, true), .mov (.t 1)⟩,
    ⟨some 70, some (68, true), .build [(.int .i64 0), (.int .i64 0), (.int .i64 0), (.int .i64 0), (.int .i64 0), (.int .i64 0), (.int .i64 0), (.int .i64 0)] [(0, 1, .c (.int .i64 14))]⟩,
    ⟨some 71, some (68, true), .call F.ledger_Ledger_Do [.t 69, .t 70]⟩,
    ⟨some 72, some (68, true), .bin .eql (.t 71) (.c (.int .i64 0))⟩,
    ⟨some 73, none, .pick (.t 68) (.t 72) (.c (.bool false))⟩,
    ⟨some 74, none, .mov (.t 73)⟩,
    ⟨some 75, some (74, true), .mov (.t 1)⟩,
    ⟨some 76, some (74, true), .call F.ledger_Ledger_Free [.t 75]⟩,
    ⟨some 77, some (74, true), .bin .eql (.t 76) (.c (.int .i64 2))⟩,
    ⟨some 78, none, .pick (.t 74) (.t 77) (.c (.bool false))⟩,
    ⟨some 0, none, .mov (.t 78)⟩]
    [0])
  .ret)))))))⟩

def RC.ledger_Ledger_Do : RFn := ⟨2, [.slot 4],
  (.seq (.region [⟨some 3, none, .box (.t 1)⟩,
    ⟨some 4, none, .mov (.c (.int .i64 0))⟩]
    [0, 3])
  (.seq (.seq (.region [⟨some 7, none, .mov (.t 0)⟩,
    ⟨some 8, none, .call F.ledger_Ledger_none [.t 7]⟩]
    [0, 3, 8])
  (.cond (.t 8)
    (.seq (.region [⟨some 4, none, .mov (.c (.int .i64 2))⟩]
      [4])
    .ret)
    .skip))
  (.seq (.block 0
    (.seq (.region [⟨some 10, none, .fieldAddr 0 (.t 3)⟩,
      ⟨some 11, none, .load false 1 (.t 10)⟩,
      ⟨some 12, none, .bin .geq (.t 11) (.c (.int .i64 1))⟩,
      ⟨some 13, none, .mov (.t 12)⟩,
      ⟨some 14, some (13, true), .fieldAddr 0 (.t 3)⟩,
      ⟨some 15, some (13, true), .load false 1 (.t 14)⟩,
      ⟨some 16, some (13, true), .bin .leq (.t 15) (.c (.int .i64 12))⟩,
      ⟨some 17, none, .pick (.t 13) (.t 16) (.c (.bool false))⟩,
      ⟨some 9, none, .mov (.t 17)⟩]
      [0, 3, 9])
    (.cond (.t 9)
      (.seq (.region [⟨some 18, none, .mov (.t 0)⟩,
        ⟨some 19, none, .load true 8 (.t 3)⟩,
        ⟨some 20, none, .call F.ledger_Ledger_tasks [.t 18, .t 19]⟩,
        ⟨some 4, none, .mov (.t 20)⟩]
        [4])
      .ret)
      (.seq (.region [⟨some 22, none, .fieldAddr 0 (.t 3)⟩,
        ⟨some 23, none, .load false 1 (.t 22)⟩,
        ⟨some 24, none, .bin .eql (.t 23) (.c (.int .i64 13))⟩,
        ⟨some 25, none, .mov (.t 24)⟩,
        ⟨some 26, some (25, false), .fieldAddr 0 (.t 3)⟩,
        ⟨some 27, some (25, false), .load false 1 (.t 26)⟩,
        ⟨some 28, some (25, false), .bin .eql (.t 27) (.c (.int .i64 14))⟩,
        ⟨some 29, none, .pick (.t 25) (.c (.bool true)) (.t 28)⟩,
        ⟨some 21, none, .mov (.t 29)⟩]
        [0, 3, 21])
      (.cond (.t 21)
        (.seq (.region [⟨some 30, none, .mov (.t 0)⟩,
          ⟨some 31, none, .load true 8 (.t 3)⟩,
          ⟨some 32, none, .call F.ledger_Ledger_plug [.t 30, .t 31]⟩,
          ⟨some 4, none, .mov (.t 32)⟩]
          [4])
        .ret)
        (.seq (.region [⟨some 34, none, .fieldAddr 0 (.t 3)⟩,
          ⟨some 35, none, .load false 1 (.t 34)⟩,
          ⟨some 36, none, .bin .eql (.t 35) (.c (.int .i64 16))⟩,
          ⟨some 33, none, .mov (.t 36)⟩]
          [0, 3, 33])
        (.cond (.t 33)
          (.seq (.region [⟨some 37, none, .mov (.t 0)⟩,
            ⟨some 38, none, .fieldAddr 7 (.t 3)⟩,
            ⟨some 39, none, .load false 1 (.t 38)⟩,
            ⟨some 40, none, .call F.ledger_Ledger_ticks [.t 37, .t 39]⟩,
            ⟨some 4, none, .mov (.t 40)⟩]
            [4])
          .ret)
          (.seq (.region [⟨some 42, none, .fieldAddr 0 (.t 3)⟩,
            ⟨some 43, none, .load false 1 (.t 42)⟩,
            ⟨some 44, none, .bin .eql (.t 43) (.c (.int .i64 17))⟩,
            ⟨some 41, none, .mov (.t 44)⟩]
            [0, 3, 41])
          (.cond (.t 41)
            (.seq (.seq (.drawn [⟨some 46, none, .mov (.t 0)⟩,
              ⟨some 47, none, .nilchk (.t 46)⟩,
              ⟨some 48, none, .fieldAddr 4 (.t 47)⟩,
              ⟨some 49, none, .load false 1 (.t 48)⟩,
              ⟨some 50, none, .fieldAddr 1 (.t 3)⟩,
              ⟨some 51, none, .load false 1 (.t 50)⟩,
              ⟨some 52, none, .call F.roster_Roster_Task [.t 49, .t 51]⟩,
              ⟨some 45, none, .mov (.t 52)⟩,
              ⟨some 53, none, .ext 0 (.t 45)⟩,
              ⟨some 54, none, .ext 1 (.t 45)⟩,
              ⟨some 5, none, .alloc [(.int .i64 0), (.int .i64 0), (.int .i64 0), (.int .i64 0), (.int .i64 0), (.bool false)]⟩,
              ⟨none, none, .store 6 (.t 5) (.t 53)⟩,
              ⟨some 6, none, .mov (.t 54)⟩]
              [[], [0], [1], [2], [], [4], [3, 5], [6], [7], [7], [], [10, 8, 6, 0, 1, 2, 3, 4, 5, 6, 7, 8, 10], [9, 11, 0, 1, 2, 3, 4, 5, 6, 7, 8, 9, 10, 11]]
              [(0, []), (1, []), (2, []), (4, []), (3, []), (5, []), (6, []), (7, []), (8, []), (9, []), (10, []), (11, []), (12, [])]
              [[], [0], [0, 1], [0, 1, 2], [], [4], [0, 1, 2, 3, 4, 5], [0, 1, 2, 3, 4, 5, 6], [0, 1, 2, 3, 4, 5, 6, 7], [0, 1, 2, 3, 4, 5, 6, 7], [], [0, 1, 2, 3, 4, 5, 6, 7, 8, 10], [0, 1, 2, 3, 4, 5, 6, 7, 8, 9, 10, 11]]
              [6])
            (.seq (.region [⟨some 55, none, .mov (.t 6)⟩,
              ⟨some 56, none, .un .not (.t 55)⟩]
              [56])
            (.cond (.t 56)
              (.seq (.region [⟨some 4, none, .mov (.c (.int .i64 10))⟩]
                [4])
              .ret)
              .skip)))
            (.seq (.region [⟨some 4, none, .mov (.c (.int .i64 0))⟩]
              [4])
            .ret))
            (.seq (.region [⟨some 58, none, .fieldAddr 0 (.t 3)⟩,
              ⟨some 59, none, .load false 1 (.t 58)⟩,
              ⟨some 60, none, .bin .eql (.t 59) (.c (.int .i64 15))⟩,
              ⟨some 57, none, .mov (.t 60)⟩]
              [57])
            (.cond (.t 57)
              (.seq (.region [⟨some 4, none, .mov (.c (.int .i64 0))⟩]
                [4])
              .ret)
              .skip)))))))))) [])
  (.seq (.region [⟨some 4, none, .mov (.c (.int .i64 1))⟩]
    [4])
  .ret))))⟩

def RC.ledger_Ledger_Free : RFn := ⟨1, [.slot 2],
  (.seq (.region [⟨some 2, none, .mov (.c (.int .i64 0))⟩]
    [0])
  (.seq (.seq (.region [⟨some 3, none, .mov (.t 0)⟩,
    ⟨some 4, none, .call F.ledger_Ledger_none [.t 3]⟩]
    [0, 4])
  (.cond (.t 4)
    (.seq (.region [⟨some 2, none, .mov (.c (.int .i64 0))⟩]
      [2])
    .ret)
    .skip))
  (.seq (.drawn [⟨some 5, none, .mov (.t 0)⟩,
    ⟨some 6, none, .nilchk (.t 5)⟩,
    ⟨some 7, none, .fieldAddr 0 (.t 6)⟩,
    ⟨some 8, none, .fieldAddr 0 (.t 7)⟩,
    ⟨some 9, none, .load false 1 (.t 8)⟩,
    ⟨some 10, none, .mov (.t 0)⟩,
    ⟨some 11, none, .nilchk (.t 10)⟩,
    ⟨some 12, none, .fieldAddr 5 (.t 11)⟩,
    ⟨some 13, none, .load false 1 (.t 12)⟩,
    ⟨some 14, none, .bslice [(.int .i64 0)] [(0, 1, .c (.int .i64 1))] 1 1⟩,
    ⟨some 15, none, .call F.cores_Set_Count [.t 13, .t 14]⟩,
    ⟨some 16, none, .bin .mul (.t 9) (.t 15)⟩,
    ⟨some 17, none, .mov (.t 0)⟩,
    ⟨some 18, none, .nilchk (.t 17)⟩,
    ⟨some 19, none, .fieldAddr 4 (.t 18)⟩,
    ⟨some 20, none, .load false 1 (.t 19)⟩,
    ⟨some 21, none, .call F.roster_Roster_Total [.t 20]⟩,
    ⟨some 22, none, .bin .sub (.t 16) (.t 21)⟩,
    ⟨some 2, none, .mov (.t 22)⟩]
    [[], [0], [1], [2], [3], [], [5], [6], [7], [], [8, 9], [4, 10], [], [12], [13], [14], [15, 10], [11, 16], [17, 16, 0, 1, 2, 3, 4, 5, 6, 7, 8, 9, 10, 11, 12, 13, 14, 15, 16, 17]]
    [(0, []), (1, []), (2, []), (3, []), (5, []), (6, []), (7, []), (12, []), (13, []), (14, []), (4, []), (8, []), (15, []), (9, []), (10, [8, 19]), (11, []), (16, [8]), (17, []), (18, [])]
    [[], [0], [0, 1], [0, 1, 2], [0, 1, 2, 3], [], [5], [5, 6], [5, 6, 7], [], [5, 6, 7, 8, 9], [0, 1, 2, 3, 4, 5, 6, 7, 8, 9, 10], [], [12], [12, 13], [12, 13, 14], [5, 6, 7, 8, 9, 10, 12, 13, 14, 15], [0, 1, 2, 3, 4, 5, 6, 7, 8, 9, 10, 11, 12, 13, 14, 15, 16], [0, 1, 2, 3, 4, 5, 6, 7, 8, 9, 10, 11, 12, 13, 14, 15, 16, 17]]
    [2])
  .ret)))⟩

def RC.ledger_Ledger_Cores : RFn := ⟨1, [.slot 2],
  (.seq (.region [⟨some 2, none, .mov (.c (.pointer none))⟩]
    [0])
  (.seq (.seq (.region [⟨some 3, none, .mov (.t 0)⟩,
    ⟨some 4, none, .call F.ledger_Ledger_none [.t 3]⟩]
    [0, 4])
  (.cond (.t 4)
    (.seq (.region [⟨some 2, none, .mov (.c (.pointer none))⟩]
      [2])
    .ret)
    .skip))
  (.seq (.region [⟨some 5, none, .mov (.t 0)⟩,
    ⟨some 6, none, .nilchk (.t 5)⟩,
    ⟨some 7, none, .fieldAddr 5 (.t 6)⟩,
    ⟨some 8, none, .load false 1 (.t 7)⟩,
    ⟨some 9, none, .call F.cores_Set_Fork [.t 8]⟩,
    ⟨some 2, none, .mov (.t 9)⟩]
    [2])
  .ret)))⟩

def RC.cores_Set_Count : RFn := ⟨2, [.slot 4],
  (.seq (.region [⟨some 4, none, .mov (.c (.int .i64 0))⟩]
    [0, 1])
  (.seq (.region [⟨some 5, none, .mov (.t 0)⟩,
    ⟨some 6, none, .mov (.t 1)⟩,
    ⟨some 7, none, .call F.cores_Set_In [.t 5, .t 6]⟩,
    ⟨some 8, none, .call F.math_bits_OnesCount32 [.t 7]⟩,
    ⟨some 4, none, .mov (.t 8)⟩]
    [4])
  .ret))⟩

def RC.ledger_Ledger_Roster : RFn := ⟨1, [.slot 2],
  (.seq (.region [⟨some 2, none, .mov (.c (.pointer none))⟩]
    [0])
  (.seq (.seq (.region [⟨some 3, none, .mov (.t 0)⟩,
    ⟨some 4, none, .call F.ledger_Ledger_none [.t 3]⟩]
    [0, 4])
  (.cond (.t 4)
    (.seq (.region [⟨some 2, none, .mov (.c (.pointer none))⟩]
      [2])
    .ret)
    .skip))
  (.seq (.region [⟨some 5, none, .mov (.t 0)⟩,
    ⟨some 6, none, .nilchk (.t 5)⟩,
    ⟨some 7, none, .fieldAddr 4 (.t 6)⟩,
    ⟨some 8, none, .load false 1 (.t 7)⟩,
    ⟨some 9, none, .call F.roster_Roster_Fork [.t 8]⟩,
    ⟨some 2, none, .mov (.t 9)⟩]
    [2])
  .ret)))⟩

def RC.roster_Roster_Total : RFn := ⟨1, [.slot 2],
  (.seq (.region [⟨some 2, none, .mov (.c (.int .i64 0))⟩]
    [0])
  (.seq (.region [⟨some 6, none, .mov (.t 0)⟩,
    ⟨some 7, none, .call F.roster_Roster_Units [.t 6]⟩,
    ⟨some 8, none, .call F.order_Total [.t 7]⟩,
    ⟨some 5, none, .mov (.t 8)⟩,
    ⟨some 9, none, .ext 0 (.t 5)⟩,
    ⟨some 10, none, .ext 1 (.t 5)⟩,
    ⟨some 3, none, .mov (.t 9)⟩,
    ⟨some 4, none, .mov (.t 10)⟩]
    [3])
  (.seq (.region [⟨some 11, none, .mov (.t 3)⟩,
    ⟨some 2, none, .mov (.t 11)⟩]
    [2])
  .ret)))⟩

def RB.roster_Roster_Tasks_1 : RCode :=
  (.seq (.region [⟨some 16, none, .bin .lss (.t 15) (.t 14)⟩]
    [0, 3, 13, 14, 15, 16])
  (.seq (.cond (.t 16)
    .skip
    (.exit 0))
  (.seq (.block 1
    (.seq (.region [⟨some 17, none, .idxS 1 (.t 13) (.t 15)⟩,
      ⟨some 18, none, .load false 1 (.t 17)⟩,
      ⟨some 5, none, .mov (.t 18)⟩]
      [0, 3, 5, 13, 14, 15])
    (.region [⟨some 19, none, .mov (.t 3)⟩,
      ⟨some 20, none, .mov (.t 0)⟩,
      ⟨some 21, none, .nilchk (.t 20)⟩,
      ⟨some 22, none, .fieldAddr 1 (.t 21)⟩,
      ⟨some 23, none, .load false 1 (.t 22)⟩,
      ⟨some 24, none, .mov (.t 5)⟩,
      ⟨some 25, none, .look .int (.agg #[(.int .i64 0), (.int .i64 0), (.int .i64 0), (.int .i64 0), (.int .i64 0), (.bool false)]) false (.t 23) (.t 24)⟩,
      ⟨some 26, none, .bslice [(.int .i64 0), (.int .i64 0), (.int .i64 0), (.int .i64 0), (.int .i64 0), (.bool false)] [(0, 6, .t 25)] 1 6⟩,
      ⟨some 27, none, .app 6 48 (.t 19) (.t 26)⟩,
      ⟨some 3, none, .mov (.t 27)⟩]
      [0, 3, 13, 14, 15])) [0, 3, 13, 14, 15])
  (.region [⟨some 28, none, .bin .add (.t 15) (.c (.int .i64 1))⟩,
    ⟨some 15, none, .mov (.t 28)⟩]
    [0, 3, 13, 14, 15]))))
def RC.roster_Roster_Tasks : RFn := ⟨1, [.slot 2],
  (.seq (.region [⟨some 2, none, .mov (.c (.slice none 0 0))⟩]
    [0])
  (.seq (.seq (.region [⟨some 6, none, .mov (.t 0)⟩,
    ⟨some 7, none, .call F.roster_Roster_none [.t 6]⟩]
    [0, 7])
  (.cond (.t 7)
    (.seq (.region [⟨some 2, none, .mov (.c (.slice none 0 0))⟩]
      [2])
    .ret)
    .skip))
  (.seq (.region [⟨some 3, none, .mov (.c (.slice none 0 0))⟩]
    [0, 3])
  (.seq (.seq (.region [⟨some 8, none, .mov (.t 0)⟩,
    ⟨some 9, none, .nilchk (.t 8)⟩,
    ⟨some 10, none, .fieldAddr 1 (.t 9)⟩,
    ⟨some 11, none, .load false 1 (.t 10)⟩,
    ⟨some 12, none, .call F.maps_Keys_map_int_roster_Task_int_roster_Task [.t 11]⟩,
    ⟨some 13, none, .call F.slices_Sorted_int [.t 12]⟩,
    ⟨some 14, none, .len (.t 13)⟩,
    ⟨some 15, none, .mov (.c (.int .i64 0))⟩]
    [0, 3, 13, 14, 15])
  (.block 0
    (.loop [0, 3, 13, 14, 15] RB.roster_Roster_Tasks_1) [3]))
  (.seq (.region [⟨some 29, none, .mov (.t 3)⟩,
    ⟨some 2, none, .mov (.t 29)⟩]
    [2])
  .ret)))))⟩

def RC.ledger_Ledger_Clock : RFn := ⟨1, [.slot 2],
  (.seq (.region [⟨some 2, none, .mov (.c (.int .i64 0))⟩]
    [0])
  (.seq (.seq (.region [⟨some 3, none, .mov (.t 0)⟩,
    ⟨some 4, none, .call F.ledger_Ledger_none [.t 3]⟩]
    [0, 4])
  (.cond (.t 4)
    (.seq (.region [⟨some 2, none, .mov (.c (.int .i64 0))⟩]
      [2])
    .ret)
    .skip))
  (.seq (.region [⟨some 5, none, .mov (.t 0)⟩,
    ⟨some 6, none, .nilchk (.t 5)⟩,
    ⟨some 7, none, .fieldAddr 6 (.t 6)⟩,
    ⟨some 8, none, .load false 1 (.t 7)⟩,
    ⟨some 2, none, .mov (.t 8)⟩]
    [2])
  .ret)))⟩

def RB.cores_Set_In_1 : RCode :=
  (.seq (.region [⟨some 10, none, .bin .lss (.t 9) (.t 8)⟩]
    [0, 1, 5, 8, 9, 10])
  (.seq (.cond (.t 10)
    .skip
    (.exit 0))
  (.seq (.block 1
    (.seq (.region [⟨some 11, none, .mov (.t 9)⟩,
      ⟨some 6, none, .mov (.t 11)⟩]
      [0, 1, 5, 6, 8, 9])
    (.seq (.region [⟨some 12, none, .mov (.t 1)⟩,
      ⟨some 13, none, .mov (.t 0)⟩,
      ⟨some 14, none, .nilchk (.t 13)⟩,
      ⟨some 15, none, .fieldAddr 0 (.t 14)⟩,
      ⟨some 16, none, .load false 1 (.t 15)⟩,
      ⟨some 17, none, .mov (.t 6)⟩,
      ⟨some 18, none, .idxS 1 (.t 16) (.t 17)⟩,
      ⟨some 19, none, .load false 1 (.t 18)⟩,
      ⟨some 20, none, .call F.slices_Contains_int_int [.t 12, .t 19]⟩]
      [0, 1, 5, 6, 8, 9, 20])
    (.cond (.t 20)
      (.region [⟨some 21, none, .mov (.t 5)⟩,
        ⟨some 22, none, .mov (.t 6)⟩,
        ⟨some 23, none, .bin .shl (.c (u32 1#32)) (.t 22)⟩,
        ⟨some 24, none, .bin .or (.t 21) (.t 23)⟩,
        ⟨some 5, none, .mov (.t 24)⟩]
        [0, 1, 5, 8, 9])
      .skip))) [0, 1, 5, 8, 9])
  (.region [⟨some 25, none, .bin .add (.t 9) (.c (.int .i64 1))⟩,
    ⟨some 9, none, .mov (.t 25)⟩]
    [0, 1, 5, 8, 9]))))
def RC.cores_Set_In : RFn := ⟨2, [.slot 4],
  (.seq (.region [⟨some 4, none, .mov (.c (u32 0#32))⟩]
    [0, 1])
  (.seq (.region [⟨some 5, none, .mov (.c (u32 0#32))⟩]
    [0, 1, 5])
  (.seq (.seq (.region [⟨some 7, none, .mov (.t 0)⟩,
    ⟨some 8, none, .call F.cores_Set_Len [.t 7]⟩,
    ⟨some 9, none, .mov (.c (.int .i64 0))⟩]
    [0, 1, 5, 8, 9])
  (.block 0
    (.loop [0, 1, 5, 8, 9] RB.cores_Set_In_1) [5]))
  (.seq (.region [⟨some 26, none, .mov (.t 5)⟩,
    ⟨some 4, none, .mov (.t 26)⟩]
    [4])
  .ret))))⟩

def RC.ledger_Ledger_Fork : RFn := ⟨1, [.slot 2],
  (.seq (.region [⟨some 2, none, .mov (.c (.pointer none))⟩]
    [0])
  (.seq (.seq (.region [⟨some 3, none, .mov (.t 0)⟩,
    ⟨some 4, none, .call F.ledger_Ledger_none [.t 3]⟩]
    [0, 4])
  (.cond (.t 4)
    (.seq (.region [⟨some 2, none, .mov (.c (.pointer none))⟩]
      [2])
    .ret)
    .skip))
  (.seq (.drawn [⟨some 5, none, .mov (.t 0)⟩,
    ⟨some 6, none, .nilchk (.t 5)⟩,
    ⟨some 7, none, .fieldAddr 0 (.t 6)⟩,
    ⟨some 8, none, .load true 4 (.t 7)⟩,
    ⟨some 9, none, .mov (.t 0)⟩,
    ⟨some 10, none, .nilchk (.t 9)⟩,
    ⟨some 11, none, .fieldAddr 4 (.t 10)⟩,
    ⟨some 12, none, .load false 1 (.t 11)⟩,
    ⟨some 13, none, .call F.roster_Roster_Fork [.t 12]⟩,
    ⟨some 14, none, .mov (.t 0)⟩,
    ⟨some 15, none, .nilchk (.t 14)⟩,
    ⟨some 16, none, .fieldAddr 5 (.t 15)⟩,
    ⟨some 17, none, .load false 1 (.t 16)⟩,
    ⟨some 18, none, .call F.cores_Set_Fork [.t 17]⟩,
    ⟨some 19, none, .mov (.t 0)⟩,
    ⟨some 20, none, .nilchk (.t 19)⟩,
    ⟨some 21, none, .fieldAddr 6 (.t 20)⟩,
    ⟨some 22, none, .load false 1 (.t 21)⟩,
    ⟨some 23, none, .build [(.int .i64 0), (.int .i64 0), (.int .i64 0), (.int .i64 0), (.pointer none), (.pointer none), (.int .i64 0)] [(0, 4, .t 8), (4, 1, .t 13), (5, 1, .t 18), (6, 1, .t 22)]⟩,
    ⟨some 24, none, .box (.t 23)⟩,
    ⟨some 2, none, .mov (.t 24)⟩]
    [[], [0], [1], [2], [], [4], [5], [6], [7], [], [9], [10], [11], [12, 8], [], [14], [15], [16], [3, 8, 13, 17], [18], [19, 13, 0, 1, 2, 3, 4, 5, 6, 7, 8, 9, 10, 11, 12, 13, 14, 15, 16, 17, 18, 19]]
    [(0, []), (1, []), (2, []), (4, []), (5, []), (6, []), (9, []), (10, []), (11, []), (14, []), (15, []), (16, []), (3, []), (7, []), (12, []), (17, []), (8, [7, 16, 21]), (13, [7, 21]), (18, []), (19, []), (20, [])]
    [[], [0], [0, 1], [0, 1, 2], [], [4], [4, 5], [4, 5, 6], [4, 5, 6, 7], [], [9], [9, 10], [9, 10, 11], [4, 5, 6, 7, 8, 9, 10, 11, 12], [], [14], [14, 15], [14, 15, 16], [0, 1, 2, 3, 4, 5, 6, 7, 8, 9, 10, 11, 12, 13, 14, 15, 16, 17], [0, 1, 2, 3, 4, 5, 6, 7, 8, 9, 10, 11, 12, 13, 14, 15, 16, 17, 18], [0, 1, 2, 3, 4, 5, 6, 7, 8, 9, 10, 11, 12, 13, 14, 15, 16, 17, 18, 19]]
    [2])
  .ret)))⟩

def RC.ledger_Check : RFn := ⟨1, [.slot 2],
  (.seq (.region [⟨some 1, none, .box (.t 0)⟩,
    ⟨some 2, none, .mov (.c (.int .i64 0))⟩]
    [1])
  (.seq (.region [⟨some 4, none, .fieldAddr 0 (.t 1)⟩,
    ⟨some 5, none, .load false 1 (.t 4)⟩,
    ⟨some 6, none, .bin .geq (.t 5) (.c (.int .i64 2))⟩,
    ⟨some 7, none, .mov (.t 6)⟩,
    ⟨some 8, some (7, true), .fieldAddr 0 (.t 1)⟩,
    ⟨some 9, some (7, true), .load false 1 (.t 8)⟩,
    ⟨some 10, some (7, true), .bin .leq (.t 9) (.c (.int .i64 64))⟩,
    ⟨some 11, none, .pick (.t 7) (.t 10) (.c (.bool false))⟩,
    ⟨some 12, none, .mov (.t 11)⟩,
    ⟨some 13, some (12, true), .fieldAddr 1 (.t 1)⟩,
    ⟨some 14, some (12, true), .load false 1 (.t 13)⟩,
    ⟨some 15, some (12, true), .bin .geq (.t 14) (.c (.int .i64 1))⟩,
    ⟨some 16, none, .pick (.t 12) (.t 15) (.c (.bool false))⟩,
    ⟨some 17, none, .mov (.t 16)⟩,
    ⟨some 18, some (17, true), .fieldAddr 1 (.t 1)⟩,
    ⟨some 19, some (17, true), .load false 1 (.t 18)⟩,
    ⟨some 20, some (17, true), .bin .leq (.t 19) (.c (.int .i64 16))⟩,
    ⟨some 21, none, .pick (.t 17) (.t 20) (.c (.bool false))⟩,
    ⟨some 3, none, .mov (.t 21)⟩]
    [1, 3])
  (.seq (.region [⟨some 22, none, .mov (.t 3)⟩,
    ⟨some 23, none, .mov (.t 22)⟩,
    ⟨some 24, some (23, true), .fieldAddr 2 (.t 1)⟩,
    ⟨some 25, some (23, true), .load false 1 (.t 24)⟩,
    ⟨some 26, some (23, true), .bin .geq (.t 25) (.c (.int .i64 1))⟩,
    ⟨some 27, none, .pick (.t 23) (.t 26) (.c (.bool false))⟩,
    ⟨some 28, none, .mov (.t 27)⟩,
    ⟨some 29, some (28, true), .fieldAddr 2 (.t 1)⟩,
    ⟨some 30, some (28, true), .load false 1 (.t 29)⟩,
    ⟨some 31, some (28, true), .bin .leq (.t 30) (.c (.int .i64 8))⟩,
    ⟨some 32, none, .pick (.t 28) (.t 31) (.c (.bool false))⟩,
    ⟨some 33, none, .mov (.t 32)⟩,
    ⟨some 34, some (33, true), .fieldAddr 3 (.t 1)⟩,
    ⟨some 35, some (33, true), .load false 1 (.t 34)⟩,
    ⟨some 36, some (33, true), .bin .geq (.t 35) (.c (.int .i64 2048))⟩,
    ⟨some 37, none, .pick (.t 33) (.t 36) (.c (.bool false))⟩,
    ⟨some 38, none, .mov (.t 37)⟩,
    ⟨some 39, some (38, true), .fieldAddr 3 (.t 1)⟩,
    ⟨some 40, some (38, true), .load false 1 (.t 39)⟩,
    ⟨some 41, some (38, true), .bin .leq (.t 40) (.c (.int .i64 1099511627776))⟩,
    ⟨some 42, none, .pick (.t 38) (.t 41) (.c (.bool false))⟩,
    ⟨some 3, none, .mov (.t 42)⟩]
    [3])
  (.seq (.seq (.region [⟨some 43, none, .mov (.t 3)⟩,
    ⟨some 44, none, .un .not (.t 43)⟩]
    [44])
  (.cond (.t 44)
    (.seq (.region [⟨some 2, none, .mov (.c (.int .i64 1))⟩]
      [2])
    .ret)
    .skip))
  (.seq (.region [⟨some 2, none, .mov (.c (.int .i64 0))⟩]
    [2])
  .ret)))))⟩

def RC.roster_New : RFn := ⟨1, [.slot 2, .slot 3],
  (.seq (.region [⟨some 2, none, .mov (.c (.pointer none))⟩,
    ⟨some 3, none, .mov (.c (.int .i64 0))⟩]
    [0])
  (.seq (.seq (.region [⟨some 4, none, .mov (.t 0)⟩,
    ⟨some 5, none, .bin .lss (.t 4) (.c (.int .i64 2))⟩,
    ⟨some 6, none, .mov (.t 5)⟩,
    ⟨some 7, some (6, false), .mov (.t 0)⟩,
    ⟨some 8, some (6, false), .bin .gtr (.t 7) (.c (.int .i64 64))⟩,
    ⟨some 9, none, .pick (.t 6) (.c (.bool true)) (.t 8)⟩]
    [0, 9])
  (.cond (.t 9)
    (.seq (.region [⟨some 2, none, .mov (.c (.pointer none))⟩,
      ⟨some 3, none, .mov (.c (.int .i64 1))⟩]
      [2, 3])
    .ret)
    .skip))
  (.seq (.region [⟨some 10, none, .mov (.t 0)⟩,
    ⟨some 11, none, .mkmap⟩,
    ⟨some 12, none, .mkmap⟩,
    ⟨some 13, none, .build [(.int .i64 0), (.map none), (.map none)] [(0, 1, .t 10), (1, 1, .t 11), (2, 1, .t 12)]⟩,
    ⟨some 14, none, .box (.t 13)⟩,
    ⟨some 2, none, .mov (.t 14)⟩,
    ⟨some 3, none, .mov (.c (.int .i64 0))⟩]
    [2, 3])
  .ret)))⟩

def RC.cores_New : RFn := ⟨1, [.slot 2, .slot 3],
  (.seq (.region [⟨some 2, none, .mov (.c (.pointer none))⟩,
    ⟨some 3, none, .mov (.c (.int .i64 0))⟩]
    [0])
  (.seq (.seq (.region [⟨some 4, none, .mov (.t 0)⟩,
    ⟨some 5, none, .bin .lss (.t 4) (.c (.int .i64 1))⟩,
    ⟨some 6, none, .mov (.t 5)⟩,
    ⟨some 7, some (6, false), .mov (.t 0)⟩,
    ⟨some 8, some (6, false), .bin .gtr (.t 7) (.c (.int .i64 16))⟩,
    ⟨some 9, none, .pick (.t 6) (.c (.bool true)) (.t 8)⟩]
    [0, 9])
  (.cond (.t 9)
    (.seq (.region [⟨some 2, none, .mov (.c (.pointer none))⟩,
      ⟨some 3, none, .mov (.c (.int .i64 1))⟩]
      [2, 3])
    .ret)
    .skip))
  (.seq (.region [⟨some 10, none, .bslice [(.int .i64 0)] [(0, 1, .c (.int .i64 1))] 1 1⟩,
    ⟨some 11, none, .mov (.t 0)⟩,
    ⟨some 12, none, .call F.slices_Repeat_int_int [.t 10, .t 11]⟩,
    ⟨some 13, none, .build [(.slice none 0 0)] [(0, 1, .t 12)]⟩,
    ⟨some 14, none, .box (.t 13)⟩,
    ⟨some 2, none, .mov (.t 14)⟩,
    ⟨some 3, none, .mov (.c (.int .i64 0))⟩]
    [2, 3])
  .ret)))⟩

def RC.law29_Fit : RFn := ⟨0, [.cell 0 true 4],
  (.seq (.region [⟨some 0, none, .alloc [(.int .i64 0), (.int .i64 0), (.int .i64 0), (.int .i64 0)]⟩]
    [0])
  (.seq (.region [⟨some 1, none, .build [(.int .i64 0), (.int .i64 0), (.int .i64 0), (.int .i64 0)] [(0, 1, .c (.int .i64 4)), (1, 1, .c (.int .i64 2)), (2, 1, .c (.int .i64 1)), (3, 1, .c (.int .i64 2048))]⟩,
    ⟨none, none, .store 4 (.t 0) (.t 1)⟩]
    [0])
  .ret))⟩

def RC.ledger_Ledger_none : RFn := ⟨1, [.slot 2],
  (.seq (.region [⟨some 2, none, .mov (.c (.bool false))⟩]
    [0])
  (.seq (.region [⟨some 3, none, .mov (.t 0)⟩,
    ⟨some 4, none, .eq false .ptr (.t 3) (.c (.pointer none))⟩,
    ⟨some 5, none, .mov (.t 4)⟩,
    ⟨some 6, some (5, false), .mov (.t 0)⟩,
    ⟨some 7, some (5, false), .nilchk (.t 6)⟩,
    ⟨some 8, some (5, false), .fieldAddr 4 (.t 7)⟩,
    ⟨some 9, some (5, false), .load false 1 (.t 8)⟩,
    ⟨some 10, some (5, false), .eq false .ptr (.t 9) (.c (.pointer none))⟩,
    ⟨some 11, none, .pick (.t 5) (.c (.bool true)) (.t 10)⟩,
    ⟨some 2, none, .mov (.t 11)⟩]
    [2])
  .ret))⟩

def RC.ledger_Ledger_tasks : RFn := ⟨2, [.slot 4],
  (.seq (.region [⟨some 3, none, .box (.t 1)⟩,
    ⟨some 4, none, .mov (.c (.int .i64 0))⟩]
    [0, 3])
  (.seq (.region [⟨some 7, none, .mov (.t 0)⟩,
    ⟨some 8, none, .nilchk (.t 7)⟩,
    ⟨some 9, none, .fieldAddr 4 (.t 8)⟩,
    ⟨some 10, none, .load false 1 (.t 9)⟩,
    ⟨some 11, none, .call F.roster_Roster_Fork [.t 10]⟩,
    ⟨some 5, none, .mov (.t 11)⟩]
    [0, 3, 5])
  (.seq (.seq (.region [⟨some 12, none, .mov (.t 5)⟩,
    ⟨some 13, none, .load true 8 (.t 3)⟩,
    ⟨some 14, none, .call F.ledger_list [.t 12, .t 13]⟩,
    ⟨some 6, none, .mov (.t 14)⟩]
    [0, 5, 6])
  (.seq (.region [⟨some 15, none, .mov (.t 6)⟩,
    ⟨some 16, none, .bin .neq (.t 15) (.c (.int .i64 0))⟩]
    [0, 5, 6, 16])
  (.cond (.t 16)
    (.seq (.region [⟨some 17, none, .mov (.t 6)⟩,
      ⟨some 4, none, .mov (.t 17)⟩]
      [4])
    .ret)
    .skip)))
  (.seq (.seq (.region [⟨some 18, none, .mov (.t 0)⟩,
    ⟨some 19, none, .mov (.t 5)⟩,
    ⟨some 20, none, .mov (.t 0)⟩,
    ⟨some 21, none, .nilchk (.t 20)⟩,
    ⟨some 22, none, .fieldAddr 5 (.t 21)⟩,
    ⟨some 23, none, .load false 1 (.t 22)⟩,
    ⟨some 24, none, .call F.ledger_Ledger_room [.t 18, .t 19, .t 23]⟩,
    ⟨some 25, none, .un .not (.t 24)⟩]
    [0, 5, 25])
  (.cond (.t 25)
    (.seq (.region [⟨some 4, none, .mov (.c (.int .i64 12))⟩]
      [4])
    .ret)
    .skip))
  (.seq (.region [⟨some 26, none, .mov (.t 0)⟩,
    ⟨some 27, none, .mov (.t 5)⟩,
    ⟨some 28, none, .nilchk (.t 26)⟩,
    ⟨some 29, none, .fieldAddr 4 (.t 28)⟩,
    ⟨none, none, .store 1 (.t 29) (.t 27)⟩]
    [])
  (.seq (.region [⟨some 4, none, .mov (.c (.int .i64 0))⟩]
    [4])
  .ret))))))⟩

def RC.ledger_Ledger_plug : RFn := ⟨2, [.slot 4],
  (.seq (.region [⟨some 3, none, .box (.t 1)⟩,
    ⟨some 4, none, .mov (.c (.int .i64 0))⟩]
    [0, 3])
  (.seq (.region [⟨some 7, none, .mov (.t 0)⟩,
    ⟨some 8, none, .nilchk (.t 7)⟩,
    ⟨some 9, none, .fieldAddr 5 (.t 8)⟩,
    ⟨some 10, none, .load false 1 (.t 9)⟩,
    ⟨some 11, none, .call F.cores_Set_Fork [.t 10]⟩,
    ⟨some 5, none, .mov (.t 11)⟩]
    [0, 3, 5])
  (.seq (.region [⟨some 6, none, .mov (.c (.int .i64 0))⟩]
    [0, 3, 5])
  (.seq (.seq (.region [⟨some 12, none, .fieldAddr 0 (.t 3)⟩,
    ⟨some 13, none, .load false 1 (.t 12)⟩,
    ⟨some 14, none, .bin .eql (.t 13) (.c (.int .i64 13))⟩]
    [0, 3, 5, 14])
  (.cond (.t 14)
    (.region [⟨some 15, none, .mov (.t 5)⟩,
      ⟨some 16, none, .fieldAddr 6 (.t 3)⟩,
      ⟨some 17, none, .load false 1 (.t 16)⟩,
      ⟨some 18, none, .call F.cores_Set_Plug [.t 15, .t 17]⟩,
      ⟨some 6, none, .mov (.t 18)⟩]
      [0, 5, 6])
    (.region [⟨some 19, none, .mov (.t 5)⟩,
      ⟨some 20, none, .fieldAddr 6 (.t 3)⟩,
      ⟨some 21, none, .load false 1 (.t 20)⟩,
      ⟨some 22, none, .call F.cores_Set_Unplug [.t 19, .t 21]⟩,
      ⟨some 6, none, .mov (.t 22)⟩]
      [0, 5, 6])))
  (.seq (.seq (.region [⟨some 23, none, .mov (.t 6)⟩,
    ⟨some 24, none, .bin .neq (.t 23) (.c (.int .i64 0))⟩]
    [0, 5, 6, 24])
  (.cond (.t 24)
    (.seq (.region [⟨some 25, none, .mov (.t 6)⟩,
      ⟨some 4, none, .mov (.t 25)⟩]
      [4])
    .ret)
    .skip))
  (.seq (.seq (.region [⟨some 26, none, .mov (.t 0)⟩,
    ⟨some 27, none, .mov (.t 0)⟩,
    ⟨some 28, none, .nilchk (.t 27)⟩,
    ⟨some 29, none, .fieldAddr 4 (.t 28)⟩,
    ⟨some 30, none, .load false 1 (.t 29)⟩,
    ⟨some 31, none, .mov (.t 5)⟩,
    ⟨some 32, none, .call F.ledger_Ledger_room [.t 26, .t 30, .t 31]⟩,
    ⟨some 33, none, .un .not (.t 32)⟩]
    [0, 5, 33])
  (.cond (.t 33)
    (.seq (.region [⟨some 4, none, .mov (.c (.int .i64 12))⟩]
      [4])
    .ret)
    .skip))
  (.seq (.region [⟨some 34, none, .mov (.t 0)⟩,
    ⟨some 35, none, .mov (.t 5)⟩,
    ⟨some 36, none, .nilchk (.t 34)⟩,
    ⟨some 37, none, .fieldAddr 5 (.t 36)⟩,
    ⟨none, none, .store 1 (.t 37) (.t 35)⟩]
    [])
  (.seq (.region [⟨some 4, none, .mov (.c (.int .i64 0))⟩]
    [4])
  .ret))))))))⟩

def RB.ledger_Ledger_ticks_1 : RCode :=
  (.seq (.region [⟨some 13, none, .bin .lss (.t 12) (.t 11)⟩]
    [0, 11, 12, 13])
  (.seq (.cond (.t 13)
    .skip
    (.exit 0))
  (.seq (.block 1
    (.seq (.seq (.drawn [⟨some 14, none, .mov (.t 0)⟩,
      ⟨some 15, none, .nilchk (.t 14)⟩,
      ⟨some 16, none, .fieldAddr 6 (.t 15)⟩,
      ⟨some 17, none, .load false 1 (.t 16)⟩,
      ⟨some 18, none, .mov (.t 0)⟩,
      ⟨some 19, none, .nilchk (.t 18)⟩,
      ⟨some 20, none, .fieldAddr 0 (.t 19)⟩,
      ⟨some 21, none, .fieldAddr 0 (.t 20)⟩,
      ⟨some 22, none, .load false 1 (.t 21)⟩,
      ⟨some 23, none, .bin .rem (.t 17) (.t 22)⟩,
      ⟨some 24, none, .bin .eql (.t 23) (.c (.int .i64 0))⟩]
      [[], [0], [1], [2], [], [4], [5], [6], [7], [3, 8], [9]]
      [(0, []), (1, []), (2, []), (4, []), (5, []), (6, []), (7, []), (3, []), (8, []), (9, []), (10, [])]
      [[], [0], [0, 1], [0, 1, 2], [], [4], [4, 5], [4, 5, 6], [4, 5, 6, 7], [0, 1, 2, 3, 4, 5, 6, 7, 8], [0, 1, 2, 3, 4, 5, 6, 7, 8, 9]]
      [0, 11, 12, 24])
    (.cond (.t 24)
      (.region [⟨some 25, none, .mov (.t 0)⟩,
        ⟨some 26, none, .nilchk (.t 25)⟩,
        ⟨some 27, none, .fieldAddr 5 (.t 26)⟩,
        ⟨some 28, none, .load false 1 (.t 27)⟩,
        ⟨some 29, none, .call F.cores_Set_Turn [.t 28]⟩]
        [0, 11, 12])
      .skip))
    (.region [⟨some 30, none, .mov (.t 0)⟩,
      ⟨some 31, none, .nilchk (.t 30)⟩,
      ⟨some 32, none, .fieldAddr 6 (.t 31)⟩,
      ⟨some 33, none, .load false 1 (.t 32)⟩,
      ⟨some 34, none, .bin .add (.t 33) (.c (.int .i64 1))⟩,
      ⟨some 35, none, .nilchk (.t 30)⟩,
      ⟨some 36, none, .fieldAddr 6 (.t 35)⟩,
      ⟨none, none, .store 1 (.t 36) (.t 34)⟩]
      [0, 11, 12])) [0, 11, 12])
  (.region [⟨some 37, none, .bin .add (.t 12) (.c (.int .i64 1))⟩,
    ⟨some 12, none, .mov (.t 37)⟩]
    [0, 11, 12]))))
def RC.ledger_Ledger_ticks : RFn := ⟨2, [.slot 4],
  (.seq (.region [⟨some 4, none, .mov (.c (.int .i64 0))⟩]
    [0, 1])
  (.seq (.seq (.region [⟨some 5, none, .mov (.t 1)⟩,
    ⟨some 6, none, .bin .lss (.t 5) (.c (.int .i64 1))⟩,
    ⟨some 7, none, .mov (.t 6)⟩,
    ⟨some 8, some (7, false), .mov (.t 1)⟩,
    ⟨some 9, some (7, false), .bin .gtr (.t 8) (.c (.int .i64 1024))⟩,
    ⟨some 10, none, .pick (.t 7) (.c (.bool true)) (.t 9)⟩]
    [0, 1, 10])
  (.cond (.t 10)
    (.seq (.region [⟨some 4, none, .mov (.c (.int .i64 1))⟩]
      [4])
    .ret)
    .skip))
  (.seq (.seq (.region [⟨some 11, none, .mov (.t 1)⟩,
    ⟨some 12, none, .mov (.c (.int .i64 0))⟩]
    [0, 11, 12])
  (.block 0
    (.loop [0, 11, 12] RB.ledger_Ledger_ticks_1) []))
  (.seq (.region [⟨some 4, none, .mov (.c (.int .i64 0))⟩]
    [4])
  .ret))))⟩

def RC.roster_Roster_Task : RFn := ⟨2, [.cell 4 true 6, .slot 5],
  (.seq (.region [⟨some 4, none, .alloc [(.int .i64 0), (.int .i64 0), (.int .i64 0), (.int .i64 0), (.int .i64 0), (.bool false)]⟩,
    ⟨some 5, none, .mov (.c (.bool false))⟩]
    [0, 1, 4])
  (.seq (.region [⟨some 9, none, .mov (.t 0)⟩,
    ⟨some 10, none, .mov (.t 1)⟩,
    ⟨some 11, none, .call F.roster_Roster_one [.t 9, .t 10]⟩,
    ⟨some 8, none, .mov (.t 11)⟩,
    ⟨some 12, none, .ext 0 (.t 8)⟩,
    ⟨some 13, none, .ext 1 (.t 8)⟩,
    ⟨some 6, none, .alloc [(.int .i64 0), (.int .i64 0), (.int .i64 0), (.int .i64 0), (.int .i64 0), (.bool false)]⟩,
    ⟨none, none, .store 6 (.t 6) (.t 12)⟩,
    ⟨some 7, none, .mov (.t 13)⟩]
    [4, 6, 7])
  (.seq (.region [⟨some 14, none, .load true 6 (.t 6)⟩,
    ⟨some 15, none, .mov (.t 7)⟩,
    ⟨some 16, none, .bin .eql (.t 15) (.c (.int .i64 0))⟩,
    ⟨none, none, .store 6 (.t 4) (.t 14)⟩,
    ⟨some 5, none, .mov (.t 16)⟩]
    [4, 5])
  .ret)))⟩

def RC.cores_Set_Fork : RFn := ⟨1, [.slot 2],
  (.seq (.region [⟨some 2, none, .mov (.c (.pointer none))⟩]
    [0])
  (.seq (.seq (.region [⟨some 3, none, .mov (.t 0)⟩,
    ⟨some 4, none, .call F.cores_Set_Len [.t 3]⟩,
    ⟨some 5, none, .bin .eql (.t 4) (.c (.int .i64 0))⟩]
    [0, 5])
  (.cond (.t 5)
    (.seq (.region [⟨some 2, none, .mov (.c (.pointer none))⟩]
      [2])
    .ret)
    .skip))
  (.seq (.region [⟨some 6, none, .mov (.t 0)⟩,
    ⟨some 7, none, .nilchk (.t 6)⟩,
    ⟨some 8, none, .fieldAddr 0 (.t 7)⟩,
    ⟨some 9, none, .load false 1 (.t 8)⟩,
    ⟨some 10, none, .call F.slices_Clone_int_int [.t 9]⟩,
    ⟨some 11, none, .build [(.slice none 0 0)] [(0, 1, .t 10)]⟩,
    ⟨some 12, none, .box (.t 11)⟩,
    ⟨some 2, none, .mov (.t 12)⟩]
    [2])
  .ret)))⟩

def RC.math_bits_OnesCount32 : RFn := ⟨1, [.slot 2],
  (.seq (.region [⟨some 2, none, .mov (.c (.int .i64 0))⟩]
    [0])
  (.seq (.drawn [⟨some 3, none, .mov (.t 0)⟩,
    ⟨some 4, none, .bin .shr (.t 3) (.c (u64 24#64))⟩,
    ⟨some 5, none, .idxStr (.c (.string ⟨#[0, 1, 1, 2, 1, 2, 2, 3, 1, 2, 2, 3, 2, 3, 3, 4, 1, 2, 2, 3, 2, 3, 3, 4, 2, 3, 3, 4, 3, 4, 4, 5, 1, 2, 2, 3, 2, 3, 3, 4, 2, 3, 3, 4, 3, 4, 4, 5, 2, 3, 3, 4, 3, 4, 4, 5, 3, 4, 4, 5, 4, 5, 5, 6, 1, 2, 2, 3, 2, 3, 3, 4, 2, 3, 3, 4, 3, 4, 4, 5, 2, 3, 3, 4, 3, 4, 4, 5, 3, 4, 4, 5, 4, 5, 5, 6, 2, 3, 3, 4, 3, 4, 4, 5, 3, 4, 4, 5, 4, 5, 5, 6, 3, 4, 4, 5, 4, 5, 5, 6, 4, 5, 5, 6, 5, 6, 6, 7, 1, 2, 2, 3, 2, 3, 3, 4, 2, 3, 3, 4, 3, 4, 4, 5, 2, 3, 3, 4, 3, 4, 4, 5, 3, 4, 4, 5, 4, 5, 5, 6, 2, 3, 3, 4, 3, 4, 4, 5, 3, 4, 4, 5, 4, 5, 5, 6, 3, 4, 4, 5, 4, 5, 5, 6, 4, 5, 5, 6, 5, 6, 6, 7, 2, 3, 3, 4, 3, 4, 4, 5, 3, 4, 4, 5, 4, 5, 5, 6, 3, 4, 4, 5, 4, 5, 5, 6, 4, 5, 5, 6, 5, 6, 6, 7, 3, 4, 4, 5, 4, 5, 5, 6, 4, 5, 5, 6, 5, 6, 6, 7, 4, 5, 5, 6, 5, 6, 6, 7, 5, 6, 6, 7, 6, 7, 7, 8]⟩)) (.t 4)⟩,
    ⟨some 6, none, .mov (.t 0)⟩,
    ⟨some 7, none, .bin .shr (.t 6) (.c (u64 16#64))⟩,
    ⟨some 8, none, .bin .and (.t 7) (.c (u32 255#32))⟩,
    ⟨some 9, none, .idxStr (.c (.string ⟨#[0, 1, 1, 2, 1, 2, 2, 3, 1, 2, 2, 3, 2, 3, 3, 4, 1, 2, 2, 3, 2, 3, 3, 4, 2, 3, 3, 4, 3, 4, 4, 5, 1, 2, 2, 3, 2, 3, 3, 4, 2, 3, 3, 4, 3, 4, 4, 5, 2, 3, 3, 4, 3, 4, 4, 5, 3, 4, 4, 5, 4, 5, 5, 6, 1, 2, 2, 3, 2, 3, 3, 4, 2, 3, 3, 4, 3, 4, 4, 5, 2, 3, 3, 4, 3, 4, 4, 5, 3, 4, 4, 5, 4, 5, 5, 6, 2, 3, 3, 4, 3, 4, 4, 5, 3, 4, 4, 5, 4, 5, 5, 6, 3, 4, 4, 5, 4, 5, 5, 6, 4, 5, 5, 6, 5, 6, 6, 7, 1, 2, 2, 3, 2, 3, 3, 4, 2, 3, 3, 4, 3, 4, 4, 5, 2, 3, 3, 4, 3, 4, 4, 5, 3, 4, 4, 5, 4, 5, 5, 6, 2, 3, 3, 4, 3, 4, 4, 5, 3, 4, 4, 5, 4, 5, 5, 6, 3, 4, 4, 5, 4, 5, 5, 6, 4, 5, 5, 6, 5, 6, 6, 7, 2, 3, 3, 4, 3, 4, 4, 5, 3, 4, 4, 5, 4, 5, 5, 6, 3, 4, 4, 5, 4, 5, 5, 6, 4, 5, 5, 6, 5, 6, 6, 7, 3, 4, 4, 5, 4, 5, 5, 6, 4, 5, 5, 6, 5, 6, 6, 7, 4, 5, 5, 6, 5, 6, 6, 7, 5, 6, 6, 7, 6, 7, 7, 8]⟩)) (.t 8)⟩,
    ⟨some 10, none, .bin .add (.t 5) (.t 9)⟩,
    ⟨some 11, none, .mov (.t 0)⟩,
    ⟨some 12, none, .bin .shr (.t 11) (.c (u64 8#64))⟩,
    ⟨some 13, none, .bin .and (.t 12) (.c (u32 255#32))⟩,
    ⟨some 14, none, .idxStr (.c (.string ⟨#[0, 1, 1, 2, 1, 2, 2, 3, 1, 2, 2, 3, 2, 3, 3, 4, 1, 2, 2, 3, 2, 3, 3, 4, 2, 3, 3, 4, 3, 4, 4, 5, 1, 2, 2, 3, 2, 3, 3, 4, 2, 3, 3, 4, 3, 4, 4, 5, 2, 3, 3, 4, 3, 4, 4, 5, 3, 4, 4, 5, 4, 5, 5, 6, 1, 2, 2, 3, 2, 3, 3, 4, 2, 3, 3, 4, 3, 4, 4, 5, 2, 3, 3, 4, 3, 4, 4, 5, 3, 4, 4, 5, 4, 5, 5, 6, 2, 3, 3, 4, 3, 4, 4, 5, 3, 4, 4, 5, 4, 5, 5, 6, 3, 4, 4, 5, 4, 5, 5, 6, 4, 5, 5, 6, 5, 6, 6, 7, 1, 2, 2, 3, 2, 3, 3, 4, 2, 3, 3, 4, 3, 4, 4, 5, 2, 3, 3, 4, 3, 4, 4, 5, 3, 4, 4, 5, 4, 5, 5, 6, 2, 3, 3, 4, 3, 4, 4, 5, 3, 4, 4, 5, 4, 5, 5, 6, 3, 4, 4, 5, 4, 5, 5, 6, 4, 5, 5, 6, 5, 6, 6, 7, 2, 3, 3, 4, 3, 4, 4, 5, 3, 4, 4, 5, 4, 5, 5, 6, 3, 4, 4, 5, 4, 5, 5, 6, 4, 5, 5, 6, 5, 6, 6, 7, 3, 4, 4, 5, 4, 5, 5, 6, 4, 5, 5, 6, 5, 6, 6, 7, 4, 5, 5, 6, 5, 6, 6, 7, 5, 6, 6, 7, 6, 7, 7, 8]⟩)) (.t 13)⟩,
    ⟨some 15, none, .bin .add (.t 10) (.t 14)⟩,
    ⟨some 16, none, .mov (.t 0)⟩,
    ⟨some 17, none, .bin .and (.t 16) (.c (u32 255#32))⟩,
    ⟨some 18, none, .idxStr (.c (.string ⟨#[0, 1, 1, 2, 1, 2, 2, 3, 1, 2, 2, 3, 2, 3, 3, 4, 1, 2, 2, 3, 2, 3, 3, 4, 2, 3, 3, 4, 3, 4, 4, 5, 1, 2, 2, 3, 2, 3, 3, 4, 2, 3, 3, 4, 3, 4, 4, 5, 2, 3, 3, 4, 3, 4, 4, 5, 3, 4, 4, 5, 4, 5, 5, 6, 1, 2, 2, 3, 2, 3, 3, 4, 2, 3, 3, 4, 3, 4, 4, 5, 2, 3, 3, 4, 3, 4, 4, 5, 3, 4, 4, 5, 4, 5, 5, 6, 2, 3, 3, 4, 3, 4, 4, 5, 3, 4, 4, 5, 4, 5, 5, 6, 3, 4, 4, 5, 4, 5, 5, 6, 4, 5, 5, 6, 5, 6, 6, 7, 1, 2, 2, 3, 2, 3, 3, 4, 2, 3, 3, 4, 3, 4, 4, 5, 2, 3, 3, 4, 3, 4, 4, 5, 3, 4, 4, 5, 4, 5, 5, 6, 2, 3, 3, 4, 3, 4, 4, 5, 3, 4, 4, 5, 4, 5, 5, 6, 3, 4, 4, 5, 4, 5, 5, 6, 4, 5, 5, 6, 5, 6, 6, 7, 2, 3, 3, 4, 3, 4, 4, 5, 3, 4, 4, 5, 4, 5, 5, 6, 3, 4, 4, 5, 4, 5, 5, 6, 4, 5, 5, 6, 5, 6, 6, 7, 3, 4, 4, 5, 4, 5, 5, 6, 4, 5, 5, 6, 5, 6, 6, 7, 4, 5, 5, 6, 5, 6, 6, 7, 5, 6, 6, 7, 6, 7, 7, 8]⟩)) (.t 17)⟩,
    ⟨some 19, none, .bin .add (.t 15) (.t 18)⟩,
    ⟨some 20, none, .conv .i64 (.t 19)⟩,
    ⟨some 2, none, .mov (.t 20)⟩]
    [[], [0], [1], [], [3], [4], [5], [2, 6], [], [8], [9], [10], [7, 11], [], [13], [14], [12, 15], [16], [17, 0, 1, 2, 3, 4, 5, 6, 7, 8, 9, 10, 11, 12, 13, 14, 15, 16, 17]]
    [(0, []), (1, []), (2, []), (3, []), (4, []), (5, []), (6, []), (7, []), (8, []), (9, []), (10, []), (11, []), (12, []), (13, []), (14, []), (15, []), (16, []), (17, []), (18, [])]
    [[], [0], [0, 1], [], [3], [3, 4], [3, 4, 5], [0, 1, 2, 3, 4, 5, 6], [], [8], [8, 9], [8, 9, 10], [0, 1, 2, 3, 4, 5, 6, 7, 8, 9, 10, 11], [], [13], [13, 14], [0, 1, 2, 3, 4, 5, 6, 7, 8, 9, 10, 11, 12, 13, 14, 15], [0, 1, 2, 3, 4, 5, 6, 7, 8, 9, 10, 11, 12, 13, 14, 15, 16], [0, 1, 2, 3, 4, 5, 6, 7, 8, 9, 10, 11, 12, 13, 14, 15, 16, 17]]
    [2])
  .ret))⟩

def RC.roster_Roster_Fork : RFn := ⟨1, [.slot 2],
  (.seq (.region [⟨some 2, none, .mov (.c (.pointer none))⟩]
    [0])
  (.seq (.seq (.region [⟨some 3, none, .mov (.t 0)⟩,
    ⟨some 4, none, .call F.roster_Roster_none [.t 3]⟩]
    [0, 4])
  (.cond (.t 4)
    (.seq (.region [⟨some 2, none, .mov (.c (.pointer none))⟩]
      [2])
    .ret)
    .skip))
  (.seq (.drawn [⟨some 5, none, .mov (.t 0)⟩,
    ⟨some 6, none, .nilchk (.t 5)⟩,
    ⟨some 7, none, .fieldAddr 0 (.t 6)⟩,
    ⟨some 8, none, .load false 1 (.t 7)⟩,
    ⟨some 9, none, .mov (.t 0)⟩,
    ⟨some 10, none, .nilchk (.t 9)⟩,
    ⟨some 11, none, .fieldAddr 1 (.t 10)⟩,
    ⟨some 12, none, .load false 1 (.t 11)⟩,
    ⟨some 13, none, .call F.maps_Clone_map_int_roster_Task_int_roster_Task [.t 12]⟩,
    ⟨some 14, none, .mov (.t 0)⟩,
    ⟨some 15, none, .nilchk (.t 14)⟩,
    ⟨some 16, none, .fieldAddr 2 (.t 15)⟩,
    ⟨some 17, none, .load false 1 (.t 16)⟩,
    ⟨some 18, none, .call F.maps_Clone_map_int_roster_Group_int_roster_Group [.t 17]⟩,
    ⟨some 19, none, .build [(.int .i64 0), (.map none), (.map none)] [(0, 1, .t 8), (1, 1, .t 13), (2, 1, .t 18)]⟩,
    ⟨some 20, none, .box (.t 19)⟩,
    ⟨some 2, none, .mov (.t 20)⟩]
    [[], [0], [1], [2], [], [4], [5], [6], [7], [], [9], [10], [11], [12, 8], [3, 8, 13], [14], [15, 13, 0, 1, 2, 3, 4, 5, 6, 7, 8, 9, 10, 11, 12, 13, 14, 15]]
    [(0, []), (1, []), (2, []), (4, []), (5, []), (6, []), (9, []), (10, []), (11, []), (3, []), (7, []), (12, []), (8, [7, 16]), (13, [7]), (14, []), (15, []), (16, [])]
    [[], [0], [0, 1], [0, 1, 2], [], [4], [4, 5], [4, 5, 6], [4, 5, 6, 7], [], [9], [9, 10], [9, 10, 11], [4, 5, 6, 7, 8, 9, 10, 11, 12], [0, 1, 2, 3, 4, 5, 6, 7, 8, 9, 10, 11, 12, 13], [0, 1, 2, 3, 4, 5, 6, 7, 8, 9, 10, 11, 12, 13, 14], [0, 1, 2, 3, 4, 5, 6, 7, 8, 9, 10, 11, 12, 13, 14, 15]]
    [2])
  .ret)))⟩

def RB.order_Total_1 : RCode :=
  (.seq (.region [⟨some 12, none, .bin .lss (.t 11) (.t 10)⟩]
    [4, 9, 10, 11, 12])
  (.seq (.cond (.t 12)
    .skip
    (.exit 0))
  (.seq (.block 1
    (.seq (.region [⟨some 13, none, .idxS 2 (.t 9) (.t 11)⟩,
      ⟨some 14, none, .load true 2 (.t 13)⟩,
      ⟨some 6, none, .alloc [(.int .i64 0), (.int .i64 0)]⟩,
      ⟨none, none, .store 2 (.t 6) (.t 14)⟩]
      [4, 6, 9, 10, 11])
    (.seq (.region [⟨some 16, none, .mov (.t 4)⟩,
      ⟨some 17, none, .fieldAddr 1 (.t 6)⟩,
      ⟨some 18, none, .load false 1 (.t 17)⟩,
      ⟨some 19, none, .call F.fixq_Add [.t 16, .t 18]⟩,
      ⟨some 15, none, .mov (.t 19)⟩,
      ⟨some 20, none, .ext 0 (.t 15)⟩,
      ⟨some 21, none, .ext 1 (.t 15)⟩,
      ⟨some 7, none, .mov (.t 20)⟩,
      ⟨some 8, none, .mov (.t 21)⟩]
      [7, 8, 9, 10, 11])
    (.seq (.seq (.region [⟨some 22, none, .mov (.t 8)⟩,
      ⟨some 23, none, .bin .neq (.t 22) (.c (.int .i64 0))⟩]
      [7, 8, 9, 10, 11, 23])
    (.cond (.t 23)
      (.seq (.region [⟨some 24, none, .mov (.t 8)⟩,
        ⟨some 2, none, .mov (.c (.int .i64 0))⟩,
        ⟨some 3, none, .mov (.t 24)⟩]
        [2, 3])
      .ret)
      .skip))
    (.region [⟨some 25, none, .mov (.t 7)⟩,
      ⟨some 4, none, .mov (.t 25)⟩]
      [4, 9, 10, 11])))) [4, 9, 10, 11])
  (.region [⟨some 26, none, .bin .add (.t 11) (.c (.int .i64 1))⟩,
    ⟨some 11, none, .mov (.t 26)⟩]
    [4, 9, 10, 11]))))
def RC.order_Total : RFn := ⟨1, [.slot 2, .slot 3],
  (.seq (.region [⟨some 2, none, .mov (.c (.int .i64 0))⟩,
    ⟨some 3, none, .mov (.c (.int .i64 0))⟩]
    [0])
  (.seq (.region [⟨some 4, none, .mov (.c (.int .i64 0))⟩]
    [0, 4])
  (.seq (.seq (.region [⟨some 9, none, .mov (.t 0)⟩,
    ⟨some 10, none, .len (.t 9)⟩,
    ⟨some 11, none, .mov (.c (.int .i64 0))⟩]
    [4, 9, 10, 11])
  (.block 0
    (.loop [4, 9, 10, 11] RB.order_Total_1) [4]))
  (.seq (.region [⟨some 27, none, .mov (.t 4)⟩,
    ⟨some 2, none, .mov (.t 27)⟩,
    ⟨some 3, none, .mov (.c (.int .i64 0))⟩]
    [2, 3])
  .ret))))⟩

def RB.roster_Roster_Units_1 : RCode :=
  (.seq (.region [⟨some 31, none, .bin .lss (.t 30) (.t 29)⟩]
    [3, 28, 29, 30, 31])
  (.seq (.cond (.t 31)
    .skip
    (.exit 2))
  (.seq (.block 3
    (.seq (.region [⟨some 32, none, .idxS 3 (.t 28) (.t 30)⟩,
      ⟨some 33, none, .load true 3 (.t 32)⟩,
      ⟨some 7, none, .alloc [(.int .i64 0), (.int .i64 0), (.int .i64 0)]⟩,
      ⟨none, none, .store 3 (.t 7) (.t 33)⟩]
      [3, 7, 28, 29, 30])
    (.region [⟨some 34, none, .mov (.t 3)⟩,
      ⟨some 35, none, .fieldAddr 0 (.t 7)⟩,
      ⟨some 36, none, .load false 1 (.t 35)⟩,
      ⟨some 37, none, .bin .add (.c (.int .i64 1000)) (.t 36)⟩,
      ⟨some 38, none, .fieldAddr 1 (.t 7)⟩,
      ⟨some 39, none, .load false 1 (.t 38)⟩,
      ⟨some 40, none, .build [(.int .i64 0), (.int .i64 0)] [(0, 1, .t 37), (1, 1, .t 39)]⟩,
      ⟨some 41, none, .bslice [(.int .i64 0), (.int .i64 0)] [(0, 2, .t 40)] 1 2⟩,
      ⟨some 42, none, .app 2 16 (.t 34) (.t 41)⟩,
      ⟨some 3, none, .mov (.t 42)⟩]
      [3, 28, 29, 30])) [3, 28, 29, 30])
  (.region [⟨some 43, none, .bin .add (.t 30) (.c (.int .i64 1))⟩,
    ⟨some 30, none, .mov (.t 43)⟩]
    [3, 28, 29, 30]))))
def RB.roster_Roster_Units_2 : RCode :=
  (.seq (.region [⟨some 12, none, .bin .lss (.t 11) (.t 10)⟩]
    [0, 3, 9, 10, 11, 12])
  (.seq (.cond (.t 12)
    .skip
    (.exit 0))
  (.seq (.block 1
    (.seq (.region [⟨some 13, none, .idxS 6 (.t 9) (.t 11)⟩,
      ⟨some 14, none, .load true 6 (.t 13)⟩,
      ⟨some 5, none, .alloc [(.int .i64 0), (.int .i64 0), (.int .i64 0), (.int .i64 0), (.int .i64 0), (.bool false)]⟩,
      ⟨none, none, .store 6 (.t 5) (.t 14)⟩]
      [0, 3, 5, 9, 10, 11])
    (.seq (.region [⟨some 15, none, .fieldAddr 1 (.t 5)⟩,
      ⟨some 16, none, .load false 1 (.t 15)⟩,
      ⟨some 17, none, .bin .eql (.t 16) (.c (.int .i64 0))⟩]
      [0, 3, 5, 9, 10, 11, 17])
    (.cond (.t 17)
      (.region [⟨some 18, none, .mov (.t 3)⟩,
        ⟨some 19, none, .fieldAddr 0 (.t 5)⟩,
        ⟨some 20, none, .load false 1 (.t 19)⟩,
        ⟨some 21, none, .fieldAddr 2 (.t 5)⟩,
        ⟨some 22, none, .load false 1 (.t 21)⟩,
        ⟨some 23, none, .build [(.int .i64 0), (.int .i64 0)] [(0, 1, .t 20), (1, 1, .t 22)]⟩,
        ⟨some 24, none, .bslice [(.int .i64 0), (.int .i64 0)] [(0, 2, .t 23)] 1 2⟩,
        ⟨some 25, none, .app 2 16 (.t 18) (.t 24)⟩,
        ⟨some 3, none, .mov (.t 25)⟩]
        [0, 3, 9, 10, 11])
      .skip))) [0, 3, 9, 10, 11])
  (.region [⟨some 26, none, .bin .add (.t 11) (.c (.int .i64 1))⟩,
    ⟨some 11, none, .mov (.t 26)⟩]
    [0, 3, 9, 10, 11]))))
def RC.roster_Roster_Units : RFn := ⟨1, [.slot 2],
  (.seq (.region [⟨some 2, none, .mov (.c (.slice none 0 0))⟩]
    [0])
  (.seq (.region [⟨some 3, none, .mov (.c (.slice none 0 0))⟩]
    [0, 3])
  (.seq (.seq (.region [⟨some 8, none, .mov (.t 0)⟩,
    ⟨some 9, none, .call F.roster_Roster_Tasks [.t 8]⟩,
    ⟨some 10, none, .len (.t 9)⟩,
    ⟨some 11, none, .mov (.c (.int .i64 0))⟩]
    [0, 3, 9, 10, 11])
  (.block 0
    (.loop [0, 3, 9, 10, 11] RB.roster_Roster_Units_2) [0, 3]))
  (.seq (.seq (.region [⟨some 27, none, .mov (.t 0)⟩,
    ⟨some 28, none, .call F.roster_Roster_Groups [.t 27]⟩,
    ⟨some 29, none, .len (.t 28)⟩,
    ⟨some 30, none, .mov (.c (.int .i64 0))⟩]
    [3, 28, 29, 30])
  (.block 2
    (.loop [3, 28, 29, 30] RB.roster_Roster_Units_1) [3]))
  (.seq (.region [⟨some 44, none, .mov (.t 3)⟩,
    ⟨some 2, none, .mov (.t 44)⟩]
    [2])
  .ret)))))⟩

def RC.roster_Roster_none : RFn := ⟨1, [.slot 2],
  (.seq (.region [⟨some 2, none, .mov (.c (.bool false))⟩]
    [0])
  (.seq (.region [⟨some 3, none, .mov (.t 0)⟩,
    ⟨some 4, none, .eq false .ptr (.t 3) (.c (.pointer none))⟩,
    ⟨some 5, none, .mov (.t 4)⟩,
    ⟨some 6, some (5, false), .mov (.t 0)⟩,
    ⟨some 7, some (5, false), .nilchk (.t 6)⟩,
    ⟨some 8, some (5, false), .fieldAddr 0 (.t 7)⟩,
    ⟨some 9, some (5, false), .load false 1 (.t 8)⟩,
    ⟨some 10, some (5, false), .bin .eql (.t 9) (.c (.int .i64 0))⟩,
    ⟨some 11, none, .pick (.t 5) (.c (.bool true)) (.t 10)⟩,
    ⟨some 2, none, .mov (.t 11)⟩]
    [2])
  .ret))⟩

def RC.maps_Keys_map_int_roster_Task_int_roster_Task : RFn := ⟨1, [.slot 2],
  (.seq (.region [⟨some 1, none, .box (.t 0)⟩,
    ⟨some 2, none, .mov (.c .nilFunc)⟩]
    [1])
  (.seq (.region [⟨some 3, none, .mkfn (.func F.maps_Keys_map_int_roster_Task_int_roster_Task_1) [] [.t 1]⟩,
    ⟨some 2, none, .mov (.t 3)⟩]
    [2])
  .ret))⟩

def RC.cores_Set_Len : RFn := ⟨1, [.slot 2],
  (.seq (.region [⟨some 2, none, .mov (.c (.int .i64 0))⟩]
    [0])
  (.seq (.seq (.region [⟨some 3, none, .mov (.t 0)⟩,
    ⟨some 4, none, .eq false .ptr (.t 3) (.c (.pointer none))⟩]
    [0, 4])
  (.cond (.t 4)
    (.seq (.region [⟨some 2, none, .mov (.c (.int .i64 0))⟩]
      [2])
    .ret)
    .skip))
  (.seq (.region [⟨some 5, none, .mov (.t 0)⟩,
    ⟨some 6, none, .nilchk (.t 5)⟩,
    ⟨some 7, none, .fieldAddr 0 (.t 6)⟩,
    ⟨some 8, none, .load false 1 (.t 7)⟩,
    ⟨some 9, none, .len (.t 8)⟩,
    ⟨some 2, none, .mov (.t 9)⟩]
    [2])
  .ret)))⟩

def RC.slices_Contains_int_int : RFn := ⟨2, [.slot 4],
  (.seq (.region [⟨some 4, none, .mov (.c (.bool false))⟩]
    [0, 1])
  (.seq (.region [⟨some 5, none, .mov (.t 0)⟩,
    ⟨some 6, none, .mov (.t 1)⟩,
    ⟨some 7, none, .call F.slices_Index_int_int [.t 5, .t 6]⟩,
    ⟨some 8, none, .bin .geq (.t 7) (.c (.int .i64 0))⟩,
    ⟨some 4, none, .mov (.t 8)⟩]
    [4])
  .ret))⟩

def RB.slices_Repeat_int_int_1 : RCode :=
  (.seq (.seq (.region [⟨some 34, none, .mov (.t 8)⟩,
    ⟨some 35, none, .mov (.t 7)⟩,
    ⟨some 36, none, .len (.t 35)⟩,
    ⟨some 37, none, .bin .lss (.t 34) (.t 36)⟩]
    [7, 8, 37])
  (.cond (.t 37)
    .skip
    (.exit 0)))
  (.block 1
    (.drawn [⟨some 38, none, .mov (.t 8)⟩,
      ⟨some 39, none, .mov (.t 7)⟩,
      ⟨some 40, none, .mov (.t 8)⟩,
      ⟨some 41, none, .sub 1 (.t 39) (some (.t 40)) none none⟩,
      ⟨some 42, none, .mov (.t 7)⟩,
      ⟨some 43, none, .mov (.t 8)⟩,
      ⟨some 44, none, .sub 1 (.t 42) none (some (.t 43)) none⟩,
      ⟨some 45, none, .copy 1 (.t 41) (.t 44)⟩,
      ⟨some 46, none, .bin .add (.t 38) (.t 45)⟩,
      ⟨some 8, none, .mov (.t 46)⟩]
      [[], [], [], [1, 2], [], [], [4, 5], [3, 6], [0, 7], [8, 7, 0, 1, 2, 3, 4, 5, 6, 7, 8]]
      [(0, []), (1, []), (2, []), (4, []), (5, []), (3, []), (6, []), (7, []), (8, []), (9, [])]
      [[], [], [], [1, 2], [], [], [4, 5], [1, 2, 3, 4, 5, 6], [0, 1, 2, 3, 4, 5, 6, 7], [0, 1, 2, 3, 4, 5, 6, 7, 8]]
      [7, 8]) [7, 8]))
def RC.slices_Repeat_int_int : RFn := ⟨2, [.slot 4],
  (.seq (.region [⟨some 4, none, .mov (.c (.slice none 0 0))⟩]
    [0, 1])
  (.seq (.seq (.region [⟨some 9, none, .mov (.t 1)⟩,
    ⟨some 10, none, .bin .lss (.t 9) (.c (.int .i64 0))⟩]
    [0, 1, 10])
  (.cond (.t 10)
    (.region [⟨some 11, none, .stop⟩,
      ⟨none, none, .stop⟩]
      [0, 1])
    .skip))
  (.seq (.region [⟨some 13, none, .mov (.t 0)⟩,
    ⟨some 14, none, .len (.t 13)⟩,
    ⟨some 15, none, .conv .u64 (.t 14)⟩,
    ⟨some 16, none, .mov (.t 1)⟩,
    ⟨some 17, none, .conv .u64 (.t 16)⟩,
    ⟨some 18, none, .call F.math_bits_Mul [.t 15, .t 17]⟩,
    ⟨some 12, none, .mov (.t 18)⟩,
    ⟨some 19, none, .ext 0 (.t 12)⟩,
    ⟨some 20, none, .ext 1 (.t 12)⟩,
    ⟨some 5, none, .mov (.t 19)⟩,
    ⟨some 6, none, .mov (.t 20)⟩]
    [0, 5, 6])
  (.seq (.seq (.region [⟨some 21, none, .mov (.t 5)⟩,
    ⟨some 22, none, .bin .gtr (.t 21) (.c (u64 0#64))⟩,
    ⟨some 23, none, .mov (.t 22)⟩,
    ⟨some 24, some (23, false), .mov (.t 6)⟩,
    ⟨some 25, some (23, false), .bin .gtr (.t 24) (.c (u64 9223372036854775807#64))⟩,
    ⟨some 26, none, .pick (.t 23) (.c (.bool true)) (.t 25)⟩]
    [0, 6, 26])
  (.cond (.t 26)
    (.region [⟨some 27, none, .stop⟩,
      ⟨none, none, .stop⟩]
      [0, 6])
    .skip))
  (.seq (.region [⟨some 28, none, .mov (.t 6)⟩,
    ⟨some 29, none, .conv .i64 (.t 28)⟩,
    ⟨some 30, none, .mkslice 1 8 [(.int .i64 0)] (.t 29) (.t 29)⟩,
    ⟨some 7, none, .mov (.t 30)⟩]
    [0, 7])
  (.seq (.region [⟨some 31, none, .mov (.t 7)⟩,
    ⟨some 32, none, .mov (.t 0)⟩,
    ⟨some 33, none, .copy 1 (.t 31) (.t 32)⟩,
    ⟨some 8, none, .mov (.t 33)⟩]
    [7, 8])
  (.seq (.block 0
    (.loop [7, 8] RB.slices_Repeat_int_int_1) [7])
  (.seq (.region [⟨some 47, none, .mov (.t 7)⟩,
    ⟨some 4, none, .mov (.t 47)⟩]
    [4])
  .ret))))))))⟩

def RC.ledger_list : RFn := ⟨2, [.slot 4],
  (.seq (.region [⟨some 3, none, .box (.t 1)⟩,
    ⟨some 4, none, .mov (.c (.int .i64 0))⟩]
    [0, 3])
  (.seq (.seq (.region [⟨some 5, none, .fieldAddr 0 (.t 3)⟩,
    ⟨some 6, none, .load false 1 (.t 5)⟩]
    [0, 3, 6])
  (.block 0
    (.seq (.region [⟨some 8, none, .bin .eql (.t 6) (.c (.int .i64 1))⟩,
      ⟨some 7, none, .mov (.t 8)⟩]
      [0, 3, 6, 7])
    (.cond (.t 7)
      (.seq (.region [⟨some 9, none, .mov (.t 0)⟩,
        ⟨some 10, none, .fieldAddr 1 (.t 3)⟩,
        ⟨some 11, none, .load false 1 (.t 10)⟩,
        ⟨some 12, none, .fieldAddr 3 (.t 3)⟩,
        ⟨some 13, none, .load false 1 (.t 12)⟩,
        ⟨some 14, none, .call F.roster_Roster_Arrive [.t 9, .t 11, .t 13]⟩,
        ⟨some 4, none, .mov (.t 14)⟩]
        [4])
      .ret)
      (.seq (.region [⟨some 16, none, .bin .eql (.t 6) (.c (.int .i64 2))⟩,
        ⟨some 15, none, .mov (.t 16)⟩]
        [0, 3, 6, 15])
      (.cond (.t 15)
        (.seq (.region [⟨some 17, none, .mov (.t 0)⟩,
          ⟨some 18, none, .fieldAddr 1 (.t 3)⟩,
          ⟨some 19, none, .load false 1 (.t 18)⟩,
          ⟨some 20, none, .call F.roster_Roster_Depart [.t 17, .t 19]⟩,
          ⟨some 4, none, .mov (.t 20)⟩]
          [4])
        .ret)
        (.seq (.region [⟨some 22, none, .bin .eql (.t 6) (.c (.int .i64 3))⟩,
          ⟨some 21, none, .mov (.t 22)⟩]
          [0, 3, 6, 21])
        (.cond (.t 21)
          (.seq (.region [⟨some 23, none, .mov (.t 0)⟩,
            ⟨some 24, none, .fieldAddr 1 (.t 3)⟩,
            ⟨some 25, none, .load false 1 (.t 24)⟩,
            ⟨some 26, none, .fieldAddr 3 (.t 3)⟩,
            ⟨some 27, none, .load false 1 (.t 26)⟩,
            ⟨some 28, none, .call F.roster_Roster_Reweight [.t 23, .t 25, .t 27]⟩,
            ⟨some 4, none, .mov (.t 28)⟩]
            [4])
          .ret)
          (.seq (.region [⟨some 30, none, .bin .eql (.t 6) (.c (.int .i64 4))⟩,
            ⟨some 29, none, .mov (.t 30)⟩]
            [0, 3, 6, 29])
          (.cond (.t 29)
            (.seq (.region [⟨some 31, none, .mov (.t 0)⟩,
              ⟨some 32, none, .fieldAddr 1 (.t 3)⟩,
              ⟨some 33, none, .load false 1 (.t 32)⟩,
              ⟨some 34, none, .call F.roster_Roster_Block [.t 31, .t 33]⟩,
              ⟨some 4, none, .mov (.t 34)⟩]
              [4])
            .ret)
            (.seq (.region [⟨some 36, none, .bin .eql (.t 6) (.c (.int .i64 5))⟩,
              ⟨some 35, none, .mov (.t 36)⟩]
              [0, 3, 6, 35])
            (.cond (.t 35)
              (.seq (.region [⟨some 37, none, .mov (.t 0)⟩,
                ⟨some 38, none, .fieldAddr 1 (.t 3)⟩,
                ⟨some 39, none, .load false 1 (.t 38)⟩,
                ⟨some 40, none, .call F.roster_Roster_Wake [.t 37, .t 39]⟩,
                ⟨some 4, none, .mov (.t 40)⟩]
                [4])
              .ret)
              (.seq (.region [⟨some 42, none, .bin .eql (.t 6) (.c (.int .i64 6))⟩,
                ⟨some 41, none, .mov (.t 42)⟩]
                [0, 3, 6, 41])
              (.cond (.t 41)
                (.seq (.region [⟨some 43, none, .mov (.t 0)⟩,
                  ⟨some 44, none, .fieldAddr 2 (.t 3)⟩,
                  ⟨some 45, none, .load false 1 (.t 44)⟩,
                  ⟨some 46, none, .fieldAddr 3 (.t 3)⟩,
                  ⟨some 47, none, .load false 1 (.t 46)⟩,
                  ⟨some 48, none, .call F.roster_Roster_Found [.t 43, .t 45, .t 47]⟩,
                  ⟨some 4, none, .mov (.t 48)⟩]
                  [4])
                .ret)
                (.seq (.region [⟨some 50, none, .bin .eql (.t 6) (.c (.int .i64 7))⟩,
                  ⟨some 49, none, .mov (.t 50)⟩]
                  [0, 3, 6, 49])
                (.cond (.t 49)
                  (.seq (.region [⟨some 51, none, .mov (.t 0)⟩,
                    ⟨some 52, none, .fieldAddr 2 (.t 3)⟩,
                    ⟨some 53, none, .load false 1 (.t 52)⟩,
                    ⟨some 54, none, .fieldAddr 3 (.t 3)⟩,
                    ⟨some 55, none, .load false 1 (.t 54)⟩,
                    ⟨some 56, none, .call F.roster_Roster_Fund [.t 51, .t 53, .t 55]⟩,
                    ⟨some 4, none, .mov (.t 56)⟩]
                    [4])
                  .ret)
                  (.seq (.region [⟨some 58, none, .bin .eql (.t 6) (.c (.int .i64 8))⟩,
                    ⟨some 57, none, .mov (.t 58)⟩]
                    [0, 3, 6, 57])
                  (.cond (.t 57)
                    (.seq (.region [⟨some 59, none, .mov (.t 0)⟩,
                      ⟨some 60, none, .fieldAddr 2 (.t 3)⟩,
                      ⟨some 61, none, .load false 1 (.t 60)⟩,
                      ⟨some 62, none, .call F.roster_Roster_Disband [.t 59, .t 61]⟩,
                      ⟨some 4, none, .mov (.t 62)⟩]
                      [4])
                    .ret)
                    (.seq (.region [⟨some 64, none, .bin .eql (.t 6) (.c (.int .i64 9))⟩,
                      ⟨some 63, none, .mov (.t 64)⟩]
                      [0, 3, 6, 63])
                    (.cond (.t 63)
                      (.seq (.region [⟨some 65, none, .mov (.t 0)⟩,
                        ⟨some 66, none, .fieldAddr 1 (.t 3)⟩,
                        ⟨some 67, none, .load false 1 (.t 66)⟩,
                        ⟨some 68, none, .fieldAddr 2 (.t 3)⟩,
                        ⟨some 69, none, .load false 1 (.t 68)⟩,
                        ⟨some 70, none, .fieldAddr 4 (.t 3)⟩,
                        ⟨some 71, none, .load false 1 (.t 70)⟩,
                        ⟨some 72, none, .fieldAddr 5 (.t 3)⟩,
                        ⟨some 73, none, .load false 1 (.t 72)⟩,
                        ⟨some 74, none, .call F.roster_Roster_Enter [.t 65, .t 67, .t 69, .t 71, .t 73]⟩,
                        ⟨some 4, none, .mov (.t 74)⟩]
                        [4])
                      .ret)
                      (.seq (.region [⟨some 76, none, .bin .eql (.t 6) (.c (.int .i64 10))⟩,
                        ⟨some 75, none, .mov (.t 76)⟩]
                        [0, 3, 6, 75])
                      (.cond (.t 75)
                        (.seq (.region [⟨some 77, none, .mov (.t 0)⟩,
                          ⟨some 78, none, .fieldAddr 1 (.t 3)⟩,
                          ⟨some 79, none, .load false 1 (.t 78)⟩,
                          ⟨some 80, none, .fieldAddr 4 (.t 3)⟩,
                          ⟨some 81, none, .load false 1 (.t 80)⟩,
                          ⟨some 82, none, .call F.roster_Roster_Weigh [.t 77, .t 79, .t 81]⟩,
                          ⟨some 4, none, .mov (.t 82)⟩]
                          [4])
                        .ret)
                        (.seq (.region [⟨some 84, none, .bin .eql (.t 6) (.c (.int .i64 11))⟩,
                          ⟨some 83, none, .mov (.t 84)⟩]
                          [0, 3, 83])
                        (.cond (.t 83)
                          (.seq (.region [⟨some 85, none, .mov (.t 0)⟩,
                            ⟨some 86, none, .fieldAddr 1 (.t 3)⟩,
                            ⟨some 87, none, .load false 1 (.t 86)⟩,
                            ⟨some 88, none, .fieldAddr 5 (.t 3)⟩,
                            ⟨some 89, none, .load false 1 (.t 88)⟩,
                            ⟨some 90, none, .call F.roster_Roster_Limit [.t 85, .t 87, .t 89]⟩,
                            ⟨some 4, none, .mov (.t 90)⟩]
                            [4])
                          .ret)
                          .skip)))))))))))))))))))))) [0, 3]))
  (.seq (.region [⟨some 91, none, .mov (.t 0)⟩,
    ⟨some 92, none, .fieldAddr 1 (.t 3)⟩,
    ⟨some 93, none, .load false 1 (.t 92)⟩,
    ⟨some 94, none, .fieldAddr 2 (.t 3)⟩,
    ⟨some 95, none, .load false 1 (.t 94)⟩,
    ⟨some 96, none, .call F.roster_Roster_Move [.t 91, .t 93, .t 95]⟩,
    ⟨some 4, none, .mov (.t 96)⟩]
    [4])
  .ret)))⟩

def RC.ledger_Ledger_room : RFn := ⟨3, [.slot 6],
  (.seq (.region [⟨some 6, none, .mov (.c (.bool false))⟩]
    [0, 1, 2])
  (.seq (.drawn [⟨some 7, none, .mov (.t 1)⟩,
    ⟨some 8, none, .call F.roster_Roster_Total [.t 7]⟩,
    ⟨some 9, none, .mov (.t 0)⟩,
    ⟨some 10, none, .nilchk (.t 9)⟩,
    ⟨some 11, none, .fieldAddr 0 (.t 10)⟩,
    ⟨some 12, none, .fieldAddr 0 (.t 11)⟩,
    ⟨some 13, none, .load false 1 (.t 12)⟩,
    ⟨some 14, none, .mov (.t 2)⟩,
    ⟨some 15, none, .bslice [(.int .i64 0)] [(0, 1, .c (.int .i64 1))] 1 1⟩,
    ⟨some 16, none, .call F.cores_Set_Count [.t 14, .t 15]⟩,
    ⟨some 17, none, .bin .mul (.t 13) (.t 16)⟩,
    ⟨some 18, none, .bin .leq (.t 8) (.t 17)⟩,
    ⟨some 6, none, .mov (.t 18)⟩]
    [[], [0], [], [2], [3], [4], [5], [], [], [7, 8, 1], [6, 9], [1, 10], [11, 9, 0, 1, 2, 3, 4, 5, 6, 7, 8, 9, 10, 11]]
    [(0, []), (2, []), (3, []), (4, []), (5, []), (7, []), (6, []), (1, [12]), (8, []), (9, [12]), (10, []), (11, []), (12, [])]
    [[], [0], [], [2], [2, 3], [2, 3, 4], [2, 3, 4, 5], [], [], [0, 1, 7, 8], [0, 1, 2, 3, 4, 5, 6, 7, 8, 9], [0, 1, 2, 3, 4, 5, 6, 7, 8, 9, 10], [0, 1, 2, 3, 4, 5, 6, 7, 8, 9, 10, 11]]
    [6])
  .ret))⟩

def RC.cores_Set_Plug : RFn := ⟨2, [.slot 4],
  (.seq (.region [⟨some 4, none, .mov (.c (.int .i64 0))⟩]
    [0, 1])
  (.seq (.region [⟨some 5, none, .mov (.t 0)⟩,
    ⟨some 6, none, .mov (.t 1)⟩,
    ⟨some 7, none, .call F.cores_Set_change [.t 5, .t 6, .c (.int .i64 0), .c (.int .i64 4)]⟩,
    ⟨some 4, none, .mov (.t 7)⟩]
    [4])
  .ret))⟩

def RC.cores_Set_Unplug : RFn := ⟨2, [.slot 4],
  (.seq (.region [⟨some 4, none, .mov (.c (.int .i64 0))⟩]
    [0, 1])
  (.seq (.region [⟨some 5, none, .mov (.t 0)⟩,
    ⟨some 6, none, .mov (.t 1)⟩,
    ⟨some 7, none, .call F.cores_Set_change [.t 5, .t 6, .c (.int .i64 1), .c (.int .i64 2)]⟩,
    ⟨some 4, none, .mov (.t 7)⟩]
    [4])
  .ret))⟩

def RB.cores_Set_Turn_1 : RCode :=
  (.seq (.region [⟨some 14, none, .bin .lss (.t 13) (.t 12)⟩]
    [0, 2, 3, 11, 12, 13, 14])
  (.seq (.cond (.t 14)
    .skip
    (.exit 0))
  (.seq (.block 1
    (.seq (.region [⟨some 15, none, .mov (.t 13)⟩,
      ⟨some 16, none, .idxS 1 (.t 11) (.t 13)⟩,
      ⟨some 17, none, .load false 1 (.t 16)⟩,
      ⟨some 4, none, .mov (.t 15)⟩,
      ⟨some 5, none, .mov (.t 17)⟩]
      [0, 2, 3, 4, 5, 11, 12, 13])
    (.seq (.region [⟨some 18, none, .mov (.t 5)⟩]
      [0, 2, 3, 4, 11, 12, 13, 18])
    (.block 2
      (.seq (.region [⟨some 20, none, .bin .eql (.t 18) (.c (.int .i64 4))⟩,
        ⟨some 19, none, .mov (.t 20)⟩]
        [0, 2, 3, 4, 11, 12, 13, 18, 19])
      (.cond (.t 19)
        (.seq (.region [⟨some 21, none, .mov (.t 0)⟩,
          ⟨some 22, none, .nilchk (.t 21)⟩,
          ⟨some 23, none, .fieldAddr 0 (.t 22)⟩,
          ⟨some 24, none, .load false 1 (.t 23)⟩,
          ⟨some 25, none, .mov (.t 4)⟩,
          ⟨some 26, none, .idxS 1 (.t 24) (.t 25)⟩,
          ⟨none, none, .store 1 (.t 26) (.c (.int .i64 1))⟩]
          [0, 2, 3, 4, 11, 12, 13])
        (.region [⟨some 27, none, .mov (.t 2)⟩,
          ⟨some 28, none, .mov (.t 4)⟩,
          ⟨some 29, none, .bin .shl (.c (u32 1#32)) (.t 28)⟩,
          ⟨some 30, none, .bin .or (.t 27) (.t 29)⟩,
          ⟨some 2, none, .mov (.t 30)⟩]
          [0, 2, 3, 11, 12, 13]))
        (.seq (.region [⟨some 32, none, .bin .eql (.t 18) (.c (.int .i64 2))⟩,
          ⟨some 31, none, .mov (.t 32)⟩]
          [0, 2, 3, 4, 11, 12, 13, 18, 31])
        (.cond (.t 31)
          (.seq (.region [⟨some 33, none, .mov (.t 0)⟩,
            ⟨some 34, none, .nilchk (.t 33)⟩,
            ⟨some 35, none, .fieldAddr 0 (.t 34)⟩,
            ⟨some 36, none, .load false 1 (.t 35)⟩,
            ⟨some 37, none, .mov (.t 4)⟩,
            ⟨some 38, none, .idxS 1 (.t 36) (.t 37)⟩,
            ⟨none, none, .store 1 (.t 38) (.c (.int .i64 3))⟩]
            [0, 2, 3, 4, 11, 12, 13])
          (.region [⟨some 39, none, .mov (.t 3)⟩,
            ⟨some 40, none, .mov (.t 4)⟩,
            ⟨some 41, none, .bin .shl (.c (u32 1#32)) (.t 40)⟩,
            ⟨some 42, none, .bin .or (.t 39) (.t 41)⟩,
            ⟨some 3, none, .mov (.t 42)⟩]
            [0, 2, 3, 11, 12, 13]))
          (.seq (.region [⟨some 44, none, .bin .eql (.t 18) (.c (.int .i64 3))⟩,
            ⟨some 43, none, .mov (.t 44)⟩]
            [0, 2, 3, 4, 11, 12, 13, 43])
          (.cond (.t 43)
            (.region [⟨some 45, none, .mov (.t 0)⟩,
              ⟨some 46, none, .nilchk (.t 45)⟩,
              ⟨some 47, none, .fieldAddr 0 (.t 46)⟩,
              ⟨some 48, none, .load false 1 (.t 47)⟩,
              ⟨some 49, none, .mov (.t 4)⟩,
              ⟨some 50, none, .idxS 1 (.t 48) (.t 49)⟩,
              ⟨none, none, .store 1 (.t 50) (.c (.int .i64 0))⟩]
              [0, 2, 3, 11, 12, 13])
            .skip)))))) [0, 2, 3, 11, 12, 13]))) [0, 2, 3, 11, 12, 13])
  (.region [⟨some 51, none, .bin .add (.t 13) (.c (.int .i64 1))⟩,
    ⟨some 13, none, .mov (.t 51)⟩]
    [0, 2, 3, 11, 12, 13]))))
def RC.cores_Set_Turn : RFn := ⟨1, [.slot 2, .slot 3],
  (.seq (.region [⟨some 2, none, .mov (.c (u32 0#32))⟩,
    ⟨some 3, none, .mov (.c (u32 0#32))⟩]
    [0, 2, 3])
  (.seq (.seq (.region [⟨some 6, none, .mov (.t 0)⟩,
    ⟨some 7, none, .eq false .ptr (.t 6) (.c (.pointer none))⟩]
    [0, 2, 3, 7])
  (.cond (.t 7)
    (.seq (.region [⟨some 2, none, .mov (.c (u32 0#32))⟩,
      ⟨some 3, none, .mov (.c (u32 0#32))⟩]
      [2, 3])
    .ret)
    .skip))
  (.seq (.seq (.region [⟨some 8, none, .mov (.t 0)⟩,
    ⟨some 9, none, .nilchk (.t 8)⟩,
    ⟨some 10, none, .fieldAddr 0 (.t 9)⟩,
    ⟨some 11, none, .load false 1 (.t 10)⟩,
    ⟨some 12, none, .len (.t 11)⟩,
    ⟨some 13, none, .mov (.c (.int .i64 0))⟩]
    [0, 2, 3, 11, 12, 13])
  (.block 0
    (.loop [0, 2, 3, 11, 12, 13] RB.cores_Set_Turn_1) [2, 3]))
  (.seq (.region [⟨some 52, none, .mov (.t 2)⟩,
    ⟨some 53, none, .mov (.t 3)⟩,
    ⟨some 2, none, .mov (.t 52)⟩,
    ⟨some 3, none, .mov (.t 53)⟩]
    [2, 3])
  .ret))))⟩

def RC.roster_Roster_one : RFn := ⟨2, [.cell 4 true 6, .slot 5],
  (.seq (.region [⟨some 4, none, .alloc [(.int .i64 0), (.int .i64 0), (.int .i64 0), (.int .i64 0), (.int .i64 0), (.bool false)]⟩,
    ⟨some 5, none, .mov (.c (.int .i64 0))⟩]
    [0, 1, 4])
  (.seq (.seq (.region [⟨some 8, none, .mov (.t 0)⟩,
    ⟨some 9, none, .call F.roster_Roster_none [.t 8]⟩]
    [0, 1, 4, 9])
  (.cond (.t 9)
    (.seq (.region [⟨some 10, none, .build [(.int .i64 0), (.int .i64 0), (.int .i64 0), (.int .i64 0), (.int .i64 0), (.bool false)] []⟩,
      ⟨none, none, .store 6 (.t 4) (.t 10)⟩,
      ⟨some 5, none, .mov (.c (.int .i64 2))⟩]
      [4, 5])
    .ret)
    .skip))
  (.seq (.region [⟨some 12, none, .mov (.t 0)⟩,
    ⟨some 13, none, .nilchk (.t 12)⟩,
    ⟨some 14, none, .fieldAddr 1 (.t 13)⟩,
    ⟨some 15, none, .load false 1 (.t 14)⟩,
    ⟨some 16, none, .mov (.t 1)⟩,
    ⟨some 17, none, .look .int (.agg #[(.int .i64 0), (.int .i64 0), (.int .i64 0), (.int .i64 0), (.int .i64 0), (.bool false)]) true (.t 15) (.t 16)⟩,
    ⟨some 11, none, .mov (.t 17)⟩,
    ⟨some 18, none, .ext 0 (.t 11)⟩,
    ⟨some 19, none, .ext 1 (.t 11)⟩,
    ⟨some 6, none, .alloc [(.int .i64 0), (.int .i64 0), (.int .i64 0), (.int .i64 0), (.int .i64 0), (.bool false)]⟩,
    ⟨none, none, .store 6 (.t 6) (.t 18)⟩,
    ⟨some 7, none, .mov (.t 19)⟩]
    [4, 6, 7])
  (.seq (.seq (.region [⟨some 20, none, .mov (.t 7)⟩,
    ⟨some 21, none, .un .not (.t 20)⟩]
    [4, 6, 21])
  (.cond (.t 21)
    (.seq (.region [⟨some 22, none, .build [(.int .i64 0), (.int .i64 0), (.int .i64 0), (.int .i64 0), (.int .i64 0), (.bool false)] []⟩,
      ⟨none, none, .store 6 (.t 4) (.t 22)⟩,
      ⟨some 5, none, .mov (.c (.int .i64 10))⟩]
      [4, 5])
    .ret)
    .skip))
  (.seq (.region [⟨some 23, none, .load true 6 (.t 6)⟩,
    ⟨none, none, .store 6 (.t 4) (.t 23)⟩,
    ⟨some 5, none, .mov (.c (.int .i64 0))⟩]
    [4, 5])
  .ret)))))⟩

def RC.slices_Clone_int_int : RFn := ⟨1, [.slot 2],
  (.seq (.region [⟨some 2, none, .mov (.c (.slice none 0 0))⟩]
    [0])
  (.seq (.seq (.region [⟨some 3, none, .mov (.t 0)⟩,
    ⟨some 4, none, .eq false .slice (.t 3) (.c (.slice none 0 0))⟩]
    [0, 4])
  (.cond (.t 4)
    (.seq (.region [⟨some 2, none, .mov (.c (.slice none 0 0))⟩]
      [2])
    .ret)
    .skip))
  (.seq (.region [⟨some 5, none, .bslice [] [] 0 1⟩,
    ⟨some 6, none, .mov (.t 0)⟩,
    ⟨some 7, none, .app 1 8 (.t 5) (.t 6)⟩,
    ⟨some 2, none, .mov (.t 7)⟩]
    [2])
  .ret)))⟩

def RC.fixq_Add : RFn := ⟨2, [.slot 4, .slot 5],
  (.seq (.region [⟨some 4, none, .mov (.c (.int .i64 0))⟩,
    ⟨some 5, none, .mov (.c (.int .i64 0))⟩]
    [0, 1])
  (.seq (.region [⟨some 7, none, .mov (.t 0)⟩,
    ⟨some 8, none, .mov (.t 1)⟩,
    ⟨some 9, none, .bin .add (.t 7) (.t 8)⟩,
    ⟨some 6, none, .mov (.t 9)⟩]
    [0, 1, 6])
  (.seq (.seq (.region [⟨some 10, none, .mov (.t 0)⟩,
    ⟨some 11, none, .bin .geq (.t 10) (.c (.int .i64 0))⟩,
    ⟨some 12, none, .mov (.t 1)⟩,
    ⟨some 13, none, .bin .geq (.t 12) (.c (.int .i64 0))⟩,
    ⟨some 14, none, .eq false .bool (.t 11) (.t 13)⟩,
    ⟨some 15, none, .mov (.t 14)⟩,
    ⟨some 16, some (15, true), .mov (.t 6)⟩,
    ⟨some 17, some (15, true), .bin .geq (.t 16) (.c (.int .i64 0))⟩,
    ⟨some 18, some (15, true), .mov (.t 0)⟩,
    ⟨some 19, some (15, true), .bin .geq (.t 18) (.c (.int .i64 0))⟩,
    ⟨some 20, some (15, true), .eq true .bool (.t 17) (.t 19)⟩,
    ⟨some 21, none, .pick (.t 15) (.t 20) (.c (.bool false))⟩]
    [6, 21])
  (.cond (.t 21)
    (.seq (.region [⟨some 4, none, .mov (.c (.int .i64 0))⟩,
      ⟨some 5, none, .mov (.c (.int .i64 5))⟩]
      [4, 5])
    .ret)
    .skip))
  (.seq (.region [⟨some 22, none, .mov (.t 6)⟩,
    ⟨some 4, none, .mov (.t 22)⟩,
    ⟨some 5, none, .mov (.c (.int .i64 0))⟩]
    [4, 5])
  .ret))))⟩

def RB.roster_Roster_Groups_1 : RCode :=
  (.seq (.region [⟨some 16, none, .bin .lss (.t 15) (.t 14)⟩]
    [0, 3, 13, 14, 15, 16])
  (.seq (.cond (.t 16)
    .skip
    (.exit 0))
  (.seq (.block 1
    (.seq (.region [⟨some 17, none, .idxS 1 (.t 13) (.t 15)⟩,
      ⟨some 18, none, .load false 1 (.t 17)⟩,
      ⟨some 5, none, .mov (.t 18)⟩]
      [0, 3, 5, 13, 14, 15])
    (.region [⟨some 19, none, .mov (.t 3)⟩,
      ⟨some 20, none, .mov (.t 0)⟩,
      ⟨some 21, none, .nilchk (.t 20)⟩,
      ⟨some 22, none, .fieldAddr 2 (.t 21)⟩,
      ⟨some 23, none, .load false 1 (.t 22)⟩,
      ⟨some 24, none, .mov (.t 5)⟩,
      ⟨some 25, none, .look .int (.agg #[(.int .i64 0), (.int .i64 0), (.int .i64 0)]) false (.t 23) (.t 24)⟩,
      ⟨some 26, none, .bslice [(.int .i64 0), (.int .i64 0), (.int .i64 0)] [(0, 3, .t 25)] 1 3⟩,
      ⟨some 27, none, .app 3 24 (.t 19) (.t 26)⟩,
      ⟨some 3, none, .mov (.t 27)⟩]
      [0, 3, 13, 14, 15])) [0, 3, 13, 14, 15])
  (.region [⟨some 28, none, .bin .add (.t 15) (.c (.int .i64 1))⟩,
    ⟨some 15, none, .mov (.t 28)⟩]
    [0, 3, 13, 14, 15]))))
def RC.roster_Roster_Groups : RFn := ⟨1, [.slot 2],
  (.seq (.region [⟨some 2, none, .mov (.c (.slice none 0 0))⟩]
    [0])
  (.seq (.seq (.region [⟨some 6, none, .mov (.t 0)⟩,
    ⟨some 7, none, .call F.roster_Roster_none [.t 6]⟩]
    [0, 7])
  (.cond (.t 7)
    (.seq (.region [⟨some 2, none, .mov (.c (.slice none 0 0))⟩]
      [2])
    .ret)
    .skip))
  (.seq (.region [⟨some 3, none, .mov (.c (.slice none 0 0))⟩]
    [0, 3])
  (.seq (.seq (.region [⟨some 8, none, .mov (.t 0)⟩,
    ⟨some 9, none, .nilchk (.t 8)⟩,
    ⟨some 10, none, .fieldAddr 2 (.t 9)⟩,
    ⟨some 11, none, .load false 1 (.t 10)⟩,
    ⟨some 12, none, .call F.maps_Keys_map_int_roster_Group_int_roster_Group [.t 11]⟩,
    ⟨some 13, none, .call F.slices_Sorted_int [.t 12]⟩,
    ⟨some 14, none, .len (.t 13)⟩,
    ⟨some 15, none, .mov (.c (.int .i64 0))⟩]
    [0, 3, 13, 14, 15])
  (.block 0
    (.loop [0, 3, 13, 14, 15] RB.roster_Roster_Groups_1) [3]))
  (.seq (.region [⟨some 29, none, .mov (.t 3)⟩,
    ⟨some 2, none, .mov (.t 29)⟩]
    [2])
  .ret)))))⟩

def RB.maps_Keys_map_int_roster_Task_int_roster_Task_1_1 : RCode :=
  (.seq (.region [⟨some 6, none, .stop⟩,
    ⟨some 7, none, .ext 0 (.t 6)⟩]
    [0, 7])
  (.seq (.cond (.t 7)
    .skip
    (.exit 0))
  (.block 1
    (.seq (.region [⟨some 8, none, .stop⟩,
      ⟨some 9, none, .ext 0 (.t 8)⟩,
      ⟨some 3, none, .mov (.t 9)⟩]
      [0, 3])
    (.seq (.region [⟨some 10, none, .mov (.t 0)⟩,
      ⟨some 11, none, .mov (.t 3)⟩,
      ⟨some 12, none, .callv (.t 10) [.t 11]⟩,
      ⟨some 13, none, .un .not (.t 12)⟩]
      [0, 13])
    (.cond (.t 13)
      .ret
      .skip))) [0])))
def RC.maps_Keys_map_int_roster_Task_int_roster_Task_1 : RFn := ⟨2, [],
  (.seq (.region [⟨some 4, none, .load false 1 (.t 1)⟩,
    ⟨some 5, none, .stop⟩]
    [0])
  (.block 0
    (.loop [0] RB.maps_Keys_map_int_roster_Task_int_roster_Task_1_1) []))⟩

def RB.slices_Index_int_int_1 : RCode :=
  (.seq (.region [⟨some 9, none, .bin .lss (.t 8) (.t 7)⟩]
    [0, 1, 7, 8, 9])
  (.seq (.cond (.t 9)
    .skip
    (.exit 0))
  (.seq (.block 1
    (.seq (.region [⟨some 10, none, .mov (.t 8)⟩,
      ⟨some 5, none, .mov (.t 10)⟩]
      [0, 1, 5, 7, 8])
    (.seq (.region [⟨some 11, none, .mov (.t 1)⟩,
      ⟨some 12, none, .mov (.t 0)⟩,
      ⟨some 13, none, .mov (.t 5)⟩,
      ⟨some 14, none, .idxS 1 (.t 12) (.t 13)⟩,
      ⟨some 15, none, .load false 1 (.t 14)⟩,
      ⟨some 16, none, .bin .eql (.t 11) (.t 15)⟩]
      [0, 1, 5, 7, 8, 16])
    (.cond (.t 16)
      (.seq (.region [⟨some 17, none, .mov (.t 5)⟩,
        ⟨some 4, none, .mov (.t 17)⟩]
        [4])
      .ret)
      .skip))) [0, 1, 7, 8])
  (.region [⟨some 18, none, .bin .add (.t 8) (.c (.int .i64 1))⟩,
    ⟨some 8, none, .mov (.t 18)⟩]
    [0, 1, 7, 8]))))
def RC.slices_Index_int_int : RFn := ⟨2, [.slot 4],
  (.seq (.region [⟨some 4, none, .mov (.c (.int .i64 0))⟩]
    [0, 1])
  (.seq (.seq (.region [⟨some 6, none, .mov (.t 0)⟩,
    ⟨some 7, none, .len (.t 6)⟩,
    ⟨some 8, none, .mov (.c (.int .i64 0))⟩]
    [0, 1, 7, 8])
  (.block 0
    (.loop [0, 1, 7, 8] RB.slices_Index_int_int_1) []))
  (.seq (.region [⟨some 4, none, .mov (.c (.int .i64 (-1)))⟩]
    [4])
  .ret)))⟩

def RC.math_bits_Mul : RFn := ⟨2, [.slot 4, .slot 5],
  (.seq (.region [⟨some 4, none, .mov (.c (u64 0#64))⟩,
    ⟨some 5, none, .mov (.c (u64 0#64))⟩]
    [0, 1])
  (.seq (.cond (.c (.bool false))
    (.seq (.region [⟨some 11, none, .mov (.t 0)⟩,
      ⟨some 12, none, .conv .u32 (.t 11)⟩,
      ⟨some 13, none, .mov (.t 1)⟩,
      ⟨some 14, none, .conv .u32 (.t 13)⟩,
      ⟨some 15, none, .call F.math_bits_Mul32 [.t 12, .t 14]⟩,
      ⟨some 10, none, .mov (.t 15)⟩,
      ⟨some 16, none, .ext 0 (.t 10)⟩,
      ⟨some 17, none, .ext 1 (.t 10)⟩,
      ⟨some 6, none, .mov (.t 16)⟩,
      ⟨some 7, none, .mov (.t 17)⟩]
      [6, 7])
    (.seq (.region [⟨some 18, none, .mov (.t 6)⟩,
      ⟨some 19, none, .conv .u64 (.t 18)⟩,
      ⟨some 20, none, .mov (.t 7)⟩,
      ⟨some 21, none, .conv .u64 (.t 20)⟩,
      ⟨some 4, none, .mov (.t 19)⟩,
      ⟨some 5, none, .mov (.t 21)⟩]
      [4, 5])
    .ret))
    .skip)
  (.seq (.region [⟨some 23, none, .mov (.t 0)⟩,
    ⟨some 24, none, .mov (.t 1)⟩,
    ⟨some 25, none, .call F.math_bits_Mul64 [.t 23, .t 24]⟩,
    ⟨some 22, none, .mov (.t 25)⟩,
    ⟨some 26, none, .ext 0 (.t 22)⟩,
    ⟨some 27, none, .ext 1 (.t 22)⟩,
    ⟨some 8, none, .mov (.t 26)⟩,
    ⟨some 9, none, .mov (.t 27)⟩]
    [8, 9])
  (.seq (.region [⟨some 28, none, .mov (.t 8)⟩,
    ⟨some 29, none, .mov (.t 9)⟩,
    ⟨some 4, none, .mov (.t 28)⟩,
    ⟨some 5, none, .mov (.t 29)⟩]
    [4, 5])
  .ret))))⟩

def RC.roster_Roster_Arrive : RFn := ⟨3, [.slot 6],
  (.seq (.region [⟨some 6, none, .mov (.c (.int .i64 0))⟩]
    [0, 1, 2])
  (.seq (.seq (.region [⟨some 8, none, .mov (.t 0)⟩,
    ⟨some 9, none, .mov (.t 1)⟩,
    ⟨some 10, none, .call F.roster_Roster_fresh [.t 8, .t 9]⟩,
    ⟨some 7, none, .mov (.t 10)⟩]
    [0, 1, 2, 7])
  (.seq (.region [⟨some 11, none, .mov (.t 7)⟩,
    ⟨some 12, none, .bin .neq (.t 11) (.c (.int .i64 0))⟩]
    [0, 1, 2, 7, 12])
  (.cond (.t 12)
    (.seq (.region [⟨some 13, none, .mov (.t 7)⟩,
      ⟨some 6, none, .mov (.t 13)⟩]
      [6])
    .ret)
    .skip)))
  (.seq (.block 0
    (.seq (.region [⟨some 15, none, .mov (.t 0)⟩,
      ⟨some 16, none, .mov (.t 2)⟩,
      ⟨some 17, none, .call F.roster_Roster_share [.t 15, .t 16]⟩,
      ⟨some 18, none, .un .not (.t 17)⟩,
      ⟨some 14, none, .mov (.t 18)⟩]
      [0, 1, 2, 14])
    (.cond (.t 14)
      (.seq (.region [⟨some 6, none, .mov (.c (.int .i64 21))⟩]
        [6])
      .ret)
      (.seq (.region [⟨some 20, none, .mov (.t 0)⟩,
        ⟨some 21, none, .nilchk (.t 20)⟩,
        ⟨some 22, none, .fieldAddr 1 (.t 21)⟩,
        ⟨some 23, none, .load false 1 (.t 22)⟩,
        ⟨some 24, none, .lenM (.t 23)⟩,
        ⟨some 25, none, .bin .geq (.t 24) (.c (.int .i64 96))⟩,
        ⟨some 19, none, .mov (.t 25)⟩]
        [0, 1, 2, 19])
      (.cond (.t 19)
        (.seq (.region [⟨some 6, none, .mov (.c (.int .i64 13))⟩]
          [6])
        .ret)
        .skip)))) [0, 1, 2])
  (.seq (.region [⟨some 26, none, .mov (.t 0)⟩,
    ⟨some 27, none, .nilchk (.t 26)⟩,
    ⟨some 28, none, .fieldAddr 1 (.t 27)⟩,
    ⟨some 29, none, .load false 1 (.t 28)⟩,
    ⟨some 30, none, .mov (.t 1)⟩,
    ⟨some 31, none, .mov (.t 1)⟩,
    ⟨some 32, none, .mov (.t 2)⟩,
    ⟨some 33, none, .build [(.int .i64 0), (.int .i64 0), (.int .i64 0), (.int .i64 0), (.int .i64 0), (.bool false)] [(0, 1, .t 31), (2, 1, .t 32)]⟩,
    ⟨none, none, .upd .int (.t 29) (.t 30) (.t 33)⟩]
    [])
  (.seq (.region [⟨some 6, none, .mov (.c (.int .i64 0))⟩]
    [6])
  .ret)))))⟩

def RC.roster_Roster_Depart : RFn := ⟨2, [.slot 4],
  (.seq (.region [⟨some 4, none, .mov (.c (.int .i64 0))⟩]
    [0, 1])
  (.seq (.region [⟨some 8, none, .mov (.t 0)⟩,
    ⟨some 9, none, .mov (.t 1)⟩,
    ⟨some 10, none, .call F.roster_Roster_one [.t 8, .t 9]⟩,
    ⟨some 7, none, .mov (.t 10)⟩,
    ⟨some 11, none, .ext 0 (.t 7)⟩,
    ⟨some 12, none, .ext 1 (.t 7)⟩,
    ⟨some 5, none, .alloc [(.int .i64 0), (.int .i64 0), (.int .i64 0), (.int .i64 0), (.int .i64 0), (.bool false)]⟩,
    ⟨none, none, .store 6 (.t 5) (.t 11)⟩,
    ⟨some 6, none, .mov (.t 12)⟩]
    [0, 1, 5, 6])
  (.seq (.seq (.region [⟨some 13, none, .mov (.t 6)⟩,
    ⟨some 14, none, .bin .neq (.t 13) (.c (.int .i64 0))⟩]
    [0, 1, 5, 6, 14])
  (.cond (.t 14)
    (.seq (.region [⟨some 15, none, .mov (.t 6)⟩,
      ⟨some 4, none, .mov (.t 15)⟩]
      [4])
    .ret)
    .skip))
  (.seq (.region [⟨some 16, none, .mov (.t 0)⟩,
    ⟨some 17, none, .fieldAddr 1 (.t 5)⟩,
    ⟨some 18, none, .load false 1 (.t 17)⟩,
    ⟨some 19, none, .call F.roster_Roster_count [.t 16, .t 18, .c (.int .i64 (-1))]⟩]
    [0, 1])
  (.seq (.region [⟨some 20, none, .mov (.t 0)⟩,
    ⟨some 21, none, .nilchk (.t 20)⟩,
    ⟨some 22, none, .fieldAddr 1 (.t 21)⟩,
    ⟨some 23, none, .load false 1 (.t 22)⟩,
    ⟨some 24, none, .mov (.t 1)⟩,
    ⟨none, none, .del .int (.t 23) (.t 24)⟩]
    [])
  (.seq (.region [⟨some 4, none, .mov (.c (.int .i64 0))⟩]
    [4])
  .ret))))))⟩

def RC.roster_Roster_Reweight : RFn := ⟨3, [.slot 6],
  (.seq (.region [⟨some 6, none, .mov (.c (.int .i64 0))⟩]
    [0, 1, 2])
  (.seq (.region [⟨some 10, none, .mov (.t 0)⟩,
    ⟨some 11, none, .mov (.t 1)⟩,
    ⟨some 12, none, .call F.roster_Roster_member [.t 10, .t 11, .c (.bool false)]⟩,
    ⟨some 9, none, .mov (.t 12)⟩,
    ⟨some 13, none, .ext 0 (.t 9)⟩,
    ⟨some 14, none, .ext 1 (.t 9)⟩,
    ⟨some 7, none, .alloc [(.int .i64 0), (.int .i64 0), (.int .i64 0), (.int .i64 0), (.int .i64 0), (.bool false)]⟩,
    ⟨none, none, .store 6 (.t 7) (.t 13)⟩,
    ⟨some 8, none, .mov (.t 14)⟩]
    [0, 1, 2, 7, 8])
  (.seq (.block 0
    (.seq (.region [⟨some 16, none, .mov (.t 8)⟩,
      ⟨some 17, none, .bin .neq (.t 16) (.c (.int .i64 0))⟩,
      ⟨some 15, none, .mov (.t 17)⟩]
      [0, 1, 2, 7, 8, 15])
    (.cond (.t 15)
      (.seq (.region [⟨some 18, none, .mov (.t 8)⟩,
        ⟨some 6, none, .mov (.t 18)⟩]
        [6])
      .ret)
      (.seq (.region [⟨some 20, none, .mov (.t 0)⟩,
        ⟨some 21, none, .mov (.t 2)⟩,
        ⟨some 22, none, .call F.roster_Roster_share [.t 20, .t 21]⟩,
        ⟨some 23, none, .un .not (.t 22)⟩,
        ⟨some 19, none, .mov (.t 23)⟩]
        [0, 1, 2, 7, 19])
      (.cond (.t 19)
        (.seq (.region [⟨some 6, none, .mov (.c (.int .i64 21))⟩]
          [6])
        .ret)
        .skip)))) [0, 1, 2, 7])
  (.seq (.region [⟨some 24, none, .mov (.t 2)⟩,
    ⟨some 25, none, .fieldAddr 2 (.t 7)⟩,
    ⟨none, none, .store 1 (.t 25) (.t 24)⟩]
    [0, 1, 7])
  (.seq (.drawn [⟨some 26, none, .mov (.t 0)⟩,
    ⟨some 27, none, .nilchk (.t 26)⟩,
    ⟨some 28, none, .fieldAddr 1 (.t 27)⟩,
    ⟨some 29, none, .load false 1 (.t 28)⟩,
    ⟨some 30, none, .mov (.t 1)⟩,
    ⟨some 31, none, .load true 6 (.t 7)⟩,
    ⟨none, none, .upd .int (.t 29) (.t 30) (.t 31)⟩]
    [[], [0], [1], [2], [], [], [3, 4, 5, 0, 1, 2, 3, 4, 5]]
    [(0, []), (1, []), (2, []), (4, []), (3, []), (5, []), (6, [])]
    [[], [0], [0, 1], [0, 1, 2], [], [], [0, 1, 2, 3, 4, 5]]
    [])
  (.seq (.region [⟨some 6, none, .mov (.c (.int .i64 0))⟩]
    [6])
  .ret))))))⟩

def RC.roster_Roster_Block : RFn := ⟨2, [.slot 4],
  (.seq (.region [⟨some 4, none, .mov (.c (.int .i64 0))⟩]
    [0, 1])
  (.seq (.region [⟨some 5, none, .mov (.t 0)⟩,
    ⟨some 6, none, .mov (.t 1)⟩,
    ⟨some 7, none, .call F.roster_Roster_off [.t 5, .t 6, .c (.bool true)]⟩,
    ⟨some 4, none, .mov (.t 7)⟩]
    [4])
  .ret))⟩

def RC.roster_Roster_Wake : RFn := ⟨2, [.slot 4],
  (.seq (.region [⟨some 4, none, .mov (.c (.int .i64 0))⟩]
    [0, 1])
  (.seq (.region [⟨some 5, none, .mov (.t 0)⟩,
    ⟨some 6, none, .mov (.t 1)⟩,
    ⟨some 7, none, .call F.roster_Roster_off [.t 5, .t 6, .c (.bool false)]⟩,
    ⟨some 4, none, .mov (.t 7)⟩]
    [4])
  .ret))⟩

def RC.roster_Roster_Found : RFn := ⟨3, [.slot 6],
  (.seq (.region [⟨some 6, none, .mov (.c (.int .i64 0))⟩]
    [0, 1, 2])
  (.seq (.seq (.region [⟨some 11, none, .mov (.t 0)⟩,
    ⟨some 12, none, .call F.roster_Roster_none [.t 11]⟩]
    [0, 1, 2, 12])
  (.cond (.t 12)
    (.seq (.region [⟨some 6, none, .mov (.c (.int .i64 2))⟩]
      [6])
    .ret)
    .skip))
  (.seq (.seq (.region [⟨some 14, none, .mov (.t 1)⟩,
    ⟨some 15, none, .call F.order_Unit [.t 14, .c (.bool true)]⟩,
    ⟨some 13, none, .mov (.t 15)⟩,
    ⟨some 16, none, .ext 0 (.t 13)⟩,
    ⟨some 17, none, .ext 1 (.t 13)⟩,
    ⟨some 7, none, .mov (.t 16)⟩,
    ⟨some 8, none, .mov (.t 17)⟩]
    [0, 1, 2, 8])
  (.seq (.region [⟨some 18, none, .mov (.t 8)⟩,
    ⟨some 19, none, .bin .neq (.t 18) (.c (.int .i64 0))⟩]
    [0, 1, 2, 19])
  (.cond (.t 19)
    (.seq (.region [⟨some 6, none, .mov (.c (.int .i64 25))⟩]
      [6])
    .ret)
    .skip)))
  (.seq (.seq (.region [⟨some 21, none, .mov (.t 0)⟩,
    ⟨some 22, none, .nilchk (.t 21)⟩,
    ⟨some 23, none, .fieldAddr 2 (.t 22)⟩,
    ⟨some 24, none, .load false 1 (.t 23)⟩,
    ⟨some 25, none, .mov (.t 1)⟩,
    ⟨some 26, none, .look .int (.agg #[(.int .i64 0), (.int .i64 0), (.int .i64 0)]) true (.t 24) (.t 25)⟩,
    ⟨some 20, none, .mov (.t 26)⟩,
    ⟨some 27, none, .ext 0 (.t 20)⟩,
    ⟨some 28, none, .ext 1 (.t 20)⟩,
    ⟨some 9, none, .alloc [(.int .i64 0), (.int .i64 0), (.int .i64 0)]⟩,
    ⟨none, none, .store 3 (.t 9) (.t 27)⟩,
    ⟨some 10, none, .mov (.t 28)⟩]
    [0, 1, 2, 10])
  (.seq (.region [⟨some 29, none, .mov (.t 10)⟩]
    [0, 1, 2, 29])
  (.cond (.t 29)
    (.seq (.region [⟨some 6, none, .mov (.c (.int .i64 11))⟩]
      [6])
    .ret)
    .skip)))
  (.seq (.seq (.region [⟨some 30, none, .mov (.t 0)⟩,
    ⟨some 31, none, .mov (.t 2)⟩,
    ⟨some 32, none, .call F.roster_Roster_share [.t 30, .t 31]⟩,
    ⟨some 33, none, .un .not (.t 32)⟩]
    [0, 1, 2, 33])
  (.cond (.t 33)
    (.seq (.region [⟨some 6, none, .mov (.c (.int .i64 21))⟩]
      [6])
    .ret)
    .skip))
  (.seq (.region [⟨some 34, none, .mov (.t 0)⟩,
    ⟨some 35, none, .nilchk (.t 34)⟩,
    ⟨some 36, none, .fieldAddr 2 (.t 35)⟩,
    ⟨some 37, none, .load false 1 (.t 36)⟩,
    ⟨some 38, none, .mov (.t 1)⟩,
    ⟨some 39, none, .mov (.t 1)⟩,
    ⟨some 40, none, .mov (.t 2)⟩,
    ⟨some 41, none, .build [(.int .i64 0), (.int .i64 0), (.int .i64 0)] [(0, 1, .t 39), (1, 1, .t 40)]⟩,
    ⟨none, none, .upd .int (.t 37) (.t 38) (.t 41)⟩]
    [])
  (.seq (.region [⟨some 6, none, .mov (.c (.int .i64 0))⟩]
    [6])
  .ret)))))))⟩

def RC.roster_Roster_Fund : RFn := ⟨3, [.slot 6],
  (.seq (.region [⟨some 6, none, .mov (.c (.int .i64 0))⟩]
    [0, 1, 2])
  (.seq (.region [⟨some 10, none, .mov (.t 0)⟩,
    ⟨some 11, none, .mov (.t 1)⟩,
    ⟨some 12, none, .call F.roster_Roster_group [.t 10, .t 11]⟩,
    ⟨some 9, none, .mov (.t 12)⟩,
    ⟨some 13, none, .ext 0 (.t 9)⟩,
    ⟨some 14, none, .ext 1 (.t 9)⟩,
    ⟨some 7, none, .alloc [(.int .i64 0), (.int .i64 0), (.int .i64 0)]⟩,
    ⟨none, none, .store 3 (.t 7) (.t 13)⟩,
    ⟨some 8, none, .mov (.t 14)⟩]
    [0, 1, 2, 7, 8])
  (.seq (.block 0
    (.seq (.region [⟨some 16, none, .mov (.t 8)⟩,
      ⟨some 17, none, .bin .neq (.t 16) (.c (.int .i64 0))⟩,
      ⟨some 15, none, .mov (.t 17)⟩]
      [0, 1, 2, 7, 8, 15])
    (.cond (.t 15)
      (.seq (.region [⟨some 18, none, .mov (.t 8)⟩,
        ⟨some 6, none, .mov (.t 18)⟩]
        [6])
      .ret)
      (.seq (.region [⟨some 20, none, .mov (.t 0)⟩,
        ⟨some 21, none, .mov (.t 2)⟩,
        ⟨some 22, none, .call F.roster_Roster_share [.t 20, .t 21]⟩,
        ⟨some 23, none, .un .not (.t 22)⟩,
        ⟨some 19, none, .mov (.t 23)⟩]
        [0, 1, 2, 7, 19])
      (.cond (.t 19)
        (.seq (.region [⟨some 6, none, .mov (.c (.int .i64 21))⟩]
          [6])
        .ret)
        .skip)))) [0, 1, 2, 7])
  (.seq (.region [⟨some 24, none, .mov (.t 2)⟩,
    ⟨some 25, none, .fieldAddr 1 (.t 7)⟩,
    ⟨none, none, .store 1 (.t 25) (.t 24)⟩]
    [0, 1, 7])
  (.seq (.drawn [⟨some 26, none, .mov (.t 0)⟩,
    ⟨some 27, none, .nilchk (.t 26)⟩,
    ⟨some 28, none, .fieldAddr 2 (.t 27)⟩,
    ⟨some 29, none, .load false 1 (.t 28)⟩,
    ⟨some 30, none, .mov (.t 1)⟩,
    ⟨some 31, none, .load true 3 (.t 7)⟩,
    ⟨none, none, .upd .int (.t 29) (.t 30) (.t 31)⟩]
    [[], [0], [1], [2], [], [], [3, 4, 5, 0, 1, 2, 3, 4, 5]]
    [(0, []), (1, []), (2, []), (4, []), (3, []), (5, []), (6, [])]
    [[], [0], [0, 1], [0, 1, 2], [], [], [0, 1, 2, 3, 4, 5]]
    [])
  (.seq (.region [⟨some 6, none, .mov (.c (.int .i64 0))⟩]
    [6])
  .ret))))))⟩

def RC.roster_Roster_Disband : RFn := ⟨2, [.slot 4],
  (.seq (.region [⟨some 4, none, .mov (.c (.int .i64 0))⟩]
    [0, 1])
  (.seq (.region [⟨some 8, none, .mov (.t 0)⟩,
    ⟨some 9, none, .mov (.t 1)⟩,
    ⟨some 10, none, .call F.roster_Roster_group [.t 8, .t 9]⟩,
    ⟨some 7, none, .mov (.t 10)⟩,
    ⟨some 11, none, .ext 0 (.t 7)⟩,
    ⟨some 12, none, .ext 1 (.t 7)⟩,
    ⟨some 5, none, .alloc [(.int .i64 0), (.int .i64 0), (.int .i64 0)]⟩,
    ⟨none, none, .store 3 (.t 5) (.t 11)⟩,
    ⟨some 6, none, .mov (.t 12)⟩]
    [0, 1, 5, 6])
  (.seq (.block 0
    (.seq (.region [⟨some 14, none, .mov (.t 6)⟩,
      ⟨some 15, none, .bin .neq (.t 14) (.c (.int .i64 0))⟩,
      ⟨some 13, none, .mov (.t 15)⟩]
      [0, 1, 5, 6, 13])
    (.cond (.t 13)
      (.seq (.region [⟨some 16, none, .mov (.t 6)⟩,
        ⟨some 4, none, .mov (.t 16)⟩]
        [4])
      .ret)
      (.seq (.region [⟨some 18, none, .fieldAddr 2 (.t 5)⟩,
        ⟨some 19, none, .load false 1 (.t 18)⟩,
        ⟨some 20, none, .bin .gtr (.t 19) (.c (.int .i64 0))⟩,
        ⟨some 17, none, .mov (.t 20)⟩]
        [0, 1, 17])
      (.cond (.t 17)
        (.seq (.region [⟨some 4, none, .mov (.c (.int .i64 16))⟩]
          [4])
        .ret)
        .skip)))) [0, 1])
  (.seq (.region [⟨some 21, none, .mov (.t 0)⟩,
    ⟨some 22, none, .nilchk (.t 21)⟩,
    ⟨some 23, none, .fieldAddr 2 (.t 22)⟩,
    ⟨some 24, none, .load false 1 (.t 23)⟩,
    ⟨some 25, none, .mov (.t 1)⟩,
    ⟨none, none, .del .int (.t 24) (.t 25)⟩]
    [])
  (.seq (.region [⟨some 4, none, .mov (.c (.int .i64 0))⟩]
    [4])
  .ret)))))⟩

def RC.roster_Roster_Enter : RFn := ⟨5, [.slot 10],
  (.seq (.region [⟨some 10, none, .mov (.c (.int .i64 0))⟩]
    [0, 1, 2, 3, 4])
  (.seq (.seq (.region [⟨some 14, none, .mov (.t 0)⟩,
    ⟨some 15, none, .mov (.t 1)⟩,
    ⟨some 16, none, .call F.roster_Roster_fresh [.t 14, .t 15]⟩,
    ⟨some 11, none, .mov (.t 16)⟩]
    [0, 1, 2, 3, 4, 11])
  (.seq (.region [⟨some 17, none, .mov (.t 11)⟩,
    ⟨some 18, none, .bin .neq (.t 17) (.c (.int .i64 0))⟩]
    [0, 1, 2, 3, 4, 11, 18])
  (.cond (.t 18)
    (.seq (.region [⟨some 19, none, .mov (.t 11)⟩,
      ⟨some 10, none, .mov (.t 19)⟩]
      [10])
    .ret)
    .skip)))
  (.seq (.region [⟨some 21, none, .mov (.t 0)⟩,
    ⟨some 22, none, .mov (.t 2)⟩,
    ⟨some 23, none, .call F.roster_Roster_group [.t 21, .t 22]⟩,
    ⟨some 20, none, .mov (.t 23)⟩,
    ⟨some 24, none, .ext 0 (.t 20)⟩,
    ⟨some 25, none, .ext 1 (.t 20)⟩,
    ⟨some 12, none, .alloc [(.int .i64 0), (.int .i64 0), (.int .i64 0)]⟩,
    ⟨none, none, .store 3 (.t 12) (.t 24)⟩,
    ⟨some 13, none, .mov (.t 25)⟩]
    [0, 1, 2, 3, 4, 12, 13])
  (.seq (.block 0
    (.seq (.region [⟨some 27, none, .mov (.t 13)⟩,
      ⟨some 28, none, .bin .neq (.t 27) (.c (.int .i64 0))⟩,
      ⟨some 26, none, .mov (.t 28)⟩]
      [0, 1, 2, 3, 4, 12, 13, 26])
    (.cond (.t 26)
      (.seq (.region [⟨some 29, none, .mov (.t 13)⟩,
        ⟨some 10, none, .mov (.t 29)⟩]
        [10])
      .ret)
      (.seq (.region [⟨some 31, none, .mov (.t 3)⟩,
        ⟨some 32, none, .call F.roster_weight [.t 31]⟩,
        ⟨some 33, none, .un .not (.t 32)⟩,
        ⟨some 30, none, .mov (.t 33)⟩]
        [0, 1, 2, 3, 4, 12, 30])
      (.cond (.t 30)
        (.seq (.region [⟨some 10, none, .mov (.c (.int .i64 22))⟩]
          [10])
        .ret)
        (.seq (.region [⟨some 35, none, .mov (.t 4)⟩,
          ⟨some 36, none, .bin .lss (.t 35) (.c (.int .i64 0))⟩,
          ⟨some 37, none, .mov (.t 36)⟩,
          ⟨some 38, some (37, false), .mov (.t 4)⟩,
          ⟨some 39, some (37, false), .mov (.t 0)⟩,
          ⟨some 40, some (37, false), .nilchk (.t 39)⟩,
          ⟨some 41, some (37, false), .fieldAddr 0 (.t 40)⟩,
          ⟨some 42, some (37, false), .load false 1 (.t 41)⟩,
          ⟨some 43, some (37, false), .bin .gtr (.t 38) (.t 42)⟩,
          ⟨some 44, none, .pick (.t 37) (.c (.bool true)) (.t 43)⟩,
          ⟨some 34, none, .mov (.t 44)⟩]
          [0, 1, 2, 3, 4, 12, 34])
        (.cond (.t 34)
          (.seq (.region [⟨some 10, none, .mov (.c (.int .i64 23))⟩]
            [10])
          .ret)
          (.seq (.region [⟨some 46, none, .mov (.t 0)⟩,
            ⟨some 47, none, .nilchk (.t 46)⟩,
            ⟨some 48, none, .fieldAddr 1 (.t 47)⟩,
            ⟨some 49, none, .load false 1 (.t 48)⟩,
            ⟨some 50, none, .lenM (.t 49)⟩,
            ⟨some 51, none, .bin .geq (.t 50) (.c (.int .i64 96))⟩,
            ⟨some 52, none, .mov (.t 51)⟩,
            ⟨some 53, some (52, false), .fieldAddr 2 (.t 12)⟩,
            ⟨some 54, some (52, false), .load false 1 (.t 53)⟩,
            ⟨some 55, some (52, false), .bin .geq (.t 54) (.c (.int .i64 32))⟩,
            ⟨some 56, none, .pick (.t 52) (.c (.bool true)) (.t 55)⟩,
            ⟨some 45, none, .mov (.t 56)⟩]
            [0, 1, 2, 3, 4, 45])
          (.cond (.t 45)
            (.seq (.region [⟨some 10, none, .mov (.c (.int .i64 13))⟩]
              [10])
            .ret)
            .skip)))))))) [0, 1, 2, 3, 4])
  (.seq (.region [⟨some 57, none, .mov (.t 0)⟩,
    ⟨some 58, none, .nilchk (.t 57)⟩,
    ⟨some 59, none, .fieldAddr 1 (.t 58)⟩,
    ⟨some 60, none, .load false 1 (.t 59)⟩,
    ⟨some 61, none, .mov (.t 1)⟩,
    ⟨some 62, none, .mov (.t 1)⟩,
    ⟨some 63, none, .mov (.t 2)⟩,
    ⟨some 64, none, .mov (.t 3)⟩,
    ⟨some 65, none, .mov (.t 4)⟩,
    ⟨some 66, none, .build [(.int .i64 0), (.int .i64 0), (.int .i64 0), (.int .i64 0), (.int .i64 0), (.bool false)] [(0, 1, .t 62), (1, 1, .t 63), (3, 1, .t 64), (4, 1, .t 65)]⟩,
    ⟨none, none, .upd .int (.t 60) (.t 61) (.t 66)⟩]
    [0, 2])
  (.seq (.region [⟨some 67, none, .mov (.t 0)⟩,
    ⟨some 68, none, .mov (.t 2)⟩,
    ⟨some 69, none, .call F.roster_Roster_count [.t 67, .t 68, .c (.int .i64 1)]⟩]
    [])
  (.seq (.region [⟨some 10, none, .mov (.c (.int .i64 0))⟩]
    [10])
  .ret)))))))⟩

def RC.roster_Roster_Weigh : RFn := ⟨3, [.slot 6],
  (.seq (.region [⟨some 6, none, .mov (.c (.int .i64 0))⟩]
    [0, 1, 2])
  (.seq (.region [⟨some 10, none, .mov (.t 0)⟩,
    ⟨some 11, none, .mov (.t 1)⟩,
    ⟨some 12, none, .call F.roster_Roster_member [.t 10, .t 11, .c (.bool true)]⟩,
    ⟨some 9, none, .mov (.t 12)⟩,
    ⟨some 13, none, .ext 0 (.t 9)⟩,
    ⟨some 14, none, .ext 1 (.t 9)⟩,
    ⟨some 7, none, .alloc [(.int .i64 0), (.int .i64 0), (.int .i64 0), (.int .i64 0), (.int .i64 0), (.bool false)]⟩,
    ⟨none, none, .store 6 (.t 7) (.t 13)⟩,
    ⟨some 8, none, .mov (.t 14)⟩]
    [0, 1, 2, 7, 8])
  (.seq (.block 0
    (.seq (.region [⟨some 16, none, .mov (.t 8)⟩,
      ⟨some 17, none, .bin .neq (.t 16) (.c (.int .i64 0))⟩,
      ⟨some 15, none, .mov (.t 17)⟩]
      [0, 1, 2, 7, 8, 15])
    (.cond (.t 15)
      (.seq (.region [⟨some 18, none, .mov (.t 8)⟩,
        ⟨some 6, none, .mov (.t 18)⟩]
        [6])
      .ret)
      (.seq (.region [⟨some 20, none, .mov (.t 2)⟩,
        ⟨some 21, none, .call F.roster_weight [.t 20]⟩,
        ⟨some 22, none, .un .not (.t 21)⟩,
        ⟨some 19, none, .mov (.t 22)⟩]
        [0, 1, 2, 7, 19])
      (.cond (.t 19)
        (.seq (.region [⟨some 6, none, .mov (.c (.int .i64 22))⟩]
          [6])
        .ret)
        .skip)))) [0, 1, 2, 7])
  (.seq (.region [⟨some 23, none, .mov (.t 2)⟩,
    ⟨some 24, none, .fieldAddr 3 (.t 7)⟩,
    ⟨none, none, .store 1 (.t 24) (.t 23)⟩]
    [0, 1, 7])
  (.seq (.drawn [⟨some 25, none, .mov (.t 0)⟩,
    ⟨some 26, none, .nilchk (.t 25)⟩,
    ⟨some 27, none, .fieldAddr 1 (.t 26)⟩,
    ⟨some 28, none, .load false 1 (.t 27)⟩,
    ⟨some 29, none, .mov (.t 1)⟩,
    ⟨some 30, none, .load true 6 (.t 7)⟩,
    ⟨none, none, .upd .int (.t 28) (.t 29) (.t 30)⟩]
    [[], [0], [1], [2], [], [], [3, 4, 5, 0, 1, 2, 3, 4, 5]]
    [(0, []), (1, []), (2, []), (4, []), (3, []), (5, []), (6, [])]
    [[], [0], [0, 1], [0, 1, 2], [], [], [0, 1, 2, 3, 4, 5]]
    [])
  (.seq (.region [⟨some 6, none, .mov (.c (.int .i64 0))⟩]
    [6])
  .ret))))))⟩

def RC.roster_Roster_Limit : RFn := ⟨3, [.slot 6],
  (.seq (.region [⟨some 6, none, .mov (.c (.int .i64 0))⟩]
    [0, 1, 2])
  (.seq (.region [⟨some 10, none, .mov (.t 0)⟩,
    ⟨some 11, none, .mov (.t 1)⟩,
    ⟨some 12, none, .call F.roster_Roster_member [.t 10, .t 11, .c (.bool true)]⟩,
    ⟨some 9, none, .mov (.t 12)⟩,
    ⟨some 13, none, .ext 0 (.t 9)⟩,
    ⟨some 14, none, .ext 1 (.t 9)⟩,
    ⟨some 7, none, .alloc [(.int .i64 0), (.int .i64 0), (.int .i64 0), (.int .i64 0), (.int .i64 0), (.bool false)]⟩,
    ⟨none, none, .store 6 (.t 7) (.t 13)⟩,
    ⟨some 8, none, .mov (.t 14)⟩]
    [0, 1, 2, 7, 8])
  (.seq (.block 0
    (.seq (.region [⟨some 16, none, .mov (.t 8)⟩,
      ⟨some 17, none, .bin .neq (.t 16) (.c (.int .i64 0))⟩,
      ⟨some 15, none, .mov (.t 17)⟩]
      [0, 1, 2, 7, 8, 15])
    (.cond (.t 15)
      (.seq (.region [⟨some 18, none, .mov (.t 8)⟩,
        ⟨some 6, none, .mov (.t 18)⟩]
        [6])
      .ret)
      (.seq (.region [⟨some 20, none, .mov (.t 2)⟩,
        ⟨some 21, none, .bin .lss (.t 20) (.c (.int .i64 0))⟩,
        ⟨some 22, none, .mov (.t 21)⟩,
        ⟨some 23, some (22, false), .mov (.t 2)⟩,
        ⟨some 24, some (22, false), .mov (.t 0)⟩,
        ⟨some 25, some (22, false), .nilchk (.t 24)⟩,
        ⟨some 26, some (22, false), .fieldAddr 0 (.t 25)⟩,
        ⟨some 27, some (22, false), .load false 1 (.t 26)⟩,
        ⟨some 28, some (22, false), .bin .gtr (.t 23) (.t 27)⟩,
        ⟨some 29, none, .pick (.t 22) (.c (.bool true)) (.t 28)⟩,
        ⟨some 19, none, .mov (.t 29)⟩]
        [0, 1, 2, 7, 19])
      (.cond (.t 19)
        (.seq (.region [⟨some 6, none, .mov (.c (.int .i64 23))⟩]
          [6])
        .ret)
        .skip)))) [0, 1, 2, 7])
  (.seq (.region [⟨some 30, none, .mov (.t 2)⟩,
    ⟨some 31, none, .fieldAddr 4 (.t 7)⟩,
    ⟨none, none, .store 1 (.t 31) (.t 30)⟩]
    [0, 1, 7])
  (.seq (.drawn [⟨some 32, none, .mov (.t 0)⟩,
    ⟨some 33, none, .nilchk (.t 32)⟩,
    ⟨some 34, none, .fieldAddr 1 (.t 33)⟩,
    ⟨some 35, none, .load false 1 (.t 34)⟩,
    ⟨some 36, none, .mov (.t 1)⟩,
    ⟨some 37, none, .load true 6 (.t 7)⟩,
    ⟨none, none, .upd .int (.t 35) (.t 36) (.t 37)⟩]
    [[], [0], [1], [2], [], [], [3, 4, 5, 0, 1, 2, 3, 4, 5]]
    [(0, []), (1, []), (2, []), (4, []), (3, []), (5, []), (6, [])]
    [[], [0], [0, 1], [0, 1, 2], [], [], [0, 1, 2, 3, 4, 5]]
    [])
  (.seq (.region [⟨some 6, none, .mov (.c (.int .i64 0))⟩]
    [6])
  .ret))))))⟩

def RC.roster_Roster_Move : RFn := ⟨3, [.slot 6],
  (.seq (.region [⟨some 6, none, .mov (.c (.int .i64 0))⟩]
    [0, 1, 2])
  (.seq (.region [⟨some 11, none, .mov (.t 0)⟩,
    ⟨some 12, none, .mov (.t 1)⟩,
    ⟨some 13, none, .call F.roster_Roster_member [.t 11, .t 12, .c (.bool true)]⟩,
    ⟨some 10, none, .mov (.t 13)⟩,
    ⟨some 14, none, .ext 0 (.t 10)⟩,
    ⟨some 15, none, .ext 1 (.t 10)⟩,
    ⟨some 7, none, .alloc [(.int .i64 0), (.int .i64 0), (.int .i64 0), (.int .i64 0), (.int .i64 0), (.bool false)]⟩,
    ⟨none, none, .store 6 (.t 7) (.t 14)⟩,
    ⟨some 8, none, .mov (.t 15)⟩]
    [0, 1, 2, 7, 8])
  (.seq (.seq (.region [⟨some 16, none, .mov (.t 8)⟩,
    ⟨some 17, none, .bin .neq (.t 16) (.c (.int .i64 0))⟩]
    [0, 1, 2, 7, 8, 17])
  (.cond (.t 17)
    (.seq (.region [⟨some 18, none, .mov (.t 8)⟩,
      ⟨some 6, none, .mov (.t 18)⟩]
      [6])
    .ret)
    .skip))
  (.seq (.region [⟨some 20, none, .mov (.t 0)⟩,
    ⟨some 21, none, .mov (.t 2)⟩,
    ⟨some 22, none, .call F.roster_Roster_group [.t 20, .t 21]⟩,
    ⟨some 19, none, .mov (.t 22)⟩,
    ⟨some 23, none, .ext 0 (.t 19)⟩,
    ⟨some 24, none, .ext 1 (.t 19)⟩,
    ⟨some 9, none, .alloc [(.int .i64 0), (.int .i64 0), (.int .i64 0)]⟩,
    ⟨none, none, .store 3 (.t 9) (.t 23)⟩,
    ⟨some 8, none, .mov (.t 24)⟩]
    [0, 1, 2, 7, 8, 9])
  (.seq (.block 0
    (.seq (.region [⟨some 26, none, .mov (.t 8)⟩,
      ⟨some 27, none, .bin .neq (.t 26) (.c (.int .i64 0))⟩,
      ⟨some 25, none, .mov (.t 27)⟩]
      [0, 1, 2, 7, 8, 9, 25])
    (.cond (.t 25)
      (.seq (.region [⟨some 28, none, .mov (.t 8)⟩,
        ⟨some 6, none, .mov (.t 28)⟩]
        [6])
      .ret)
      (.seq (.region [⟨some 30, none, .fieldAddr 1 (.t 7)⟩,
        ⟨some 31, none, .load false 1 (.t 30)⟩,
        ⟨some 32, none, .mov (.t 2)⟩,
        ⟨some 33, none, .bin .eql (.t 31) (.t 32)⟩,
        ⟨some 29, none, .mov (.t 33)⟩]
        [0, 1, 2, 7, 9, 29])
      (.cond (.t 29)
        (.seq (.region [⟨some 6, none, .mov (.c (.int .i64 15))⟩]
          [6])
        .ret)
        (.seq (.region [⟨some 35, none, .fieldAddr 2 (.t 9)⟩,
          ⟨some 36, none, .load false 1 (.t 35)⟩,
          ⟨some 37, none, .bin .geq (.t 36) (.c (.int .i64 32))⟩,
          ⟨some 34, none, .mov (.t 37)⟩]
          [0, 1, 2, 7, 34])
        (.cond (.t 34)
          (.seq (.region [⟨some 6, none, .mov (.c (.int .i64 13))⟩]
            [6])
          .ret)
          .skip)))))) [0, 1, 2, 7])
  (.seq (.region [⟨some 38, none, .mov (.t 0)⟩,
    ⟨some 39, none, .fieldAddr 1 (.t 7)⟩,
    ⟨some 40, none, .load false 1 (.t 39)⟩,
    ⟨some 41, none, .call F.roster_Roster_count [.t 38, .t 40, .c (.int .i64 (-1))]⟩]
    [0, 1, 2, 7])
  (.seq (.region [⟨some 42, none, .mov (.t 0)⟩,
    ⟨some 43, none, .mov (.t 2)⟩,
    ⟨some 44, none, .call F.roster_Roster_count [.t 42, .t 43, .c (.int .i64 1)]⟩]
    [0, 1, 2, 7])
  (.seq (.region [⟨some 45, none, .mov (.t 2)⟩,
    ⟨some 46, none, .fieldAddr 1 (.t 7)⟩,
    ⟨none, none, .store 1 (.t 46) (.t 45)⟩]
    [0, 1, 7])
  (.seq (.drawn [⟨some 47, none, .mov (.t 0)⟩,
    ⟨some 48, none, .nilchk (.t 47)⟩,
    ⟨some 49, none, .fieldAddr 1 (.t 48)⟩,
    ⟨some 50, none, .load false 1 (.t 49)⟩,
    ⟨some 51, none, .mov (.t 1)⟩,
    ⟨some 52, none, .load true 6 (.t 7)⟩,
    ⟨none, none, .upd .int (.t 50) (.t 51) (.t 52)⟩]
    [[], [0], [1], [2], [], [], [3, 4, 5, 0, 1, 2, 3, 4, 5]]
    [(0, []), (1, []), (2, []), (4, []), (3, []), (5, []), (6, [])]
    [[], [0], [0, 1], [0, 1, 2], [], [], [0, 1, 2, 3, 4, 5]]
    [])
  (.seq (.region [⟨some 6, none, .mov (.c (.int .i64 0))⟩]
    [6])
  .ret))))))))))⟩

def RC.cores_Set_change : RFn := ⟨4, [.slot 8],
  (.seq (.region [⟨some 8, none, .mov (.c (.int .i64 0))⟩]
    [0, 1, 2, 3])
  (.seq (.seq (.region [⟨some 11, none, .mov (.t 0)⟩,
    ⟨some 12, none, .call F.cores_Set_Len [.t 11]⟩,
    ⟨some 13, none, .bin .eql (.t 12) (.c (.int .i64 0))⟩]
    [0, 1, 2, 3, 13])
  (.cond (.t 13)
    (.seq (.region [⟨some 8, none, .mov (.c (.int .i64 2))⟩]
      [8])
    .ret)
    .skip))
  (.seq (.seq (.region [⟨some 15, none, .mov (.t 0)⟩,
    ⟨some 16, none, .mov (.t 1)⟩,
    ⟨some 17, none, .call F.cores_Set_State [.t 15, .t 16]⟩,
    ⟨some 14, none, .mov (.t 17)⟩,
    ⟨some 18, none, .ext 0 (.t 14)⟩,
    ⟨some 19, none, .ext 1 (.t 14)⟩,
    ⟨some 9, none, .mov (.t 18)⟩,
    ⟨some 10, none, .mov (.t 19)⟩]
    [0, 1, 2, 3, 9, 10])
  (.block 0
    (.seq (.region [⟨some 21, none, .mov (.t 10)⟩,
      ⟨some 22, none, .un .not (.t 21)⟩,
      ⟨some 20, none, .mov (.t 22)⟩]
      [0, 1, 2, 3, 9, 20])
    (.cond (.t 20)
      (.seq (.region [⟨some 8, none, .mov (.c (.int .i64 24))⟩]
        [8])
      .ret)
      (.seq (.region [⟨some 24, none, .mov (.t 9)⟩,
        ⟨some 25, none, .mov (.t 2)⟩,
        ⟨some 26, none, .bin .neq (.t 24) (.t 25)⟩,
        ⟨some 23, none, .mov (.t 26)⟩]
        [0, 1, 3, 23])
      (.cond (.t 23)
        (.seq (.region [⟨some 8, none, .mov (.c (.int .i64 15))⟩]
          [8])
        .ret)
        (.seq (.region [⟨some 28, none, .mov (.t 3)⟩,
          ⟨some 29, none, .bin .eql (.t 28) (.c (.int .i64 2))⟩,
          ⟨some 30, none, .mov (.t 29)⟩,
          ⟨some 31, some (30, true), .mov (.t 0)⟩,
          ⟨some 32, some (30, true), .bslice [(.int .i64 0)] [(0, 1, .c (.int .i64 1))] 1 1⟩,
          ⟨some 33, some (30, true), .call F.cores_Set_Count [.t 31, .t 32]⟩,
          ⟨some 34, some (30, true), .bin .eql (.t 33) (.c (.int .i64 1))⟩,
          ⟨some 35, none, .pick (.t 30) (.t 34) (.c (.bool false))⟩,
          ⟨some 27, none, .mov (.t 35)⟩]
          [0, 1, 3, 27])
        (.cond (.t 27)
          (.seq (.region [⟨some 8, none, .mov (.c (.int .i64 17))⟩]
            [8])
          .ret)
          .skip)))))) [0, 1, 3]))
  (.seq (.region [⟨some 36, none, .mov (.t 0)⟩,
    ⟨some 37, none, .nilchk (.t 36)⟩,
    ⟨some 38, none, .fieldAddr 0 (.t 37)⟩,
    ⟨some 39, none, .load false 1 (.t 38)⟩,
    ⟨some 40, none, .mov (.t 1)⟩,
    ⟨some 41, none, .mov (.t 3)⟩,
    ⟨some 42, none, .idxS 1 (.t 39) (.t 40)⟩,
    ⟨none, none, .store 1 (.t 42) (.t 41)⟩]
    [])
  (.seq (.region [⟨some 8, none, .mov (.c (.int .i64 0))⟩]
    [8])
  .ret)))))⟩

def RC.maps_Keys_map_int_roster_Group_int_roster_Group : RFn := ⟨1, [.slot 2],
  (.seq (.region [⟨some 1, none, .box (.t 0)⟩,
    ⟨some 2, none, .mov (.c .nilFunc)⟩]
    [1])
  (.seq (.region [⟨some 3, none, .mkfn (.func F.maps_Keys_map_int_roster_Group_int_roster_Group_1) [] [.t 1]⟩,
    ⟨some 2, none, .mov (.t 3)⟩]
    [2])
  .ret))⟩

def RC.math_bits_Mul32 : RFn := ⟨2, [.slot 4, .slot 5],
  (.seq (.region [⟨some 4, none, .mov (.c (u32 0#32))⟩,
    ⟨some 5, none, .mov (.c (u32 0#32))⟩]
    [0, 1])
  (.seq (.region [⟨some 7, none, .mov (.t 0)⟩,
    ⟨some 8, none, .conv .u64 (.t 7)⟩,
    ⟨some 9, none, .mov (.t 1)⟩,
    ⟨some 10, none, .conv .u64 (.t 9)⟩,
    ⟨some 11, none, .bin .mul (.t 8) (.t 10)⟩,
    ⟨some 6, none, .mov (.t 11)⟩]
    [6])
  (.seq (.region [⟨some 12, none, .mov (.t 6)⟩,
    ⟨some 13, none, .bin .shr (.t 12) (.c (u64 32#64))⟩,
    ⟨some 14, none, .conv .u32 (.t 13)⟩,
    ⟨some 15, none, .mov (.t 6)⟩,
    ⟨some 16, none, .conv .u32 (.t 15)⟩,
    ⟨some 4, none, .mov (.t 14)⟩,
    ⟨some 5, none, .mov (.t 16)⟩]
    [4, 5])
  .ret)))⟩

def RC.math_bits_Mul64 : RFn := ⟨2, [.slot 4, .slot 5],
  (.seq (.region [⟨some 4, none, .mov (.c (u64 0#64))⟩,
    ⟨some 5, none, .mov (.c (u64 0#64))⟩]
    [0, 1])
  (.seq (.region [⟨some 14, none, .mov (.t 0)⟩,
    ⟨some 15, none, .bin .and (.t 14) (.c (u64 4294967295#64))⟩,
    ⟨some 6, none, .mov (.t 15)⟩]
    [0, 1, 6])
  (.seq (.region [⟨some 16, none, .mov (.t 0)⟩,
    ⟨some 17, none, .bin .shr (.t 16) (.c (u64 32#64))⟩,
    ⟨some 7, none, .mov (.t 17)⟩]
    [0, 1, 6, 7])
  (.seq (.region [⟨some 18, none, .mov (.t 1)⟩,
    ⟨some 19, none, .bin .and (.t 18) (.c (u64 4294967295#64))⟩,
    ⟨some 8, none, .mov (.t 19)⟩]
    [0, 1, 6, 7, 8])
  (.seq (.region [⟨some 20, none, .mov (.t 1)⟩,
    ⟨some 21, none, .bin .shr (.t 20) (.c (u64 32#64))⟩,
    ⟨some 9, none, .mov (.t 21)⟩]
    [0, 1, 6, 7, 8, 9])
  (.seq (.region [⟨some 22, none, .mov (.t 6)⟩,
    ⟨some 23, none, .mov (.t 8)⟩,
    ⟨some 24, none, .bin .mul (.t 22) (.t 23)⟩,
    ⟨some 10, none, .mov (.t 24)⟩]
    [0, 1, 6, 7, 8, 9, 10])
  (.seq (.region [⟨some 25, none, .mov (.t 7)⟩,
    ⟨some 26, none, .mov (.t 8)⟩,
    ⟨some 27, none, .bin .mul (.t 25) (.t 26)⟩,
    ⟨some 28, none, .mov (.t 10)⟩,
    ⟨some 29, none, .bin .shr (.t 28) (.c (u64 32#64))⟩,
    ⟨some 30, none, .bin .add (.t 27) (.t 29)⟩,
    ⟨some 11, none, .mov (.t 30)⟩]
    [0, 1, 6, 7, 9, 11])
  (.seq (.region [⟨some 31, none, .mov (.t 11)⟩,
    ⟨some 32, none, .bin .and (.t 31) (.c (u64 4294967295#64))⟩,
    ⟨some 12, none, .mov (.t 32)⟩]
    [0, 1, 6, 7, 9, 11, 12])
  (.seq (.region [⟨some 33, none, .mov (.t 11)⟩,
    ⟨some 34, none, .bin .shr (.t 33) (.c (u64 32#64))⟩,
    ⟨some 13, none, .mov (.t 34)⟩]
    [0, 1, 6, 7, 9, 12, 13])
  (.seq (.region [⟨some 35, none, .mov (.t 12)⟩,
    ⟨some 36, none, .mov (.t 6)⟩,
    ⟨some 37, none, .mov (.t 9)⟩,
    ⟨some 38, none, .bin .mul (.t 36) (.t 37)⟩,
    ⟨some 39, none, .bin .add (.t 35) (.t 38)⟩,
    ⟨some 12, none, .mov (.t 39)⟩]
    [0, 1, 7, 9, 12, 13])
  (.seq (.region [⟨some 40, none, .mov (.t 7)⟩,
    ⟨some 41, none, .mov (.t 9)⟩,
    ⟨some 42, none, .bin .mul (.t 40) (.t 41)⟩,
    ⟨some 43, none, .mov (.t 13)⟩,
    ⟨some 44, none, .bin .add (.t 42) (.t 43)⟩,
    ⟨some 45, none, .mov (.t 12)⟩,
    ⟨some 46, none, .bin .shr (.t 45) (.c (u64 32#64))⟩,
    ⟨some 47, none, .bin .add (.t 44) (.t 46)⟩,
    ⟨some 4, none, .mov (.t 47)⟩]
    [0, 1, 4])
  (.seq (.region [⟨some 48, none, .mov (.t 0)⟩,
    ⟨some 49, none, .mov (.t 1)⟩,
    ⟨some 50, none, .bin .mul (.t 48) (.t 49)⟩,
    ⟨some 5, none, .mov (.t 50)⟩]
    [4, 5])
  .ret))))))))))))⟩

def RC.roster_Roster_fresh : RFn := ⟨2, [.slot 4],
  (.seq (.region [⟨some 4, none, .mov (.c (.int .i64 0))⟩]
    [0, 1])
  (.seq (.seq (.region [⟨some 9, none, .mov (.t 0)⟩,
    ⟨some 10, none, .call F.roster_Roster_none [.t 9]⟩]
    [0, 1, 10])
  (.cond (.t 10)
    (.seq (.region [⟨some 4, none, .mov (.c (.int .i64 2))⟩]
      [4])
    .ret)
    .skip))
  (.seq (.seq (.region [⟨some 12, none, .mov (.t 1)⟩,
    ⟨some 13, none, .call F.order_Unit [.t 12, .c (.bool false)]⟩,
    ⟨some 11, none, .mov (.t 13)⟩,
    ⟨some 14, none, .ext 0 (.t 11)⟩,
    ⟨some 15, none, .ext 1 (.t 11)⟩,
    ⟨some 5, none, .mov (.t 14)⟩,
    ⟨some 6, none, .mov (.t 15)⟩]
    [0, 1, 6])
  (.seq (.region [⟨some 16, none, .mov (.t 6)⟩,
    ⟨some 17, none, .bin .neq (.t 16) (.c (.int .i64 0))⟩]
    [0, 1, 6, 17])
  (.cond (.t 17)
    (.seq (.region [⟨some 18, none, .mov (.t 6)⟩,
      ⟨some 4, none, .mov (.t 18)⟩]
      [4])
    .ret)
    .skip)))
  (.seq (.seq (.region [⟨some 20, none, .mov (.t 0)⟩,
    ⟨some 21, none, .nilchk (.t 20)⟩,
    ⟨some 22, none, .fieldAddr 1 (.t 21)⟩,
    ⟨some 23, none, .load false 1 (.t 22)⟩,
    ⟨some 24, none, .mov (.t 1)⟩,
    ⟨some 25, none, .look .int (.agg #[(.int .i64 0), (.int .i64 0), (.int .i64 0), (.int .i64 0), (.int .i64 0), (.bool false)]) true (.t 23) (.t 24)⟩,
    ⟨some 19, none, .mov (.t 25)⟩,
    ⟨some 26, none, .ext 0 (.t 19)⟩,
    ⟨some 27, none, .ext 1 (.t 19)⟩,
    ⟨some 7, none, .alloc [(.int .i64 0), (.int .i64 0), (.int .i64 0), (.int .i64 0), (.int .i64 0), (.bool false)]⟩,
    ⟨none, none, .store 6 (.t 7) (.t 26)⟩,
    ⟨some 8, none, .mov (.t 27)⟩]
    [8])
  (.seq (.region [⟨some 28, none, .mov (.t 8)⟩]
    [28])
  (.cond (.t 28)
    (.seq (.region [⟨some 4, none, .mov (.c (.int .i64 11))⟩]
      [4])
    .ret)
    .skip)))
  (.seq (.region [⟨some 4, none, .mov (.c (.int .i64 0))⟩]
    [4])
  .ret)))))⟩

def RC.roster_Roster_share : RFn := ⟨2, [.slot 4],
  (.seq (.region [⟨some 4, none, .mov (.c (.bool false))⟩]
    [0, 1])
  (.seq (.region [⟨some 5, none, .mov (.t 1)⟩,
    ⟨some 6, none, .bin .geq (.t 5) (.c (.int .i64 1))⟩,
    ⟨some 7, none, .mov (.t 6)⟩,
    ⟨some 8, some (7, true), .mov (.t 1)⟩,
    ⟨some 9, some (7, true), .mov (.t 0)⟩,
    ⟨some 10, some (7, true), .nilchk (.t 9)⟩,
    ⟨some 11, some (7, true), .fieldAddr 0 (.t 10)⟩,
    ⟨some 12, some (7, true), .load false 1 (.t 11)⟩,
    ⟨some 13, some (7, true), .bin .leq (.t 8) (.t 12)⟩,
    ⟨some 14, none, .pick (.t 7) (.t 13) (.c (.bool false))⟩,
    ⟨some 4, none, .mov (.t 14)⟩]
    [4])
  .ret))⟩

def RC.roster_Roster_count : RFn := ⟨3, [],
  (.seq (.region [⟨some 9, none, .mov (.t 0)⟩,
    ⟨some 10, none, .nilchk (.t 9)⟩,
    ⟨some 11, none, .fieldAddr 2 (.t 10)⟩,
    ⟨some 12, none, .load false 1 (.t 11)⟩,
    ⟨some 13, none, .mov (.t 1)⟩,
    ⟨some 14, none, .look .int (.agg #[(.int .i64 0), (.int .i64 0), (.int .i64 0)]) true (.t 12) (.t 13)⟩,
    ⟨some 8, none, .mov (.t 14)⟩,
    ⟨some 15, none, .ext 0 (.t 8)⟩,
    ⟨some 16, none, .ext 1 (.t 8)⟩,
    ⟨some 6, none, .alloc [(.int .i64 0), (.int .i64 0), (.int .i64 0)]⟩,
    ⟨none, none, .store 3 (.t 6) (.t 15)⟩,
    ⟨some 7, none, .mov (.t 16)⟩]
    [0, 1, 2, 6, 7])
  (.seq (.region [⟨some 17, none, .mov (.t 7)⟩]
    [0, 1, 2, 6, 17])
  (.cond (.t 17)
    (.seq (.region [⟨some 18, none, .fieldAddr 2 (.t 6)⟩,
      ⟨some 19, none, .load false 1 (.t 18)⟩,
      ⟨some 20, none, .mov (.t 2)⟩,
      ⟨some 21, none, .bin .add (.t 19) (.t 20)⟩,
      ⟨some 22, none, .fieldAddr 2 (.t 6)⟩,
      ⟨none, none, .store 1 (.t 22) (.t 21)⟩]
      [0, 1, 6])
    (.drawn [⟨some 23, none, .mov (.t 0)⟩,
      ⟨some 24, none, .nilchk (.t 23)⟩,
      ⟨some 25, none, .fieldAddr 2 (.t 24)⟩,
      ⟨some 26, none, .load false 1 (.t 25)⟩,
      ⟨some 27, none, .mov (.t 1)⟩,
      ⟨some 28, none, .load true 3 (.t 6)⟩,
      ⟨none, none, .upd .int (.t 26) (.t 27) (.t 28)⟩]
      [[], [0], [1], [2], [], [], [3, 4, 5, 0, 1, 2, 3, 4, 5]]
      [(0, []), (1, []), (2, []), (4, []), (3, []), (5, []), (6, [])]
      [[], [0], [0, 1], [0, 1, 2], [], [], [0, 1, 2, 3, 4, 5]]
      []))
    .skip)))⟩

def RC.roster_Roster_member : RFn := ⟨3, [.cell 6 true 6, .slot 7],
  (.seq (.region [⟨some 6, none, .alloc [(.int .i64 0), (.int .i64 0), (.int .i64 0), (.int .i64 0), (.int .i64 0), (.bool false)]⟩,
    ⟨some 7, none, .mov (.c (.int .i64 0))⟩]
    [0, 1, 2, 6])
  (.seq (.region [⟨some 11, none, .mov (.t 0)⟩,
    ⟨some 12, none, .mov (.t 1)⟩,
    ⟨some 13, none, .call F.roster_Roster_one [.t 11, .t 12]⟩,
    ⟨some 10, none, .mov (.t 13)⟩,
    ⟨some 14, none, .ext 0 (.t 10)⟩,
    ⟨some 15, none, .ext 1 (.t 10)⟩,
    ⟨some 8, none, .alloc [(.int .i64 0), (.int .i64 0), (.int .i64 0), (.int .i64 0), (.int .i64 0), (.bool false)]⟩,
    ⟨none, none, .store 6 (.t 8) (.t 14)⟩,
    ⟨some 9, none, .mov (.t 15)⟩]
    [2, 6, 8, 9])
  (.seq (.seq (.region [⟨some 16, none, .mov (.t 9)⟩,
    ⟨some 17, none, .bin .eql (.t 16) (.c (.int .i64 0))⟩,
    ⟨some 18, none, .mov (.t 17)⟩,
    ⟨some 19, some (18, true), .fieldAddr 1 (.t 8)⟩,
    ⟨some 20, some (18, true), .load false 1 (.t 19)⟩,
    ⟨some 21, some (18, true), .bin .neq (.t 20) (.c (.int .i64 0))⟩,
    ⟨some 22, some (18, true), .mov (.t 2)⟩,
    ⟨some 23, some (18, true), .eq true .bool (.t 21) (.t 22)⟩,
    ⟨some 24, none, .pick (.t 18) (.t 23) (.c (.bool false))⟩]
    [6, 8, 9, 24])
  (.cond (.t 24)
    (.seq (.region [⟨some 25, none, .build [(.int .i64 0), (.int .i64 0), (.int .i64 0), (.int .i64 0), (.int .i64 0), (.bool false)] []⟩,
      ⟨none, none, .store 6 (.t 6) (.t 25)⟩,
      ⟨some 7, none, .mov (.c (.int .i64 14))⟩]
      [6, 7])
    .ret)
    .skip))
  (.seq (.region [⟨some 26, none, .load true 6 (.t 8)⟩,
    ⟨some 27, none, .mov (.t 9)⟩,
    ⟨none, none, .store 6 (.t 6) (.t 26)⟩,
    ⟨some 7, none, .mov (.t 27)⟩]
    [6, 7])
  .ret))))⟩

def RC.roster_Roster_off : RFn := ⟨3, [.slot 6],
  (.seq (.region [⟨some 6, none, .mov (.c (.int .i64 0))⟩]
    [0, 1, 2])
  (.seq (.region [⟨some 10, none, .mov (.t 0)⟩,
    ⟨some 11, none, .mov (.t 1)⟩,
    ⟨some 12, none, .call F.roster_Roster_one [.t 10, .t 11]⟩,
    ⟨some 9, none, .mov (.t 12)⟩,
    ⟨some 13, none, .ext 0 (.t 9)⟩,
    ⟨some 14, none, .ext 1 (.t 9)⟩,
    ⟨some 7, none, .alloc [(.int .i64 0), (.int .i64 0), (.int .i64 0), (.int .i64 0), (.int .i64 0), (.bool false)]⟩,
    ⟨none, none, .store 6 (.t 7) (.t 13)⟩,
    ⟨some 8, none, .mov (.t 14)⟩]
    [0, 1, 2, 7, 8])
  (.seq (.block 0
    (.seq (.region [⟨some 16, none, .mov (.t 8)⟩,
      ⟨some 17, none, .bin .neq (.t 16) (.c (.int .i64 0))⟩,
      ⟨some 15, none, .mov (.t 17)⟩]
      [0, 1, 2, 7, 8, 15])
    (.cond (.t 15)
      (.seq (.region [⟨some 18, none, .mov (.t 8)⟩,
        ⟨some 6, none, .mov (.t 18)⟩]
        [6])
      .ret)
      (.seq (.region [⟨some 20, none, .fieldAddr 5 (.t 7)⟩,
        ⟨some 21, none, .load false 1 (.t 20)⟩,
        ⟨some 22, none, .mov (.t 2)⟩,
        ⟨some 23, none, .eq false .bool (.t 21) (.t 22)⟩,
        ⟨some 19, none, .mov (.t 23)⟩]
        [0, 1, 2, 7, 19])
      (.cond (.t 19)
        (.seq (.region [⟨some 6, none, .mov (.c (.int .i64 15))⟩]
          [6])
        .ret)
        .skip)))) [0, 1, 2, 7])
  (.seq (.region [⟨some 24, none, .mov (.t 2)⟩,
    ⟨some 25, none, .fieldAddr 5 (.t 7)⟩,
    ⟨none, none, .store 1 (.t 25) (.t 24)⟩]
    [0, 1, 7])
  (.seq (.drawn [⟨some 26, none, .mov (.t 0)⟩,
    ⟨some 27, none, .nilchk (.t 26)⟩,
    ⟨some 28, none, .fieldAddr 1 (.t 27)⟩,
    ⟨some 29, none, .load false 1 (.t 28)⟩,
    ⟨some 30, none, .mov (.t 1)⟩,
    ⟨some 31, none, .load true 6 (.t 7)⟩,
    ⟨none, none, .upd .int (.t 29) (.t 30) (.t 31)⟩]
    [[], [0], [1], [2], [], [], [3, 4, 5, 0, 1, 2, 3, 4, 5]]
    [(0, []), (1, []), (2, []), (4, []), (3, []), (5, []), (6, [])]
    [[], [0], [0, 1], [0, 1, 2], [], [], [0, 1, 2, 3, 4, 5]]
    [])
  (.seq (.region [⟨some 6, none, .mov (.c (.int .i64 0))⟩]
    [6])
  .ret))))))⟩

def RC.order_Unit : RFn := ⟨2, [.slot 4, .slot 5],
  (.seq (.region [⟨some 4, none, .mov (.c (.int .i64 0))⟩,
    ⟨some 5, none, .mov (.c (.int .i64 0))⟩]
    [0, 1])
  (.seq (.block 0
    (.seq (.region [⟨some 7, none, .mov (.t 0)⟩,
      ⟨some 8, none, .bin .lss (.t 7) (.c (.int .i64 1))⟩,
      ⟨some 9, none, .mov (.t 8)⟩,
      ⟨some 10, some (9, false), .mov (.t 1)⟩,
      ⟨some 11, some (9, false), .un .not (.t 10)⟩,
      ⟨some 12, some (9, false), .mov (.t 11)⟩,
      ⟨some 13, some (12, true), .mov (.t 0)⟩,
      ⟨some 14, some (12, true), .bin .gtr (.t 13) (.c (.int .i64 200))⟩,
      ⟨some 15, some (9, false), .pick (.t 12) (.t 14) (.c (.bool false))⟩,
      ⟨some 16, none, .pick (.t 9) (.c (.bool true)) (.t 15)⟩,
      ⟨some 17, none, .mov (.t 16)⟩,
      ⟨some 18, some (17, false), .mov (.t 1)⟩,
      ⟨some 19, some (17, false), .mov (.t 18)⟩,
      ⟨some 20, some (19, true), .mov (.t 0)⟩,
      ⟨some 21, some (19, true), .bin .gtr (.t 20) (.c (.int .i64 40))⟩,
      ⟨some 22, some (17, false), .pick (.t 19) (.t 21) (.c (.bool false))⟩,
      ⟨some 23, none, .pick (.t 17) (.c (.bool true)) (.t 22)⟩,
      ⟨some 6, none, .mov (.t 23)⟩]
      [0, 1, 6])
    (.cond (.t 6)
      (.seq (.region [⟨some 4, none, .mov (.c (.int .i64 0))⟩,
        ⟨some 5, none, .mov (.c (.int .i64 20))⟩]
        [4, 5])
      .ret)
      (.seq (.region [⟨some 25, none, .mov (.t 1)⟩,
        ⟨some 24, none, .mov (.t 25)⟩]
        [0, 24])
      (.cond (.t 24)
        (.seq (.region [⟨some 26, none, .mov (.t 0)⟩,
          ⟨some 27, none, .bin .add (.c (.int .i64 1000)) (.t 26)⟩,
          ⟨some 4, none, .mov (.t 27)⟩,
          ⟨some 5, none, .mov (.c (.int .i64 0))⟩]
          [4, 5])
        .ret)
        .skip)))) [0])
  (.seq (.region [⟨some 28, none, .mov (.t 0)⟩,
    ⟨some 4, none, .mov (.t 28)⟩,
    ⟨some 5, none, .mov (.c (.int .i64 0))⟩]
    [4, 5])
  .ret)))⟩

def RC.roster_Roster_group : RFn := ⟨2, [.cell 4 true 3, .slot 5],
  (.seq (.region [⟨some 4, none, .alloc [(.int .i64 0), (.int .i64 0), (.int .i64 0)]⟩,
    ⟨some 5, none, .mov (.c (.int .i64 0))⟩]
    [0, 1, 4])
  (.seq (.seq (.region [⟨some 8, none, .mov (.t 0)⟩,
    ⟨some 9, none, .call F.roster_Roster_none [.t 8]⟩]
    [0, 1, 4, 9])
  (.cond (.t 9)
    (.seq (.region [⟨some 10, none, .build [(.int .i64 0), (.int .i64 0), (.int .i64 0)] []⟩,
      ⟨none, none, .store 3 (.t 4) (.t 10)⟩,
      ⟨some 5, none, .mov (.c (.int .i64 2))⟩]
      [4, 5])
    .ret)
    .skip))
  (.seq (.region [⟨some 12, none, .mov (.t 0)⟩,
    ⟨some 13, none, .nilchk (.t 12)⟩,
    ⟨some 14, none, .fieldAddr 2 (.t 13)⟩,
    ⟨some 15, none, .load false 1 (.t 14)⟩,
    ⟨some 16, none, .mov (.t 1)⟩,
    ⟨some 17, none, .look .int (.agg #[(.int .i64 0), (.int .i64 0), (.int .i64 0)]) true (.t 15) (.t 16)⟩,
    ⟨some 11, none, .mov (.t 17)⟩,
    ⟨some 18, none, .ext 0 (.t 11)⟩,
    ⟨some 19, none, .ext 1 (.t 11)⟩,
    ⟨some 6, none, .alloc [(.int .i64 0), (.int .i64 0), (.int .i64 0)]⟩,
    ⟨none, none, .store 3 (.t 6) (.t 18)⟩,
    ⟨some 7, none, .mov (.t 19)⟩]
    [4, 6, 7])
  (.seq (.seq (.region [⟨some 20, none, .mov (.t 7)⟩,
    ⟨some 21, none, .un .not (.t 20)⟩]
    [4, 6, 21])
  (.cond (.t 21)
    (.seq (.region [⟨some 22, none, .build [(.int .i64 0), (.int .i64 0), (.int .i64 0)] []⟩,
      ⟨none, none, .store 3 (.t 4) (.t 22)⟩,
      ⟨some 5, none, .mov (.c (.int .i64 25))⟩]
      [4, 5])
    .ret)
    .skip))
  (.seq (.region [⟨some 23, none, .load true 3 (.t 6)⟩,
    ⟨none, none, .store 3 (.t 4) (.t 23)⟩,
    ⟨some 5, none, .mov (.c (.int .i64 0))⟩]
    [4, 5])
  .ret)))))⟩

def RC.roster_weight : RFn := ⟨1, [.slot 2],
  (.seq (.region [⟨some 2, none, .mov (.c (.bool false))⟩]
    [0])
  (.seq (.region [⟨some 3, none, .mov (.t 0)⟩,
    ⟨some 4, none, .bin .geq (.t 3) (.c (.int .i64 1))⟩,
    ⟨some 5, none, .mov (.t 4)⟩,
    ⟨some 6, some (5, true), .mov (.t 0)⟩,
    ⟨some 7, some (5, true), .bin .leq (.t 6) (.c (.int .i64 1000))⟩,
    ⟨some 8, none, .pick (.t 5) (.t 7) (.c (.bool false))⟩,
    ⟨some 2, none, .mov (.t 8)⟩]
    [2])
  .ret))⟩

def RC.cores_Set_State : RFn := ⟨2, [.slot 4, .slot 5],
  (.seq (.region [⟨some 4, none, .mov (.c (.int .i64 0))⟩,
    ⟨some 5, none, .mov (.c (.bool false))⟩]
    [0, 1])
  (.seq (.seq (.region [⟨some 6, none, .mov (.t 1)⟩,
    ⟨some 7, none, .bin .lss (.t 6) (.c (.int .i64 0))⟩,
    ⟨some 8, none, .mov (.t 7)⟩,
    ⟨some 9, some (8, false), .mov (.t 1)⟩,
    ⟨some 10, some (8, false), .mov (.t 0)⟩,
    ⟨some 11, some (8, false), .call F.cores_Set_Len [.t 10]⟩,
    ⟨some 12, some (8, false), .bin .geq (.t 9) (.t 11)⟩,
    ⟨some 13, none, .pick (.t 8) (.c (.bool true)) (.t 12)⟩]
    [0, 1, 13])
  (.cond (.t 13)
    (.seq (.region [⟨some 4, none, .mov (.c (.int .i64 0))⟩,
      ⟨some 5, none, .mov (.c (.bool false))⟩]
      [4, 5])
    .ret)
    .skip))
  (.seq (.region [⟨some 14, none, .mov (.t 0)⟩,
    ⟨some 15, none, .nilchk (.t 14)⟩,
    ⟨some 16, none, .fieldAddr 0 (.t 15)⟩,
    ⟨some 17, none, .load false 1 (.t 16)⟩,
    ⟨some 18, none, .mov (.t 1)⟩,
    ⟨some 19, none, .idxS 1 (.t 17) (.t 18)⟩,
    ⟨some 20, none, .load false 1 (.t 19)⟩,
    ⟨some 4, none, .mov (.t 20)⟩,
    ⟨some 5, none, .mov (.c (.bool true))⟩]
    [4, 5])
  .ret)))⟩

def RB.maps_Keys_map_int_roster_Group_int_roster_Group_1_1 : RCode :=
  (.seq (.region [⟨some 6, none, .stop⟩,
    ⟨some 7, none, .ext 0 (.t 6)⟩]
    [0, 7])
  (.seq (.cond (.t 7)
    .skip
    (.exit 0))
  (.block 1
    (.seq (.region [⟨some 8, none, .stop⟩,
      ⟨some 9, none, .ext 0 (.t 8)⟩,
      ⟨some 3, none, .mov (.t 9)⟩]
      [0, 3])
    (.seq (.region [⟨some 10, none, .mov (.t 0)⟩,
      ⟨some 11, none, .mov (.t 3)⟩,
      ⟨some 12, none, .callv (.t 10) [.t 11]⟩,
      ⟨some 13, none, .un .not (.t 12)⟩]
      [0, 13])
    (.cond (.t 13)
      .ret
      .skip))) [0])))
def RC.maps_Keys_map_int_roster_Group_int_roster_Group_1 : RFn := ⟨2, [],
  (.seq (.region [⟨some 4, none, .load false 1 (.t 1)⟩,
    ⟨some 5, none, .stop⟩]
    [0])
  (.block 0
    (.loop [0] RB.maps_Keys_map_int_roster_Group_int_roster_Group_1_1) []))⟩

def tab0 : List (Nat × FEnt) := [(F.law29_LedgerNever, .rc RC.law29_LedgerNever),
  (F.law29_LedgerAbsent, .rc RC.law29_LedgerAbsent),
  (F.law29_LedgerNobody, .rc RC.law29_LedgerNobody),
  (F.ledger_New, .rc RC.ledger_New),
  (F.ref29_Right, .rc RC.ref29_Right),
  (F.law29_awake, .rc RC.law29_awake),
  (F.ledger_Ledger_Do, .rc RC.ledger_Ledger_Do),
  (F.ledger_Ledger_Free, .rc RC.ledger_Ledger_Free),
  (F.ledger_Ledger_Cores, .rc RC.ledger_Ledger_Cores),
  (F.cores_Set_Count, .rc RC.cores_Set_Count),
  (F.ledger_Ledger_Roster, .rc RC.ledger_Ledger_Roster),
  (F.roster_Roster_Total, .rc RC.roster_Roster_Total),
  (F.roster_Roster_Tasks, .rc RC.roster_Roster_Tasks),
  (F.ledger_Ledger_Clock, .rc RC.ledger_Ledger_Clock),
  (F.cores_Set_In, .rc RC.cores_Set_In),
  (F.ledger_Ledger_Fork, .rc RC.ledger_Ledger_Fork),
  (F.ledger_Check, .rc RC.ledger_Check),
  (F.roster_New, .rc RC.roster_New),
  (F.cores_New, .rc RC.cores_New),
  (F.law29_Fit, .rc RC.law29_Fit),
  (F.ledger_Ledger_none, .rc RC.ledger_Ledger_none),
  (F.ledger_Ledger_tasks, .rc RC.ledger_Ledger_tasks),
  (F.ledger_Ledger_plug, .rc RC.ledger_Ledger_plug),
  (F.ledger_Ledger_ticks, .rc RC.ledger_Ledger_ticks),
  (F.roster_Roster_Task, .rc RC.roster_Roster_Task),
  (F.cores_Set_Fork, .rc RC.cores_Set_Fork),
  (F.math_bits_OnesCount32, .rc RC.math_bits_OnesCount32),
  (F.roster_Roster_Fork, .rc RC.roster_Roster_Fork),
  (F.order_Total, .rc RC.order_Total),
  (F.roster_Roster_Units, .rc RC.roster_Roster_Units),
  (F.roster_Roster_none, .rc RC.roster_Roster_none),
  (F.maps_Keys_map_int_roster_Task_int_roster_Task, .rc RC.maps_Keys_map_int_roster_Task_int_roster_Task),
  (F.cores_Set_Len, .rc RC.cores_Set_Len),
  (F.slices_Contains_int_int, .rc RC.slices_Contains_int_int),
  (F.slices_Repeat_int_int, .rc RC.slices_Repeat_int_int),
  (F.ledger_list, .rc RC.ledger_list),
  (F.ledger_Ledger_room, .rc RC.ledger_Ledger_room),
  (F.cores_Set_Plug, .rc RC.cores_Set_Plug),
  (F.cores_Set_Unplug, .rc RC.cores_Set_Unplug),
  (F.cores_Set_Turn, .rc RC.cores_Set_Turn),
  (F.roster_Roster_one, .rc RC.roster_Roster_one),
  (F.slices_Clone_int_int, .rc RC.slices_Clone_int_int),
  (F.fixq_Add, .rc RC.fixq_Add),
  (F.roster_Roster_Groups, .rc RC.roster_Roster_Groups),
  (F.maps_Keys_map_int_roster_Task_int_roster_Task_1, .rc RC.maps_Keys_map_int_roster_Task_int_roster_Task_1),
  (F.slices_Index_int_int, .rc RC.slices_Index_int_int),
  (F.math_bits_Mul, .rc RC.math_bits_Mul),
  (F.roster_Roster_Arrive, .rc RC.roster_Roster_Arrive),
  (F.roster_Roster_Depart, .rc RC.roster_Roster_Depart),
  (F.roster_Roster_Reweight, .rc RC.roster_Roster_Reweight),
  (F.roster_Roster_Block, .rc RC.roster_Roster_Block),
  (F.roster_Roster_Wake, .rc RC.roster_Roster_Wake),
  (F.roster_Roster_Found, .rc RC.roster_Roster_Found),
  (F.roster_Roster_Fund, .rc RC.roster_Roster_Fund),
  (F.roster_Roster_Disband, .rc RC.roster_Roster_Disband),
  (F.roster_Roster_Enter, .rc RC.roster_Roster_Enter),
  (F.roster_Roster_Weigh, .rc RC.roster_Roster_Weigh),
  (F.roster_Roster_Limit, .rc RC.roster_Roster_Limit),
  (F.roster_Roster_Move, .rc RC.roster_Roster_Move),
  (F.cores_Set_change, .rc RC.cores_Set_change),
  (F.maps_Keys_map_int_roster_Group_int_roster_Group, .rc RC.maps_Keys_map_int_roster_Group_int_roster_Group),
  (F.math_bits_Mul32, .rc RC.math_bits_Mul32),
  (F.math_bits_Mul64, .rc RC.math_bits_Mul64),
  (F.roster_Roster_fresh, .rc RC.roster_Roster_fresh),
  (F.roster_Roster_share, .rc RC.roster_Roster_share),
  (F.roster_Roster_count, .rc RC.roster_Roster_count),
  (F.roster_Roster_member, .rc RC.roster_Roster_member),
  (F.roster_Roster_off, .rc RC.roster_Roster_off),
  (F.order_Unit, .rc RC.order_Unit),
  (F.roster_Roster_group, .rc RC.roster_Roster_group),
  (F.roster_weight, .rc RC.roster_weight),
  (F.cores_Set_State, .rc RC.cores_Set_State),
  (F.maps_Keys_map_int_roster_Group_int_roster_Group_1, .rc RC.maps_Keys_map_int_roster_Group_int_roster_Group_1),
  (F.slices_Sorted_int, .ext X.sk),
  (F.maps_Clone_map_int_roster_Task_int_roster_Task, .ext X.mc46),
  (F.maps_Clone_map_int_roster_Group_int_roster_Group, .ext X.mc47)]
/-- What each number stands for. -/
def R0 : Nat → Option FEnt := lookF tab0
/-- The same, with the examples as known. -/
def tab : List (Nat × FEnt) := (F.law29_awake, .ext X.ok) :: tab0
def R : Nat → Option FEnt := lookF tab
theorem R.law29_awake : R F.law29_awake = some (.ext X.ok) := by with_unfolding_all rfl
theorem R.law29_LedgerNever : R F.law29_LedgerNever = some (.rc RC.law29_LedgerNever) := by with_unfolding_all rfl
theorem R.law29_LedgerAbsent : R F.law29_LedgerAbsent = some (.rc RC.law29_LedgerAbsent) := by with_unfolding_all rfl
theorem R.law29_LedgerNobody : R F.law29_LedgerNobody = some (.rc RC.law29_LedgerNobody) := by with_unfolding_all rfl
theorem R.ledger_New : R F.ledger_New = some (.rc RC.ledger_New) := by with_unfolding_all rfl
theorem R.ref29_Right : R F.ref29_Right = some (.rc RC.ref29_Right) := by with_unfolding_all rfl
theorem R.ledger_Ledger_Do : R F.ledger_Ledger_Do = some (.rc RC.ledger_Ledger_Do) := by with_unfolding_all rfl
theorem R.ledger_Ledger_Free : R F.ledger_Ledger_Free = some (.rc RC.ledger_Ledger_Free) := by with_unfolding_all rfl
theorem R.ledger_Ledger_Cores : R F.ledger_Ledger_Cores = some (.rc RC.ledger_Ledger_Cores) := by with_unfolding_all rfl
theorem R.cores_Set_Count : R F.cores_Set_Count = some (.rc RC.cores_Set_Count) := by with_unfolding_all rfl
theorem R.ledger_Ledger_Roster : R F.ledger_Ledger_Roster = some (.rc RC.ledger_Ledger_Roster) := by with_unfolding_all rfl
theorem R.roster_Roster_Total : R F.roster_Roster_Total = some (.rc RC.roster_Roster_Total) := by with_unfolding_all rfl
theorem R.roster_Roster_Tasks : R F.roster_Roster_Tasks = some (.rc RC.roster_Roster_Tasks) := by with_unfolding_all rfl
theorem R.ledger_Ledger_Clock : R F.ledger_Ledger_Clock = some (.rc RC.ledger_Ledger_Clock) := by with_unfolding_all rfl
theorem R.cores_Set_In : R F.cores_Set_In = some (.rc RC.cores_Set_In) := by with_unfolding_all rfl
theorem R.ledger_Ledger_Fork : R F.ledger_Ledger_Fork = some (.rc RC.ledger_Ledger_Fork) := by with_unfolding_all rfl
theorem R.ledger_Check : R F.ledger_Check = some (.rc RC.ledger_Check) := by with_unfolding_all rfl
theorem R.roster_New : R F.roster_New = some (.rc RC.roster_New) := by with_unfolding_all rfl
theorem R.cores_New : R F.cores_New = some (.rc RC.cores_New) := by with_unfolding_all rfl
theorem R.law29_Fit : R F.law29_Fit = some (.rc RC.law29_Fit) := by with_unfolding_all rfl
theorem R.ledger_Ledger_none : R F.ledger_Ledger_none = some (.rc RC.ledger_Ledger_none) := by with_unfolding_all rfl
theorem R.ledger_Ledger_tasks : R F.ledger_Ledger_tasks = some (.rc RC.ledger_Ledger_tasks) := by with_unfolding_all rfl
theorem R.ledger_Ledger_plug : R F.ledger_Ledger_plug = some (.rc RC.ledger_Ledger_plug) := by with_unfolding_all rfl
theorem R.ledger_Ledger_ticks : R F.ledger_Ledger_ticks = some (.rc RC.ledger_Ledger_ticks) := by with_unfolding_all rfl
theorem R.roster_Roster_Task : R F.roster_Roster_Task = some (.rc RC.roster_Roster_Task) := by with_unfolding_all rfl
theorem R.cores_Set_Fork : R F.cores_Set_Fork = some (.rc RC.cores_Set_Fork) := by with_unfolding_all rfl
theorem R.math_bits_OnesCount32 : R F.math_bits_OnesCount32 = some (.rc RC.math_bits_OnesCount32) := by with_unfolding_all rfl
theorem R.roster_Roster_Fork : R F.roster_Roster_Fork = some (.rc RC.roster_Roster_Fork) := by with_unfolding_all rfl
theorem R.order_Total : R F.order_Total = some (.rc RC.order_Total) := by with_unfolding_all rfl
theorem R.roster_Roster_Units : R F.roster_Roster_Units = some (.rc RC.roster_Roster_Units) := by with_unfolding_all rfl
theorem R.roster_Roster_none : R F.roster_Roster_none = some (.rc RC.roster_Roster_none) := by with_unfolding_all rfl
theorem R.maps_Keys_map_int_roster_Task_int_roster_Task : R F.maps_Keys_map_int_roster_Task_int_roster_Task = some (.rc RC.maps_Keys_map_int_roster_Task_int_roster_Task) := by with_unfolding_all rfl
theorem R.cores_Set_Len : R F.cores_Set_Len = some (.rc RC.cores_Set_Len) := by with_unfolding_all rfl
theorem R.slices_Contains_int_int : R F.slices_Contains_int_int = some (.rc RC.slices_Contains_int_int) := by with_unfolding_all rfl
theorem R.slices_Repeat_int_int : R F.slices_Repeat_int_int = some (.rc RC.slices_Repeat_int_int) := by with_unfolding_all rfl
theorem R.ledger_list : R F.ledger_list = some (.rc RC.ledger_list) := by with_unfolding_all rfl
theorem R.ledger_Ledger_room : R F.ledger_Ledger_room = some (.rc RC.ledger_Ledger_room) := by with_unfolding_all rfl
theorem R.cores_Set_Plug : R F.cores_Set_Plug = some (.rc RC.cores_Set_Plug) := by with_unfolding_all rfl
theorem R.cores_Set_Unplug : R F.cores_Set_Unplug = some (.rc RC.cores_Set_Unplug) := by with_unfolding_all rfl
theorem R.cores_Set_Turn : R F.cores_Set_Turn = some (.rc RC.cores_Set_Turn) := by with_unfolding_all rfl
theorem R.roster_Roster_one : R F.roster_Roster_one = some (.rc RC.roster_Roster_one) := by with_unfolding_all rfl
theorem R.slices_Clone_int_int : R F.slices_Clone_int_int = some (.rc RC.slices_Clone_int_int) := by with_unfolding_all rfl
theorem R.fixq_Add : R F.fixq_Add = some (.rc RC.fixq_Add) := by with_unfolding_all rfl
theorem R.roster_Roster_Groups : R F.roster_Roster_Groups = some (.rc RC.roster_Roster_Groups) := by with_unfolding_all rfl
theorem R.maps_Keys_map_int_roster_Task_int_roster_Task_1 : R F.maps_Keys_map_int_roster_Task_int_roster_Task_1 = some (.rc RC.maps_Keys_map_int_roster_Task_int_roster_Task_1) := by with_unfolding_all rfl
theorem R.slices_Index_int_int : R F.slices_Index_int_int = some (.rc RC.slices_Index_int_int) := by with_unfolding_all rfl
theorem R.math_bits_Mul : R F.math_bits_Mul = some (.rc RC.math_bits_Mul) := by with_unfolding_all rfl
theorem R.roster_Roster_Arrive : R F.roster_Roster_Arrive = some (.rc RC.roster_Roster_Arrive) := by with_unfolding_all rfl
theorem R.roster_Roster_Depart : R F.roster_Roster_Depart = some (.rc RC.roster_Roster_Depart) := by with_unfolding_all rfl
theorem R.roster_Roster_Reweight : R F.roster_Roster_Reweight = some (.rc RC.roster_Roster_Reweight) := by with_unfolding_all rfl
theorem R.roster_Roster_Block : R F.roster_Roster_Block = some (.rc RC.roster_Roster_Block) := by with_unfolding_all rfl
theorem R.roster_Roster_Wake : R F.roster_Roster_Wake = some (.rc RC.roster_Roster_Wake) := by with_unfolding_all rfl
theorem R.roster_Roster_Found : R F.roster_Roster_Found = some (.rc RC.roster_Roster_Found) := by with_unfolding_all rfl
theorem R.roster_Roster_Fund : R F.roster_Roster_Fund = some (.rc RC.roster_Roster_Fund) := by with_unfolding_all rfl
theorem R.roster_Roster_Disband : R F.roster_Roster_Disband = some (.rc RC.roster_Roster_Disband) := by with_unfolding_all rfl
theorem R.roster_Roster_Enter : R F.roster_Roster_Enter = some (.rc RC.roster_Roster_Enter) := by with_unfolding_all rfl
theorem R.roster_Roster_Weigh : R F.roster_Roster_Weigh = some (.rc RC.roster_Roster_Weigh) := by with_unfolding_all rfl
theorem R.roster_Roster_Limit : R F.roster_Roster_Limit = some (.rc RC.roster_Roster_Limit) := by with_unfolding_all rfl
theorem R.roster_Roster_Move : R F.roster_Roster_Move = some (.rc RC.roster_Roster_Move) := by with_unfolding_all rfl
theorem R.cores_Set_change : R F.cores_Set_change = some (.rc RC.cores_Set_change) := by with_unfolding_all rfl
theorem R.maps_Keys_map_int_roster_Group_int_roster_Group : R F.maps_Keys_map_int_roster_Group_int_roster_Group = some (.rc RC.maps_Keys_map_int_roster_Group_int_roster_Group) := by with_unfolding_all rfl
theorem R.math_bits_Mul32 : R F.math_bits_Mul32 = some (.rc RC.math_bits_Mul32) := by with_unfolding_all rfl
theorem R.math_bits_Mul64 : R F.math_bits_Mul64 = some (.rc RC.math_bits_Mul64) := by with_unfolding_all rfl
theorem R.roster_Roster_fresh : R F.roster_Roster_fresh = some (.rc RC.roster_Roster_fresh) := by with_unfolding_all rfl
theorem R.roster_Roster_share : R F.roster_Roster_share = some (.rc RC.roster_Roster_share) := by with_unfolding_all rfl
theorem R.roster_Roster_count : R F.roster_Roster_count = some (.rc RC.roster_Roster_count) := by with_unfolding_all rfl
theorem R.roster_Roster_member : R F.roster_Roster_member = some (.rc RC.roster_Roster_member) := by with_unfolding_all rfl
theorem R.roster_Roster_off : R F.roster_Roster_off = some (.rc RC.roster_Roster_off) := by with_unfolding_all rfl
theorem R.order_Unit : R F.order_Unit = some (.rc RC.order_Unit) := by with_unfolding_all rfl
theorem R.roster_Roster_group : R F.roster_Roster_group = some (.rc RC.roster_Roster_group) := by with_unfolding_all rfl
theorem R.roster_weight : R F.roster_weight = some (.rc RC.roster_weight) := by with_unfolding_all rfl
theorem R.cores_Set_State : R F.cores_Set_State = some (.rc RC.cores_Set_State) := by with_unfolding_all rfl
theorem R.maps_Keys_map_int_roster_Group_int_roster_Group_1 : R F.maps_Keys_map_int_roster_Group_int_roster_Group_1 = some (.rc RC.maps_Keys_map_int_roster_Group_int_roster_Group_1) := by with_unfolding_all rfl
theorem R.slices_Sorted_int : R F.slices_Sorted_int = some (.ext X.sk) := by with_unfolding_all rfl
theorem R.maps_Clone_map_int_roster_Task_int_roster_Task : R F.maps_Clone_map_int_roster_Task_int_roster_Task = some (.ext X.mc46) := by with_unfolding_all rfl
theorem R.maps_Clone_map_int_roster_Group_int_roster_Group : R F.maps_Clone_map_int_roster_Group_int_roster_Group = some (.ext X.mc47) := by with_unfolding_all rfl
end Go.Am


/- slices.Sorted of a map's keys, at this program: the kit's contracts laid in plain words (laykeys.py); what stands for the call. -/
namespace Go.Proofs
open Go.Shelf
def Try.keys52_ren : Go.Shelf.Ren := ⟨fun | 10 => 52 | n => n, fun | 33 => 97 | 23 => 71 | 0 => 0 | 4 => 4 | 26 => 3 | 3 => 44 | n => n, fun | n => n⟩
theorem Try.keys52 : Go.Proofs.SlLaysZI.n10 Try.prog Try.keys52_ren := {
  mixed := by kernel_rfl,
  f10 := ⟨Try.f52.name, by decide, Try.func52.trans (congrArg some (by kernel_rfl))⟩,
  t0 := Try.underlying0,
  a0 := Try.isAgg0,
  z0 := Try.sizeOf0,
  v0 := Try.zeroValue0,
  t4 := Try.underlying4,
  a4 := Try.isAgg4,
  z4 := Try.sizeOf4,
  v4 := Try.zeroValue4,
  t23 := Try.underlying71,
  a23 := Try.isAgg71,
  z23 := Try.sizeOf71,
  v23 := Try.zeroValue71,
  t26 := Try.underlying3,
  a26 := Try.isAgg3,
  z26 := Try.sizeOf3,
  v26 := Try.zeroValue3,
  t33 := Try.underlying97,
  a33 := Try.isAgg97,
  z33 := Try.sizeOf97,
  v33 := Try.zeroValue97 }
def Try.keys84_ren : Go.Shelf.Ren := ⟨fun | 10 => 84 | n => n, fun | 33 => 97 | 23 => 72 | 0 => 0 | 4 => 4 | 26 => 3 | 3 => 90 | n => n, fun | n => n⟩
theorem Try.keys84 : Go.Proofs.SlLaysZI.n10 Try.prog Try.keys84_ren := {
  mixed := by kernel_rfl,
  f10 := ⟨Try.f84.name, by decide, Try.func84.trans (congrArg some (by kernel_rfl))⟩,
  t0 := Try.underlying0,
  a0 := Try.isAgg0,
  z0 := Try.sizeOf0,
  v0 := Try.zeroValue0,
  t4 := Try.underlying4,
  a4 := Try.isAgg4,
  z4 := Try.sizeOf4,
  v4 := Try.zeroValue4,
  t23 := Try.underlying72,
  a23 := Try.isAgg72,
  z23 := Try.sizeOf72,
  v23 := Try.zeroValue72,
  t26 := Try.underlying3,
  a26 := Try.isAgg3,
  z26 := Try.sizeOf3,
  v26 := Try.zeroValue3,
  t33 := Try.underlying97,
  a33 := Try.isAgg97,
  z33 := Try.sizeOf97,
  v33 := Try.zeroValue97 }
def Try.sorted_ren : Go.Shelf.Ren := ⟨fun | 6 => 34 | 8 => 50 | 9 => 51 | 11 => 70 | 13 => 72 | 12 => 71 | 23 => 94 | 24 => 95 | 14 => 85 | 15 => 86 | 16 => 87 | 17 => 88 | 18 => 89 | 19 => 90 | 20 => 91 | 21 => 92 | 22 => 93 | 25 => 96 | 26 => 97 | 27 => 98 | 28 => 99 | 29 => 100 | 30 => 101 | 31 => 102 | n => n, fun | 26 => 3 | 28 => 69 | 24 => 61 | 0 => 0 | 3 => 3 | 37 => 86 | 48 => 45 | 50 => 110 | 4 => 4 | 40 => 124 | 39 => 123 | 45 => 120 | 5 => 5 | 9 => 9 | 51 => 131 | 55 => 135 | 57 => 137 | 58 => 138 | 33 => 97 | n => n, fun | n => n⟩
theorem Try.sorted : Go.Proofs.SlLaysZI.n6 Try.prog Try.sorted_ren := {
  mixed := by kernel_rfl,
  f6 := ⟨Try.f34.name, by decide, Try.func34.trans (congrArg some (by kernel_rfl))⟩,
  f8 := ⟨Try.f50.name, by decide, Try.func50.trans (congrArg some (by kernel_rfl))⟩,
  f11 := ⟨Try.f70.name, by decide, Try.func70.trans (congrArg some (by kernel_rfl))⟩,
  t0 := Try.underlying0,
  a0 := Try.isAgg0,
  z0 := Try.sizeOf0,
  v0 := Try.zeroValue0,
  t24 := Try.underlying61,
  a24 := Try.isAgg61,
  z24 := Try.sizeOf61,
  v24 := Try.zeroValue61,
  t26 := Try.underlying3,
  a26 := Try.isAgg3,
  z26 := Try.sizeOf3,
  v26 := Try.zeroValue3,
  t28 := Try.underlying69,
  a28 := Try.isAgg69,
  z28 := Try.sizeOf69,
  v28 := Try.zeroValue69,
  i26 := by kernel_rfl }
def Try.sort_ren : Go.Shelf.Ren := ⟨fun | 5 => 51 | 8 => 72 | 7 => 71 | 19 => 94 | 20 => 95 | 10 => 85 | 11 => 86 | 12 => 87 | 13 => 88 | 14 => 89 | 15 => 90 | 16 => 91 | 17 => 92 | 18 => 93 | 30 => 96 | 31 => 97 | 32 => 98 | 33 => 99 | 34 => 100 | 35 => 101 | 40 => 102 | n => n, fun | 23 => 61 | 25 => 3 | 3 => 3 | 32 => 86 | 22 => 61 | 0 => 0 | 44 => 45 | 46 => 110 | 4 => 4 | 36 => 124 | 35 => 123 | 41 => 120 | 5 => 5 | 9 => 9 | 53 => 131 | 57 => 135 | 63 => 137 | 64 => 138 | n => n, fun | n => n⟩
theorem Try.sort : Go.Proofs.SlLaysM.n5 Try.prog Try.sort_ren := {
  mixed := by kernel_rfl,
  f5 := ⟨Try.f51.name, by decide, Try.func51.trans (congrArg some (by kernel_rfl))⟩,
  f7 := ⟨Try.f71.name, by decide, Try.func71.trans (congrArg some (by kernel_rfl))⟩,
  f8 := Try.func72.trans (congrArg some (by kernel_rfl)),
  f10 := ⟨Try.f85.name, by decide, Try.func85.trans (congrArg some (by kernel_rfl))⟩,
  f11 := ⟨Try.f86.name, by decide, Try.func86.trans (congrArg some (by kernel_rfl))⟩,
  f12 := ⟨Try.f87.name, by decide, Try.func87.trans (congrArg some (by kernel_rfl))⟩,
  f13 := ⟨Try.f88.name, by decide, Try.func88.trans (congrArg some (by kernel_rfl))⟩,
  f14 := ⟨Try.f89.name, by decide, Try.func89.trans (congrArg some (by kernel_rfl))⟩,
  f15 := ⟨Try.f90.name, by decide, Try.func90.trans (congrArg some (by kernel_rfl))⟩,
  f16 := ⟨Try.f91.name, by decide, Try.func91.trans (congrArg some (by kernel_rfl))⟩,
  f17 := ⟨Try.f92.name, by decide, Try.func92.trans (congrArg some (by kernel_rfl))⟩,
  f18 := ⟨Try.f93.name, by decide, Try.func93.trans (congrArg some (by kernel_rfl))⟩,
  f19 := Try.func94.trans (congrArg some (by kernel_rfl)),
  f20 := Try.func95.trans (congrArg some (by kernel_rfl)),
  f30 := ⟨Try.f96.name, by decide, Try.func96.trans (congrArg some (by kernel_rfl))⟩,
  f31 := Try.func97.trans (congrArg some (by kernel_rfl)),
  f32 := Try.func98.trans (congrArg some (by kernel_rfl)),
  f33 := ⟨Try.f99.name, by decide, Try.func99.trans (congrArg some (by kernel_rfl))⟩,
  f34 := ⟨Try.f100.name, by decide, Try.func100.trans (congrArg some (by kernel_rfl))⟩,
  f35 := ⟨Try.f101.name, by decide, Try.func101.trans (congrArg some (by kernel_rfl))⟩,
  f40 := ⟨Try.f102.name, by decide, Try.func102.trans (congrArg some (by kernel_rfl))⟩,
  t0 := Try.underlying0,
  a0 := Try.isAgg0,
  z0 := Try.sizeOf0,
  v0 := Try.zeroValue0,
  t3 := Try.underlying3,
  a3 := Try.isAgg3,
  z3 := Try.sizeOf3,
  v3 := Try.zeroValue3,
  t4 := Try.underlying4,
  a4 := Try.isAgg4,
  z4 := Try.sizeOf4,
  v4 := Try.zeroValue4,
  t5 := Try.underlying5,
  a5 := Try.isAgg5,
  z5 := Try.sizeOf5,
  v5 := Try.zeroValue5,
  t9 := Try.underlying9,
  a9 := Try.isAgg9,
  z9 := Try.sizeOf9,
  v9 := Try.zeroValue9,
  t22 := Try.underlying61,
  a22 := Try.isAgg61,
  z22 := Try.sizeOf61,
  v22 := Try.zeroValue61,
  t23 := Try.underlying61,
  a23 := Try.isAgg61,
  z23 := Try.sizeOf61,
  v23 := Try.zeroValue61,
  t25 := Try.underlying3,
  a25 := Try.isAgg3,
  z25 := Try.sizeOf3,
  v25 := Try.zeroValue3,
  t32 := Try.underlying86,
  a32 := Try.isAgg86,
  z32 := Try.sizeOf86,
  v32 := Try.zeroValue86,
  t35 := Try.underlying123,
  a35 := Try.isAgg123,
  z35 := Try.sizeOf123,
  v35 := Try.zeroValue123,
  t36 := Try.underlying124,
  a36 := Try.isAgg124,
  z36 := Try.sizeOf124,
  v36 := Try.zeroValue124,
  t41 := Try.underlying120,
  a41 := Try.isAgg120,
  z41 := Try.sizeOf120,
  v41 := Try.zeroValue120,
  t44 := Try.underlying45,
  a44 := Try.isAgg45,
  z44 := Try.sizeOf45,
  v44 := Try.zeroValue45,
  t46 := Try.underlying110,
  a46 := Try.isAgg110,
  z46 := Try.sizeOf110,
  v46 := Try.zeroValue110,
  t53 := Try.underlying131,
  a53 := Try.isAgg131,
  z53 := Try.sizeOf131,
  v53 := Try.zeroValue131,
  t57 := Try.underlying135,
  a57 := Try.isAgg135,
  z57 := Try.sizeOf135,
  v57 := Try.zeroValue135,
  t63 := Try.underlying137,
  a63 := Try.isAgg137,
  z63 := Try.sizeOf137,
  v63 := Try.zeroValue137,
  t64 := Try.underlying138,
  a64 := Try.isAgg138,
  z64 := Try.sizeOf138,
  v64 := Try.zeroValue138 }
end Go.Proofs
namespace Go.Am
open Go.Proofs
theorem X.sk_sim {G : Nat → World → Prop} (args : List Value) (m : Mem) (v : Value) (m' : Mem) (h : X.sk args m = some (v, m')) : SimCall Try.prog G 34 args m v m' := by
  refine X.skeys_sim (ρs := Try.sorted_ren) (ρq := Try.sort_ren) Try.sorted Try.sort rfl (enters_of Try.func51 (by kernel_rfl) rfl) ?_ args m v m' h
  intro g hg
  simp only [List.mem_cons, List.not_mem_nil, or_false] at hg
  rcases hg with rfl | rfl
  · exact ⟨Try.keys52_ren, rfl, Try.keys52, rfl, enters_of Try.func52 (by kernel_rfl) rfl⟩
  · exact ⟨Try.keys84_ren, rfl, Try.keys84, rfl, enters_of Try.func84 (by kernel_rfl) rfl⟩
end Go.Am


/- maps.Clone, at this program: the kit's contract laid in plain words (laykeys.py). -/
namespace Go.Proofs
open Go.Shelf
def Try.clone46_ren : Go.Shelf.Ren := ⟨fun | 5 => 46 | 7 => 68 | n => n, fun | 23 => 71 | 25 => 3 | 3 => 44 | 4 => 4 | 20 => 20 | n => n, fun | n => n⟩
theorem Try.clone46 : Go.Proofs.SlLaysW.n5 Try.prog Try.clone46_ren := {
  mixed := by kernel_rfl,
  f5 := ⟨Try.f46.name, by decide, Try.func46.trans (congrArg some (by kernel_rfl))⟩,
  f7 := Try.func68.trans (congrArg some (by kernel_rfl)),
  t4 := Try.underlying4,
  a4 := Try.isAgg4,
  z4 := Try.sizeOf4,
  v4 := Try.zeroValue4,
  t20 := Try.underlying20,
  a20 := Try.isAgg20,
  z20 := Try.sizeOf20,
  v20 := Try.zeroValue20,
  t23 := Try.underlying71,
  a23 := Try.isAgg71,
  z23 := Try.sizeOf71,
  v23 := Try.zeroValue71 }
def Try.clone47_ren : Go.Shelf.Ren := ⟨fun | 5 => 47 | 7 => 68 | n => n, fun | 23 => 72 | 25 => 3 | 3 => 90 | 4 => 4 | 20 => 20 | n => n, fun | n => n⟩
theorem Try.clone47 : Go.Proofs.SlLaysW.n5 Try.prog Try.clone47_ren := {
  mixed := by kernel_rfl,
  f5 := ⟨Try.f47.name, by decide, Try.func47.trans (congrArg some (by kernel_rfl))⟩,
  f7 := Try.func68.trans (congrArg some (by kernel_rfl)),
  t4 := Try.underlying4,
  a4 := Try.isAgg4,
  z4 := Try.sizeOf4,
  v4 := Try.zeroValue4,
  t20 := Try.underlying20,
  a20 := Try.isAgg20,
  z20 := Try.sizeOf20,
  v20 := Try.zeroValue20,
  t23 := Try.underlying72,
  a23 := Try.isAgg72,
  z23 := Try.sizeOf72,
  v23 := Try.zeroValue72 }
end Go.Proofs
namespace Go.Am
open Go.Proofs
theorem X.mc46_sim {G : Nat → World → Prop} (args : List Value) (m : Mem) (v : Value) (m' : Mem) (h : X.mc46 args m = some (v, m')) : SimCall Try.prog G 46 args m v m' := X.mcl_sim (ρ := Try.clone46_ren) Try.clone46 args m v m' h
theorem X.mc47_sim {G : Nat → World → Prop} (args : List Value) (m : Mem) (v : Value) (m' : Mem) (h : X.mc47 args m = some (v, m')) : SimCall Try.prog G 47 args m v m' := X.mcl_sim (ρ := Try.clone47_ren) Try.clone47 args m v m' h
end Go.Am
