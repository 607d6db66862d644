/- Parts of the proofs of the statements of this seat: AmTabLedgerz. No conditions. -/
import Derived.Test.YtapnnihajniakaaGreatLedgerForkPart3
set_option linter.unusedVariables false
set_option linter.unusedSimpArgs false

/- The functions of the layer ledgerz in the form of the abstract machine. Printed by amgen.py. -/
set_option linter.unusedVariables false
namespace Go.Am

@[irreducible] def F.law29_LedgerPlays : Nat := 3
@[irreducible] def F.law29_LedgerFork : Nat := 4
@[irreducible] def F.ledger_New : Nat := 5
@[irreducible] def F.ledger_Check : Nat := 6
@[irreducible] def F.ref29_Right : Nat := 7
@[irreducible] def F.law29_awake : Nat := 8
@[irreducible] def F.ref29_New : Nat := 9
@[irreducible] def F.ref29_Do : Nat := 10
@[irreducible] def F.ledger_Ledger_Do : Nat := 11
@[irreducible] def F.law29_Alike : Nat := 12
@[irreducible] def F.ledger_Ledger_Fork : Nat := 13
@[irreducible] def F.ledger_Ledger_Roster : Nat := 14
@[irreducible] def F.roster_Roster_Depart : Nat := 15
@[irreducible] def F.ledger_Ledger_Cores : Nat := 16
@[irreducible] def F.cores_Set_Turn : Nat := 17
@[irreducible] def F.ref27_Turn : Nat := 18
@[irreducible] def F.roster_New : Nat := 19
@[irreducible] def F.cores_New : Nat := 20
@[irreducible] def F.law29_Fit : Nat := 21
@[irreducible] def F.ledger_Ledger_Free : Nat := 22
@[irreducible] def F.ref27_New : Nat := 23
@[irreducible] def F.ref27_Plug : Nat := 24
@[irreducible] def F.ref27_Unplug : Nat := 25
@[irreducible] def F.ref29_tick : Nat := 26
@[irreducible] def F.ref28_Find : Nat := 27
@[irreducible] def F.ref28_Do : Nat := 28
@[irreducible] def F.ref29_Free : Nat := 29
@[irreducible] def F.ledger_Ledger_none : Nat := 30
@[irreducible] def F.ledger_Ledger_tasks : Nat := 31
@[irreducible] def F.ledger_Ledger_plug : Nat := 32
@[irreducible] def F.ledger_Ledger_ticks : Nat := 33
@[irreducible] def F.roster_Roster_Task : Nat := 34
@[irreducible] def F.ledger_Ledger_Clock : Nat := 35
@[irreducible] def F.law28_Alike : Nat := 36
@[irreducible] def F.cores_Set_Len : Nat := 37
@[irreducible] def F.cores_Set_State : Nat := 38
@[irreducible] def F.roster_Roster_Fork : Nat := 39
@[irreducible] def F.cores_Set_Fork : Nat := 40
@[irreducible] def F.roster_Roster_one : Nat := 41
@[irreducible] def F.roster_Roster_count : Nat := 42
@[irreducible] def F.slices_Repeat_int_int : Nat := 43
@[irreducible] def F.cores_Set_Count : Nat := 44
@[irreducible] def F.roster_Roster_Total : Nat := 45
@[irreducible] def F.ref27_with : Nat := 46
@[irreducible] def F.ref27_Count : Nat := 47
@[irreducible] def F.ref28_find : Nat := 48
@[irreducible] def F.ref28_tasks : Nat := 49
@[irreducible] def F.ref28_groups : Nat := 50
@[irreducible] def F.ref28_enter : Nat := 51
@[irreducible] def F.ref28_members : Nat := 52
@[irreducible] def F.ref28_Total : Nat := 53
@[irreducible] def F.ledger_list : Nat := 54
@[irreducible] def F.ledger_Ledger_room : Nat := 55
@[irreducible] def F.cores_Set_Plug : Nat := 56
@[irreducible] def F.cores_Set_Unplug : Nat := 57
@[irreducible] def F.roster_Roster_Tasks : Nat := 58
@[irreducible] def F.roster_Roster_Groups : Nat := 59
@[irreducible] def F.ref08_Same : Nat := 60
@[irreducible] def F.roster_Roster_Units : Nat := 61
@[irreducible] def F.ref28_Units : Nat := 62
@[irreducible] def F.ref28_Group0 : Nat := 63
@[irreducible] def F.ref28_Members : Nat := 64
@[irreducible] def F.roster_Roster_none : Nat := 65
@[irreducible] def F.maps_Clone_map_int_roster_Task_int_roster_Task : Nat := 66
@[irreducible] def F.maps_Clone_map_int_roster_Group_int_roster_Group : Nat := 67
@[irreducible] def F.slices_Clone_int_int : Nat := 68
@[irreducible] def F.math_bits_Mul : Nat := 69
@[irreducible] def F.math_bits_OnesCount32 : Nat := 70
@[irreducible] def F.cores_Set_In : Nat := 71
@[irreducible] def F.order_Total : Nat := 72
@[irreducible] def F.ref28_share : Nat := 73
@[irreducible] def F.ref28_with : Nat := 74
@[irreducible] def F.ref28_without : Nat := 75
@[irreducible] def F.ref28_groupWith : Nat := 76
@[irreducible] def F.roster_Roster_Arrive : Nat := 77
@[irreducible] def F.roster_Roster_Reweight : Nat := 78
@[irreducible] def F.roster_Roster_Block : Nat := 79
@[irreducible] def F.roster_Roster_Wake : Nat := 80
@[irreducible] def F.roster_Roster_Found : Nat := 81
@[irreducible] def F.roster_Roster_Fund : Nat := 82
@[irreducible] def F.roster_Roster_Disband : Nat := 83
@[irreducible] def F.roster_Roster_Enter : Nat := 84
@[irreducible] def F.roster_Roster_Weigh : Nat := 85
@[irreducible] def F.roster_Roster_Limit : Nat := 86
@[irreducible] def F.roster_Roster_Move : Nat := 87
@[irreducible] def F.cores_Set_change : Nat := 88
@[irreducible] def F.slices_Sorted_int : Nat := 89
@[irreducible] def F.maps_Keys_map_int_roster_Task_int_roster_Task : Nat := 90
@[irreducible] def F.maps_Keys_map_int_roster_Group_int_roster_Group : Nat := 91
@[irreducible] def F.math_bits_Mul32 : Nat := 93
@[irreducible] def F.math_bits_Mul64 : Nat := 94
@[irreducible] def F.slices_Contains_int_int : Nat := 95
@[irreducible] def F.fixq_Add : Nat := 96
@[irreducible] def F.roster_Roster_fresh : Nat := 97
@[irreducible] def F.roster_Roster_share : Nat := 98
@[irreducible] def F.roster_Roster_member : Nat := 99
@[irreducible] def F.roster_Roster_off : Nat := 100
@[irreducible] def F.order_Unit : Nat := 101
@[irreducible] def F.roster_Roster_group : Nat := 102
@[irreducible] def F.roster_weight : Nat := 103
@[irreducible] def F.maps_Keys_map_int_roster_Task_int_roster_Task_1 : Nat := 106
@[irreducible] def F.maps_Keys_map_int_roster_Group_int_roster_Group_1 : Nat := 107
@[irreducible] def F.slices_Index_int_int : Nat := 108

def RB.law29_LedgerPlays_1 : RCode :=
  (.seq (.seq (.region [⟨some 52, none, .mov (.t 8)⟩,
    ⟨some 53, none, .mov (.t 1)⟩,
    ⟨some 54, none, .len (.t 53)⟩,
    ⟨some 55, none, .bin .lss (.t 52) (.t 54)⟩,
    ⟨some 56, none, .mov (.t 55)⟩,
    ⟨some 57, some (56, true), .mov (.t 8)⟩,
    ⟨some 58, some (56, true), .bin .lss (.t 57) (.c (.int .i64 40))⟩,
    ⟨some 59, none, .pick (.t 56) (.t 58) (.c (.bool false))⟩]
    [1, 5, 7, 8, 59])
  (.cond (.t 59)
    .skip
    (.exit 0)))
  (.seq (.block 1
    (.seq (.drawn [⟨some 63, none, .load true 9 (.t 7)⟩,
      ⟨some 64, none, .mov (.t 1)⟩,
      ⟨some 65, none, .mov (.t 8)⟩,
      ⟨some 66, none, .idxS 8 (.t 64) (.t 65)⟩,
      ⟨some 67, none, .load true 8 (.t 66)⟩,
      ⟨some 68, none, .call F.ref29_Do [.t 63, .t 67]⟩,
      ⟨some 62, none, .mov (.t 68)⟩,
      ⟨some 69, none, .ext 0 (.t 62)⟩,
      ⟨some 70, none, .ext 1 (.t 62)⟩,
      ⟨some 9, none, .alloc [(.int .i64 0), (.int .i64 0), (.int .i64 0), (.int .i64 0), (.int .i64 0), (.slice none 0 0), (.slice none 0 0), (.slice none 0 0), (.int .i64 0)]⟩,
      ⟨none, none, .store 9 (.t 9) (.t 69)⟩,
      ⟨some 10, none, .mov (.t 70)⟩]
      [[], [], [], [1, 2], [3], [0, 4], [5], [6], [6], [], [9, 7, 5, 0, 1, 2, 3, 4, 5, 6, 7, 9], [8, 10, 0, 1, 2, 3, 4, 5, 6, 7, 8, 9, 10]]
      [(1, []), (2, []), (3, []), (0, []), (4, []), (5, []), (6, []), (7, []), (8, []), (9, []), (10, []), (11, [])]
      [[], [], [], [1, 2], [1, 2, 3], [0, 1, 2, 3, 4], [0, 1, 2, 3, 4, 5], [0, 1, 2, 3, 4, 5, 6], [0, 1, 2, 3, 4, 5, 6], [], [0, 1, 2, 3, 4, 5, 6, 7, 9], [0, 1, 2, 3, 4, 5, 6, 7, 8, 9, 10]]
      [1, 5, 7, 8, 9, 10])
    (.seq (.seq (.region [⟨some 71, none, .mov (.t 5)⟩,
      ⟨some 72, none, .mov (.t 1)⟩,
      ⟨some 73, none, .mov (.t 8)⟩,
      ⟨some 74, none, .idxS 8 (.t 72) (.t 73)⟩,
      ⟨some 75, none, .load true 8 (.t 74)⟩,
      ⟨some 76, none, .call F.ledger_Ledger_Do [.t 71, .t 75]⟩,
      ⟨some 77, none, .mov (.t 10)⟩,
      ⟨some 78, none, .bin .neq (.t 76) (.t 77)⟩,
      ⟨some 79, none, .mov (.t 78)⟩,
      ⟨some 80, some (79, false), .mov (.t 5)⟩,
      ⟨some 81, some (79, false), .load true 9 (.t 9)⟩,
      ⟨some 82, some (79, false), .call F.law29_Alike [.t 80, .t 81]⟩,
      ⟨some 83, some (79, false), .un .not (.t 82)⟩,
      ⟨some 84, none, .pick (.t 79) (.c (.bool true)) (.t 83)⟩]
      [1, 5, 7, 8, 9, 84])
    (.cond (.t 84)
      (.seq (.region [⟨some 4, none, .mov (.c (.bool false))⟩]
        [4])
      .ret)
      .skip))
    (.region [⟨some 85, none, .load true 9 (.t 9)⟩,
      ⟨none, none, .store 9 (.t 7) (.t 85)⟩]
      [1, 5, 7, 8]))) [1, 5, 7, 8])
  (.region [⟨some 60, none, .mov (.t 8)⟩,
    ⟨some 61, none, .bin .add (.t 60) (.c (.int .i64 1))⟩,
    ⟨some 8, none, .mov (.t 61)⟩]
    [1, 5, 7, 8])))
def RC.law29_LedgerPlays : RFn := ⟨2, [.slot 4],
  (.seq (.region [⟨some 2, none, .box (.t 0)⟩,
    ⟨some 4, none, .mov (.c (.bool false))⟩]
    [1, 2])
  (.seq (.region [⟨some 12, none, .load true 4 (.t 2)⟩,
    ⟨some 13, none, .call F.ledger_New [.t 12]⟩,
    ⟨some 11, none, .mov (.t 13)⟩,
    ⟨some 14, none, .ext 0 (.t 11)⟩,
    ⟨some 15, none, .ext 1 (.t 11)⟩,
    ⟨some 5, none, .mov (.t 14)⟩,
    ⟨some 6, none, .mov (.t 15)⟩]
    [1, 2, 5, 6])
  (.seq (.seq (.drawn [⟨some 16, none, .load true 4 (.t 2)⟩,
    ⟨some 17, none, .call F.ledger_Check [.t 16]⟩,
    ⟨some 18, none, .bin .eql (.t 17) (.c (.int .i64 0))⟩,
    ⟨some 19, none, .load true 4 (.t 2)⟩,
    ⟨some 20, none, .call F.ref29_Right [.t 19]⟩,
    ⟨some 21, none, .eq true .bool (.t 18) (.t 20)⟩,
    ⟨some 22, none, .mov (.t 21)⟩,
    ⟨some 23, some (22, false), .load true 4 (.t 2)⟩,
    ⟨some 24, some (22, false), .call F.ref29_Right [.t 23]⟩,
    ⟨some 25, some (22, false), .un .not (.t 24)⟩,
    ⟨some 26, some (22, false), .mov (.t 25)⟩,
    ⟨some 27, some (26, true), .load true 4 (.t 2)⟩,
    ⟨some 28, some (26, true), .call F.ledger_Check [.t 27]⟩,
    ⟨some 29, some (26, true), .bin .neq (.t 28) (.c (.int .i64 1))⟩,
    ⟨some 30, some (22, false), .pick (.t 26) (.t 29) (.c (.bool false))⟩,
    ⟨some 31, none, .pick (.t 22) (.c (.bool true)) (.t 30)⟩]
    [[], [0], [1], [], [3, 1], [2, 4], [5, 4], [6], [7, 6, 6], [8, 6], [9, 8, 6], [10], [11, 10, 10], [12, 10], [10, 13, 6], [6, 14]]
    [(0, []), (3, []), (1, [2]), (2, []), (4, []), (5, []), (6, []), (7, []), (8, []), (9, []), (10, []), (11, []), (12, []), (13, []), (14, []), (15, [])]
    [[], [0], [0, 1], [], [0, 1, 3], [0, 1, 2, 3, 4], [0, 1, 2, 3, 4, 5], [0, 1, 2, 3, 4, 5, 6], [0, 1, 2, 3, 4, 5, 6, 7], [0, 1, 2, 3, 4, 5, 6, 7, 8], [0, 1, 2, 3, 4, 5, 6, 7, 8, 9], [0, 1, 2, 3, 4, 5, 6, 7, 8, 9, 10], [0, 1, 2, 3, 4, 5, 6, 7, 8, 9, 10, 11], [0, 1, 2, 3, 4, 5, 6, 7, 8, 9, 10, 11, 12], [0, 1, 2, 3, 4, 5, 6, 7, 8, 9, 10, 11, 12, 13], [0, 1, 2, 3, 4, 5, 6, 7, 8, 9, 10, 11, 12, 13, 14]]
    [1, 2, 5, 6, 31])
  (.cond (.t 31)
    (.seq (.region [⟨some 4, none, .mov (.c (.bool false))⟩]
      [4])
    .ret)
    .skip))
  (.seq (.seq (.region [⟨some 32, none, .load true 4 (.t 2)⟩,
    ⟨some 33, none, .call F.ref29_Right [.t 32]⟩,
    ⟨some 34, none, .un .not (.t 33)⟩]
    [1, 2, 5, 6, 34])
  (.cond (.t 34)
    (.seq (.region [⟨some 35, none, .mov (.t 5)⟩,
      ⟨some 36, none, .eq false .ptr (.t 35) (.c (.pointer none))⟩,
      ⟨some 37, none, .mov (.t 36)⟩,
      ⟨some 38, some (37, true), .mov (.t 6)⟩,
      ⟨some 39, some (37, true), .bin .eql (.t 38) (.c (.int .i64 1))⟩,
      ⟨some 40, none, .pick (.t 37) (.t 39) (.c (.bool false))⟩,
      ⟨some 41, none, .mov (.t 40)⟩,
      ⟨some 42, some (41, true), .call F.law29_awake []⟩,
      ⟨some 43, none, .pick (.t 41) (.t 42) (.c (.bool false))⟩,
      ⟨some 4, none, .mov (.t 43)⟩]
      [4])
    .ret)
    .skip))
  (.seq (.seq (.region [⟨some 44, none, .mov (.t 6)⟩,
    ⟨some 45, none, .bin .neq (.t 44) (.c (.int .i64 0))⟩,
    ⟨some 46, none, .mov (.t 45)⟩,
    ⟨some 47, some (46, false), .mov (.t 5)⟩,
    ⟨some 48, some (46, false), .eq false .ptr (.t 47) (.c (.pointer none))⟩,
    ⟨some 49, none, .pick (.t 46) (.c (.bool true)) (.t 48)⟩]
    [1, 2, 5, 49])
  (.cond (.t 49)
    (.seq (.region [⟨some 4, none, .mov (.c (.bool false))⟩]
      [4])
    .ret)
    .skip))
  (.seq (.region [⟨some 50, none, .load true 4 (.t 2)⟩,
    ⟨some 51, none, .call F.ref29_New [.t 50]⟩,
    ⟨some 7, none, .alloc [(.int .i64 0), (.int .i64 0), (.int .i64 0), (.int .i64 0), (.int .i64 0), (.slice none 0 0), (.slice none 0 0), (.slice none 0 0), (.int .i64 0)]⟩,
    ⟨none, none, .store 9 (.t 7) (.t 51)⟩]
    [1, 5, 7])
  (.seq (.seq (.region [⟨some 8, none, .mov (.c (.int .i64 0))⟩]
    [1, 5, 7, 8])
  (.block 0
    (.loop [1, 5, 7, 8] RB.law29_LedgerPlays_1) []))
  (.seq (.region [⟨some 86, none, .call F.law29_awake []⟩,
    ⟨some 4, none, .mov (.t 86)⟩]
    [4])
  .ret))))))))⟩

def RB.law29_LedgerFork_1 : RCode :=
  (.seq (.seq (.region [⟨some 63, none, .mov (.t 13)⟩,
    ⟨some 64, none, .mov (.t 2)⟩,
    ⟨some 65, none, .len (.t 64)⟩,
    ⟨some 66, none, .bin .lss (.t 63) (.t 65)⟩,
    ⟨some 67, none, .mov (.t 66)⟩,
    ⟨some 68, some (67, true), .mov (.t 13)⟩,
    ⟨some 69, some (67, true), .bin .lss (.t 68) (.c (.int .i64 15))⟩,
    ⟨some 70, none, .pick (.t 67) (.t 69) (.c (.bool false))⟩]
    [2, 3, 7, 9, 11, 12, 13, 70])
  (.cond (.t 70)
    .skip
    (.exit 2)))
  (.seq (.block 3
    (.seq (.region [⟨some 73, none, .mov (.t 11)⟩,
      ⟨some 74, none, .mov (.t 2)⟩,
      ⟨some 75, none, .mov (.t 13)⟩,
      ⟨some 76, none, .idxS 8 (.t 74) (.t 75)⟩,
      ⟨some 77, none, .load true 8 (.t 76)⟩,
      ⟨some 78, none, .call F.ledger_Ledger_Do [.t 73, .t 77]⟩]
      [2, 3, 7, 9, 11, 12, 13])
    (.drawn [⟨some 80, none, .load true 9 (.t 12)⟩,
      ⟨some 81, none, .mov (.t 2)⟩,
      ⟨some 82, none, .mov (.t 13)⟩,
      ⟨some 83, none, .idxS 8 (.t 81) (.t 82)⟩,
      ⟨some 84, none, .load true 8 (.t 83)⟩,
      ⟨some 85, none, .call F.ref29_Do [.t 80, .t 84]⟩,
      ⟨some 79, none, .mov (.t 85)⟩,
      ⟨some 86, none, .ext 0 (.t 79)⟩,
      ⟨some 87, none, .ext 1 (.t 79)⟩,
      ⟨none, none, .store 9 (.t 12) (.t 86)⟩]
      [[], [], [], [1, 2], [3], [0, 4], [5], [6], [6], [7, 5, 0, 1, 2, 3, 4, 5, 6, 7]]
      [(1, []), (2, []), (3, []), (0, []), (4, []), (5, []), (6, []), (7, []), (8, []), (9, [])]
      [[], [], [], [1, 2], [1, 2, 3], [0, 1, 2, 3, 4], [0, 1, 2, 3, 4, 5], [0, 1, 2, 3, 4, 5, 6], [0, 1, 2, 3, 4, 5, 6], [0, 1, 2, 3, 4, 5, 6, 7]]
      [2, 3, 7, 9, 11, 12, 13])) [2, 3, 7, 9, 11, 12, 13])
  (.region [⟨some 71, none, .mov (.t 13)⟩,
    ⟨some 72, none, .bin .add (.t 71) (.c (.int .i64 1))⟩,
    ⟨some 13, none, .mov (.t 72)⟩]
    [2, 3, 7, 9, 11, 12, 13])))
def RB.law29_LedgerFork_2 : RCode :=
  (.seq (.seq (.region [⟨some 33, none, .mov (.t 10)⟩,
    ⟨some 34, none, .mov (.t 1)⟩,
    ⟨some 35, none, .len (.t 34)⟩,
    ⟨some 36, none, .bin .lss (.t 33) (.t 35)⟩,
    ⟨some 37, none, .mov (.t 36)⟩,
    ⟨some 38, some (37, true), .mov (.t 10)⟩,
    ⟨some 39, some (37, true), .bin .lss (.t 38) (.c (.int .i64 30))⟩,
    ⟨some 40, none, .pick (.t 37) (.t 39) (.c (.bool false))⟩]
    [1, 2, 3, 7, 9, 10, 40])
  (.cond (.t 40)
    .skip
    (.exit 0)))
  (.seq (.block 1
    (.seq (.region [⟨some 43, none, .mov (.t 7)⟩,
      ⟨some 44, none, .mov (.t 1)⟩,
      ⟨some 45, none, .mov (.t 10)⟩,
      ⟨some 46, none, .idxS 8 (.t 44) (.t 45)⟩,
      ⟨some 47, none, .load true 8 (.t 46)⟩,
      ⟨some 48, none, .call F.ledger_Ledger_Do [.t 43, .t 47]⟩]
      [1, 2, 3, 7, 9, 10])
    (.drawn [⟨some 50, none, .load true 9 (.t 9)⟩,
      ⟨some 51, none, .mov (.t 1)⟩,
      ⟨some 52, none, .mov (.t 10)⟩,
      ⟨some 53, none, .idxS 8 (.t 51) (.t 52)⟩,
      ⟨some 54, none, .load true 8 (.t 53)⟩,
      ⟨some 55, none, .call F.ref29_Do [.t 50, .t 54]⟩,
      ⟨some 49, none, .mov (.t 55)⟩,
      ⟨some 56, none, .ext 0 (.t 49)⟩,
      ⟨some 57, none, .ext 1 (.t 49)⟩,
      ⟨none, none, .store 9 (.t 9) (.t 56)⟩]
      [[], [], [], [1, 2], [3], [0, 4], [5], [6], [6], [7, 5, 0, 1, 2, 3, 4, 5, 6, 7]]
      [(1, []), (2, []), (3, []), (0, []), (4, []), (5, []), (6, []), (7, []), (8, []), (9, [])]
      [[], [], [], [1, 2], [1, 2, 3], [0, 1, 2, 3, 4], [0, 1, 2, 3, 4, 5], [0, 1, 2, 3, 4, 5, 6], [0, 1, 2, 3, 4, 5, 6], [0, 1, 2, 3, 4, 5, 6, 7]]
      [1, 2, 3, 7, 9, 10])) [1, 2, 3, 7, 9, 10])
  (.region [⟨some 41, none, .mov (.t 10)⟩,
    ⟨some 42, none, .bin .add (.t 41) (.c (.int .i64 1))⟩,
    ⟨some 10, none, .mov (.t 42)⟩]
    [1, 2, 3, 7, 9, 10])))
def RC.law29_LedgerFork : RFn := ⟨3, [.slot 6],
  (.seq (.region [⟨some 3, none, .box (.t 0)⟩,
    ⟨some 6, none, .mov (.c (.bool false))⟩]
    [1, 2, 3])
  (.seq (.region [⟨some 15, none, .load true 4 (.t 3)⟩,
    ⟨some 16, none, .call F.ledger_New [.t 15]⟩,
    ⟨some 14, none, .mov (.t 16)⟩,
    ⟨some 17, none, .ext 0 (.t 14)⟩,
    ⟨some 18, none, .ext 1 (.t 14)⟩,
    ⟨some 7, none, .mov (.t 17)⟩,
    ⟨some 8, none, .mov (.t 18)⟩]
    [1, 2, 3, 7, 8])
  (.seq (.seq (.region [⟨some 19, none, .mov (.t 8)⟩,
    ⟨some 20, none, .bin .neq (.t 19) (.c (.int .i64 0))⟩,
    ⟨some 21, none, .mov (.t 20)⟩,
    ⟨some 22, some (21, false), .mov (.t 7)⟩,
    ⟨some 23, some (21, false), .eq false .ptr (.t 22) (.c (.pointer none))⟩,
    ⟨some 24, none, .pick (.t 21) (.c (.bool true)) (.t 23)⟩]
    [1, 2, 3, 7, 24])
  (.cond (.t 24)
    (.seq (.region [⟨some 25, none, .load true 4 (.t 3)⟩,
      ⟨some 26, none, .call F.ref29_Right [.t 25]⟩,
      ⟨some 27, none, .un .not (.t 26)⟩,
      ⟨some 28, none, .mov (.t 27)⟩,
      ⟨some 29, some (28, true), .call F.law29_awake []⟩,
      ⟨some 30, none, .pick (.t 28) (.t 29) (.c (.bool false))⟩,
      ⟨some 6, none, .mov (.t 30)⟩]
      [6])
    .ret)
    .skip))
  (.seq (.region [⟨some 31, none, .load true 4 (.t 3)⟩,
    ⟨some 32, none, .call F.ref29_New [.t 31]⟩,
    ⟨some 9, none, .alloc [(.int .i64 0), (.int .i64 0), (.int .i64 0), (.int .i64 0), (.int .i64 0), (.slice none 0 0), (.slice none 0 0), (.slice none 0 0), (.int .i64 0)]⟩,
    ⟨none, none, .store 9 (.t 9) (.t 32)⟩]
    [1, 2, 3, 7, 9])
  (.seq (.seq (.region [⟨some 10, none, .mov (.c (.int .i64 0))⟩]
    [1, 2, 3, 7, 9, 10])
  (.block 0
    (.loop [1, 2, 3, 7, 9, 10] RB.law29_LedgerFork_2) [2, 3, 7, 9]))
  (.seq (.region [⟨some 58, none, .mov (.t 7)⟩,
    ⟨some 59, none, .call F.ledger_Ledger_Fork [.t 58]⟩,
    ⟨some 11, none, .mov (.t 59)⟩]
    [2, 3, 7, 9, 11])
  (.seq (.seq (.region [⟨some 60, none, .mov (.t 11)⟩,
    ⟨some 61, none, .eq false .ptr (.t 60) (.c (.pointer none))⟩]
    [2, 3, 7, 9, 11, 61])
  (.cond (.t 61)
    (.seq (.region [⟨some 6, none, .mov (.c (.bool false))⟩]
      [6])
    .ret)
    .skip))
  (.seq (.region [⟨some 62, none, .load true 9 (.t 9)⟩,
    ⟨some 12, none, .alloc [(.int .i64 0), (.int .i64 0), (.int .i64 0), (.int .i64 0), (.int .i64 0), (.slice none 0 0), (.slice none 0 0), (.slice none 0 0), (.int .i64 0)]⟩,
    ⟨none, none, .store 9 (.t 12) (.t 62)⟩]
    [2, 3, 7, 9, 11, 12])
  (.seq (.seq (.region [⟨some 13, none, .mov (.c (.int .i64 0))⟩]
    [2, 3, 7, 9, 11, 12, 13])
  (.block 2
    (.loop [2, 3, 7, 9, 11, 12, 13] RB.law29_LedgerFork_1) [3, 7, 9, 11, 12]))
  (.seq (.region [⟨some 88, none, .mov (.t 7)⟩,
    ⟨some 89, none, .call F.ledger_Ledger_Roster [.t 88]⟩,
    ⟨some 90, none, .call F.roster_Roster_Depart [.t 89, .c (.int .i64 1)]⟩]
    [3, 7, 9, 11, 12])
  (.seq (.region [⟨some 91, none, .mov (.t 7)⟩,
    ⟨some 92, none, .call F.ledger_Ledger_Cores [.t 91]⟩,
    ⟨some 93, none, .call F.cores_Set_Turn [.t 92]⟩]
    [3, 7, 9, 11, 12])
  (.seq (.drawn [⟨some 94, none, .mov (.t 7)⟩,
    ⟨some 95, none, .load true 9 (.t 9)⟩,
    ⟨some 96, none, .call F.law29_Alike [.t 94, .t 95]⟩,
    ⟨some 97, none, .mov (.t 96)⟩,
    ⟨some 98, some (97, true), .mov (.t 11)⟩,
    ⟨some 99, some (97, true), .load true 9 (.t 12)⟩,
    ⟨some 100, some (97, true), .call F.law29_Alike [.t 98, .t 99]⟩,
    ⟨some 101, none, .pick (.t 97) (.t 100) (.c (.bool false))⟩,
    ⟨some 102, none, .mov (.t 101)⟩,
    ⟨some 103, some (102, true), .fieldAddr 7 (.t 9)⟩,
    ⟨some 104, some (102, true), .load false 1 (.t 103)⟩,
    ⟨some 105, some (102, true), .call F.ref27_Turn [.t 104]⟩,
    ⟨some 106, some (102, true), .len (.t 105)⟩,
    ⟨some 107, some (102, true), .fieldAddr 1 (.t 3)⟩,
    ⟨some 108, some (102, true), .load false 1 (.t 107)⟩,
    ⟨some 109, some (102, true), .bin .eql (.t 106) (.t 108)⟩,
    ⟨some 110, none, .pick (.t 102) (.t 109) (.c (.bool false))⟩,
    ⟨some 111, none, .mov (.t 110)⟩,
    ⟨some 112, some (111, true), .call F.law29_awake []⟩,
    ⟨some 113, none, .pick (.t 111) (.t 112) (.c (.bool false))⟩,
    ⟨some 6, none, .mov (.t 113)⟩]
    [[], [], [0, 1], [2, 2], [3], [3], [4, 5, 3, 3], [3, 6], [7, 6], [8], [9, 8], [10, 8, 8], [11, 8], [8], [13, 8], [12, 14, 8], [8, 15], [16, 11], [17, 17], [17, 18], [19, 18, 0, 1, 2, 3, 4, 5, 6, 7, 8, 9, 10, 11, 12, 13, 14, 15, 16, 17, 18, 19]]
    [(0, []), (1, []), (2, []), (3, []), (4, []), (5, []), (6, []), (7, []), (8, []), (9, []), (13, []), (10, []), (14, []), (11, [107]), (12, []), (15, []), (16, []), (17, []), (18, []), (19, []), (20, [])]
    [[], [], [0, 1], [0, 1, 2], [0, 1, 2, 3], [0, 1, 2, 3], [0, 1, 2, 3, 4, 5], [0, 1, 2, 3, 4, 5, 6], [0, 1, 2, 3, 4, 5, 6, 7], [0, 1, 2, 3, 4, 5, 6, 7, 8], [0, 1, 2, 3, 4, 5, 6, 7, 8, 9], [0, 1, 2, 3, 4, 5, 6, 7, 8, 9, 10], [0, 1, 2, 3, 4, 5, 6, 7, 8, 9, 10, 11], [0, 1, 2, 3, 4, 5, 6, 7, 8], [0, 1, 2, 3, 4, 5, 6, 7, 8, 13], [0, 1, 2, 3, 4, 5, 6, 7, 8, 9, 10, 11, 12, 13, 14], [0, 1, 2, 3, 4, 5, 6, 7, 8, 9, 10, 11, 12, 13, 14, 15], [0, 1, 2, 3, 4, 5, 6, 7, 8, 9, 10, 11, 12, 13, 14, 15, 16], [0, 1, 2, 3, 4, 5, 6, 7, 8, 9, 10, 11, 12, 13, 14, 15, 16, 17], [0, 1, 2, 3, 4, 5, 6, 7, 8, 9, 10, 11, 12, 13, 14, 15, 16, 17, 18], [0, 1, 2, 3, 4, 5, 6, 7, 8, 9, 10, 11, 12, 13, 14, 15, 16, 17, 18, 19]]
    [6])
  .ret))))))))))))⟩

def RC.ledger_New : RFn := ⟨1, [.slot 2, .slot 3],
  (.seq (.region [⟨some 1, none, .box (.t 0)⟩,
    ⟨some 2, none, .mov (.c (.pointer none))⟩,
    ⟨some 3, none, .mov (.c (.int .i64 0))⟩]
    [1])
  (.seq (.seq (.region [⟨some 8, none, .load true 4 (.t 1)⟩,
    ⟨some 9, none, .call F.ledger_Check [.t 8]⟩,
    ⟨some 4, none, .mov (.t 9)⟩]
    [1, 4])
  (.seq (.region [⟨some 10, none, .mov (.t 4)⟩,
    ⟨some 11, none, .bin .neq (.t 10) (.c (.int .i64 0))⟩]
    [1, 4, 11])
  (.cond (.t 11)
    (.seq (.region [⟨some 12, none, .mov (.t 4)⟩,
      ⟨some 2, none, .mov (.c (.pointer none))⟩,
      ⟨some 3, none, .mov (.t 12)⟩]
      [2, 3])
    .ret)
    .skip)))
  (.seq (.region [⟨some 14, none, .fieldAddr 0 (.t 1)⟩,
    ⟨some 15, none, .load false 1 (.t 14)⟩,
    ⟨some 16, none, .call F.roster_New [.t 15]⟩,
    ⟨some 13, none, .mov (.t 16)⟩,
    ⟨some 17, none, .ext 0 (.t 13)⟩,
    ⟨some 18, none, .ext 1 (.t 13)⟩,
    ⟨some 5, none, .mov (.t 17)⟩,
    ⟨some 6, none, .mov (.t 18)⟩]
    [1, 5, 6])
  (.seq (.seq (.region [⟨some 19, none, .mov (.t 6)⟩,
    ⟨some 20, none, .bin .neq (.t 19) (.c (.int .i64 0))⟩]
    [1, 5, 6, 20])
  (.cond (.t 20)
    (.seq (.region [⟨some 21, none, .mov (.t 6)⟩,
      ⟨some 2, none, .mov (.c (.pointer none))⟩,
      ⟨some 3, none, .mov (.t 21)⟩]
      [2, 3])
    .ret)
    .skip))
  (.seq (.region [⟨some 23, none, .fieldAddr 1 (.t 1)⟩,
    ⟨some 24, none, .load false 1 (.t 23)⟩,
    ⟨some 25, none, .call F.cores_New [.t 24]⟩,
    ⟨some 22, none, .mov (.t 25)⟩,
    ⟨some 26, none, .ext 0 (.t 22)⟩,
    ⟨some 27, none, .ext 1 (.t 22)⟩,
    ⟨some 7, none, .mov (.t 26)⟩,
    ⟨some 6, none, .mov (.t 27)⟩]
    [1, 5, 6, 7])
  (.seq (.seq (.region [⟨some 28, none, .mov (.t 6)⟩,
    ⟨some 29, none, .bin .neq (.t 28) (.c (.int .i64 0))⟩]
    [1, 5, 6, 7, 29])
  (.cond (.t 29)
    (.seq (.region [⟨some 30, none, .mov (.t 6)⟩,
      ⟨some 2, none, .mov (.c (.pointer none))⟩,
      ⟨some 3, none, .mov (.t 30)⟩]
      [2, 3])
    .ret)
    .skip))
  (.seq (.region [⟨some 31, none, .load true 4 (.t 1)⟩,
    ⟨some 32, none, .mov (.t 5)⟩,
    ⟨some 33, none, .mov (.t 7)⟩,
    ⟨some 34, none, .build [(.int .i64 0), (.int .i64 0), (.int .i64 0), (.int .i64 0), (.pointer none), (.pointer none), (.int .i64 0)] [(0, 4, .t 31), (4, 1, .t 32), (5, 1, .t 33)]⟩,
    ⟨some 35, none, .box (.t 34)⟩,
    ⟨some 2, none, .mov (.t 35)⟩,
    ⟨some 3, none, .mov (.c (.int .i64 0))⟩]
    [2, 3])
  .ret)))))))⟩

def RC.ledger_Check : RFn := ⟨1, [.slot 2],
  (.seq (.region [⟨some 1, none, .box (.t 0)⟩,
    ⟨some 2, none, .mov (.c (.int .i64 0))⟩]
    [1])
  (.seq (.region [⟨some 4, none, .fieldAddr 0 (.t 1)⟩,
    ⟨some 5, none, .load false 1 (.t 4)⟩,
    ⟨some 6, none, .bin .geq (.t 5) (.c (.int .i64 2))⟩,
    ⟨some 7, none, .mov (.t 6)⟩,
    ⟨some 8, some (7, true), .fieldAddr 0 (.t 1)⟩,
    ⟨some 9, some (7, true), .load false 1 (.t 8)⟩,
    ⟨some 10, some (7, true), .bin .leq (.t 9) (.c (.int .i64 64))⟩,
    ⟨some 11, none, .pick (.t 7) (.t 10) (.c (.bool false))⟩,
    ⟨some 12, none, .mov (.t 11)⟩,
    ⟨some 13, some (12, true), .fieldAddr 1 (.t 1)⟩,
    ⟨some 14, some (12, true), .load false 1 (.t 13)⟩,
    ⟨some 15, some (12, true), .bin .geq (.t 14) (.c (.int .i64 1))⟩,
    ⟨some 16, none, .pick (.t 12) (.t 15) (.c (.bool false))⟩,
    ⟨some 17, none, .mov (.t 16)⟩,
    ⟨some 18, some (17, true), .fieldAddr 1 (.t 1)⟩,
    ⟨some 19, some (17, true), .load false 1 (.t 18)⟩,
    ⟨some 20, some (17, true), .bin .leq (.t 19) (.c (.int .i64 16))⟩,
    ⟨some 21, none, .pick (.t 17) (.t 20) (.c (.bool false))⟩,
    ⟨some 3, none, .mov (.t 21)⟩]
    [1, 3])
  (.seq (.region [⟨some 22, none, .mov (.t 3)⟩,
    ⟨some 23, none, .mov (.t 22)⟩,
    ⟨some 24, some (23, true), .fieldAddr 2 (.t 1)⟩,
    ⟨some 25, some (23, true), .load false 1 (.t 24)⟩,
    ⟨some 26, some (23, true), .bin .geq (.t 25) (.c (.int .i64 1))⟩,
    ⟨some 27, none, .pick (.t 23) (.t 26) (.c (.bool false))⟩,
    ⟨some 28, none, .mov (.t 27)⟩,
    ⟨some 29, some (28, true), .fieldAddr 2 (.t 1)⟩,
    ⟨some 30, some (28, true), .load false 1 (.t 29)⟩,
    ⟨some 31, some (28, true), .bin .leq (.t 30) (.c (.int .i64 8))⟩,
    ⟨some 32, none, .pick (.t 28) (.t 31) (.c (.bool false))⟩,
    ⟨some 33, none, .mov (.t 32)⟩,
    ⟨some 34, some (33, true), .fieldAddr 3 (.t 1)⟩,
    ⟨some 35, some (33, true), .load false 1 (.t 34)⟩,
    ⟨some 36, some (33, true), .bin .geq (.t 35) (.c (.int .i64 2048))⟩,
    ⟨some 37, none, .pick (.t 33) (.t 36) (.c (.bool false))⟩,
    ⟨some 38, none, .mov (.t 37)⟩,
    ⟨some 39, some (38, true), .fieldAddr 3 (.t 1)⟩,
    ⟨some 40, some (38, true), .load false 1 (.t 39)⟩,
    ⟨some 41, some (38, true), .bin .leq (.t 40) (.c (.int .i64 1099511627776))⟩,
    ⟨some 42, none, .pick (.t 38) (.t 41) (.c (.bool false))⟩,
    ⟨some 3, none, .mov (.t 42)⟩]
    [3])
  (.seq (.seq (.region [⟨some 43, none, .mov (.t 3)⟩,
    ⟨some 44, none, .un .not (.t 43)⟩]
    [44])
  (.cond (.t 44)
    (.seq (.region [⟨some 2, none, .mov (.c (.int .i64 1))⟩]
      [2])
    .ret)
    .skip))
  (.seq (.region [⟨some 2, none, .mov (.c (.int .i64 0))⟩]
    [2])
  .ret)))))⟩

def RC.ref29_Right : RFn := ⟨1, [.slot 2],
  (.seq (.region [⟨some 1, none, .box (.t 0)⟩,
    ⟨some 2, none, .mov (.c (.bool false))⟩]
    [1])
  (.seq (.region [⟨some 3, none, .fieldAddr 0 (.t 1)⟩,
    ⟨some 4, none, .load false 1 (.t 3)⟩,
    ⟨some 5, none, .bin .geq (.t 4) (.c (.int .i64 2))⟩,
    ⟨some 6, none, .mov (.t 5)⟩,
    ⟨some 7, some (6, true), .fieldAddr 0 (.t 1)⟩,
    ⟨some 8, some (6, true), .load false 1 (.t 7)⟩,
    ⟨some 9, some (6, true), .bin .leq (.t 8) (.c (.int .i64 64))⟩,
    ⟨some 10, none, .pick (.t 6) (.t 9) (.c (.bool false))⟩,
    ⟨some 11, none, .mov (.t 10)⟩,
    ⟨some 12, some (11, true), .fieldAddr 1 (.t 1)⟩,
    ⟨some 13, some (11, true), .load false 1 (.t 12)⟩,
    ⟨some 14, some (11, true), .bin .geq (.t 13) (.c (.int .i64 1))⟩,
    ⟨some 15, none, .pick (.t 11) (.t 14) (.c (.bool false))⟩,
    ⟨some 16, none, .mov (.t 15)⟩,
    ⟨some 17, some (16, true), .fieldAddr 1 (.t 1)⟩,
    ⟨some 18, some (16, true), .load false 1 (.t 17)⟩,
    ⟨some 19, some (16, true), .bin .leq (.t 18) (.c (.int .i64 16))⟩,
    ⟨some 20, none, .pick (.t 16) (.t 19) (.c (.bool false))⟩,
    ⟨some 21, none, .mov (.t 20)⟩,
    ⟨some 22, some (21, true), .fieldAddr 2 (.t 1)⟩,
    ⟨some 23, some (21, true), .load false 1 (.t 22)⟩,
    ⟨some 24, some (21, true), .bin .geq (.t 23) (.c (.int .i64 1))⟩,
    ⟨some 25, none, .pick (.t 21) (.t 24) (.c (.bool false))⟩,
    ⟨some 26, none, .mov (.t 25)⟩,
    ⟨some 27, some (26, true), .fieldAddr 2 (.t 1)⟩,
    ⟨some 28, some (26, true), .load false 1 (.t 27)⟩,
    ⟨some 29, some (26, true), .bin .leq (.t 28) (.c (.int .i64 8))⟩,
    ⟨some 30, none, .pick (.t 26) (.t 29) (.c (.bool false))⟩,
    ⟨some 31, none, .mov (.t 30)⟩,
    ⟨some 32, some (31, true), .fieldAddr 3 (.t 1)⟩,
    ⟨some 33, some (31, true), .load false 1 (.t 32)⟩,
    ⟨some 34, some (31, true), .bin .geq (.t 33) (.c (.int .i64 2048))⟩,
    ⟨some 35, none, .pick (.t 31) (.t 34) (.c (.bool false))⟩,
    ⟨some 36, none, .mov (.t 35)⟩,
    ⟨some 37, some (36, true), .fieldAddr 3 (.t 1)⟩,
    ⟨some 38, some (36, true), .load false 1 (.t 37)⟩,
    ⟨some 39, some (36, true), .bin .leq (.t 38) (.c (.int .i64 1099511627776))⟩,
    ⟨some 40, none, .pick (.t 36) (.t 39) (.c (.bool false))⟩,
    ⟨some 2, none, .mov (.t 40)⟩]
    [2])
  .ret))⟩

def RC.law29_awake : RFn := ⟨0, [.slot 0],
  (.seq (.region [⟨some 0, none, .mov (.c (.bool false))⟩]
    [])
  (.seq (.region [⟨some 11, none, .call F.law29_Fit []⟩,
    ⟨some 12, none, .call F.ledger_New [.t 11]⟩,
    ⟨some 10, none, .mov (.t 12)⟩,
    ⟨some 13, none, .ext 0 (.t 10)⟩,
    ⟨some 14, none, .ext 1 (.t 10)⟩,
    ⟨some 1, none, .mov (.t 13)⟩,
    ⟨some 2, none, .mov (.t 14)⟩]
    [1, 2])
  (.seq (.seq (.region [⟨some 15, none, .mov (.t 2)⟩,
    ⟨some 16, none, .bin .neq (.t 15) (.c (.int .i64 0))⟩,
    ⟨some 17, none, .mov (.t 16)⟩,
    ⟨some 18, some (17, false), .mov (.t 1)⟩,
    ⟨some 19, some (17, false), .eq false .ptr (.t 18) (.c (.pointer none))⟩,
    ⟨some 20, none, .pick (.t 17) (.c (.bool true)) (.t 19)⟩]
    [1, 20])
  (.cond (.t 20)
    (.seq (.region [⟨some 0, none, .mov (.c (.bool false))⟩]
      [0])
    .ret)
    .skip))
  (.seq (.region [⟨some 21, none, .mov (.t 1)⟩,
    ⟨some 22, none, .build [(.int .i64 0), (.int .i64 0), (.int .i64 0), (.int .i64 0), (.int .i64 0), (.int .i64 0), (.int .i64 0), (.int .i64 0)] [(0, 1, .c (.int .i64 1)), (1, 1, .c (.int .i64 1)), (3, 1, .c (.int .i64 3))]⟩,
    ⟨some 23, none, .call F.ledger_Ledger_Do [.t 21, .t 22]⟩,
    ⟨some 24, none, .mov (.t 1)⟩,
    ⟨some 25, none, .build [(.int .i64 0), (.int .i64 0), (.int .i64 0), (.int .i64 0), (.int .i64 0), (.int .i64 0), (.int .i64 0), (.int .i64 0)] [(0, 1, .c (.int .i64 1)), (1, 1, .c (.int .i64 2)), (3, 1, .c (.int .i64 3))]⟩,
    ⟨some 26, none, .call F.ledger_Ledger_Do [.t 24, .t 25]⟩,
    ⟨some 27, none, .mov (.t 1)⟩,
    ⟨some 28, none, .build [(.int .i64 0), (.int .i64 0), (.int .i64 0), (.int .i64 0), (.int .i64 0), (.int .i64 0), (.int .i64 0), (.int .i64 0)] [(0, 1, .c (.int .i64 1)), (1, 1, .c (.int .i64 3)), (3, 1, .c (.int .i64 2))]⟩,
    ⟨some 29, none, .call F.ledger_Ledger_Do [.t 27, .t 28]⟩,
    ⟨some 3, none, .mov (.t 23)⟩,
    ⟨some 4, none, .mov (.t 26)⟩,
    ⟨some 5, none, .mov (.t 29)⟩]
    [1, 3, 4, 5])
  (.seq (.region [⟨some 30, none, .mov (.t 1)⟩,
    ⟨some 31, none, .build [(.int .i64 0), (.int .i64 0), (.int .i64 0), (.int .i64 0), (.int .i64 0), (.int .i64 0), (.int .i64 0), (.int .i64 0)] [(0, 1, .c (.int .i64 1)), (1, 1, .c (.int .i64 4)), (3, 1, .c (.int .i64 1))]⟩,
    ⟨some 32, none, .call F.ledger_Ledger_Do [.t 30, .t 31]⟩,
    ⟨some 33, none, .mov (.t 1)⟩,
    ⟨some 34, none, .build [(.int .i64 0), (.int .i64 0), (.int .i64 0), (.int .i64 0), (.int .i64 0), (.int .i64 0), (.int .i64 0), (.int .i64 0)] [(0, 1, .c (.int .i64 14))]⟩,
    ⟨some 35, none, .call F.ledger_Ledger_Do [.t 33, .t 34]⟩,
    ⟨some 6, none, .mov (.t 32)⟩,
    ⟨some 7, none, .mov (.t 35)⟩]
    [1, 3, 4, 5, 6, 7])
  (.seq (.region [⟨some 36, none, .mov (.t 1)⟩,
    ⟨some 37, none, .build [(.int .i64 0), (.int .i64 0), (.int .i64 0), (.int .i64 0), (.int .i64 0), (.int .i64 0), (.int .i64 0), (.int .i64 0)] [(0, 1, .c (.int .i64 2)), (1, 1, .c (.int .i64 1))]⟩,
    ⟨some 38, none, .call F.ledger_Ledger_Do [.t 36, .t 37]⟩,
    ⟨some 39, none, .mov (.t 1)⟩,
    ⟨some 40, none, .build [(.int .i64 0), (.int .i64 0), (.int .i64 0), (.int .i64 0), (.int .i64 0), (.int .i64 0), (.int .i64 0), (.int .i64 0)] [(0, 1, .c (.int .i64 2)), (1, 1, .c (.int .i64 2))]⟩,
    ⟨some 41, none, .call F.ledger_Ledger_Do [.t 39, .t 40]⟩,
    ⟨some 8, none, .mov (.t 38)⟩,
    ⟨some 9, none, .mov (.t 41)⟩]
    [1, 3, 4, 5, 6, 7, 8, 9])
  (.seq (.region [⟨some 42, none, .mov (.t 3)⟩,
    ⟨some 43, none, .bin .eql (.t 42) (.c (.int .i64 0))⟩,
    ⟨some 44, none, .mov (.t 43)⟩,
    ⟨some 45, some (44, true), .mov (.t 4)⟩,
    ⟨some 46, some (44, true), .bin .eql (.t 45) (.c (.int .i64 0))⟩,
    ⟨some 47, none, .pick (.t 44) (.t 46) (.c (.bool false))⟩,
    ⟨some 48, none, .mov (.t 47)⟩,
    ⟨some 49, some (48, true), .mov (.t 5)⟩,
    ⟨some 50, some (48, true), .bin .eql (.t 49) (.c (.int .i64 0))⟩,
    ⟨some 51, none, .pick (.t 48) (.t 50) (.c (.bool false))⟩,
    ⟨some 52, none, .mov (.t 51)⟩,
    ⟨some 53, some (52, true), .mov (.t 6)⟩,
    ⟨some 54, some (52, true), .bin .eql (.t 53) (.c (.int .i64 12))⟩,
    ⟨some 55, none, .pick (.t 52) (.t 54) (.c (.bool false))⟩,
    ⟨some 56, none, .mov (.t 55)⟩,
    ⟨some 57, some (56, true), .mov (.t 7)⟩,
    ⟨some 58, some (56, true), .bin .eql (.t 57) (.c (.int .i64 12))⟩,
    ⟨some 59, none, .pick (.t 56) (.t 58) (.c (.bool false))⟩,
    ⟨some 60, none, .mov (.t 59)⟩,
    ⟨some 61, some (60, true), .mov (.t 8)⟩,
    ⟨some 62, some (60, true), .bin .eql (.t 61) (.c (.int .i64 0))⟩,
    ⟨some 63, none, .pick (.t 60) (.t 62) (.c (.bool false))⟩,
    ⟨some 64, none, .mov (.t 63)⟩,
    ⟨some 65, some (64, true), .mov (.t 9)⟩,
    ⟨some 66, some (64, true), .bin .eql (.t 65) (.c (.int .i64 0))⟩,
    ⟨some 67, none, .pick (.t 64) (.t 66) (.c (.bool false))⟩,
    ⟨some 68, none, .mov (.t 67)⟩,
    ⟨some 69, some (68, true), .mov (.t 1)⟩,
    ⟨some 70, some (68, true), .build [(.int .i64 0), (.int .i64 0), (.int .i64 0), (.int .i64 0), (.int .i64 0), (.int .i64 0), (.int .i64 0), (.int .i64 0)] [(0, 1, .c (.int .i64 14))]⟩,
    ⟨some 71, some (68, true), .call F.ledger_Ledger_Do [.t 69, .t 70]⟩,
    ⟨some 72, some (68, true), .bin .eql (.t 71) (.c (.int .i64 0))⟩,
    ⟨some 73, none, .pick (.t 68) (.t 72) (.c (.bool false))⟩,
    ⟨some 74, none, .mov (.t 73)⟩,
    ⟨some 75, some (74, true), .mov (.t 1)⟩,
    ⟨some 76, some (74, true), .call F.ledger_Ledger_Free [.t 75]⟩,
    ⟨some 77, some (74, true), .bin .eql (.t 76) (.c (.int .i64 2))⟩,
    ⟨some 78, none, .pick (.t 74) (.t 77) (.c (.bool false))⟩,
    ⟨some 0, none, .mov (.t 78)⟩]
    [0])
  .ret)))))))⟩

def RC.ref29_New : RFn := ⟨1, [.cell 2 true 9],
  (.seq (.region [⟨some 1, none, .box (.t 0)⟩,
    ⟨some 2, none, .alloc [(.int .i64 0), (.int .i64 0), (.int .i64 0), (.int .i64 0), (.int .i64 0), (.slice none 0 0), (.slice none 0 0), (.slice none 0 0), (.int .i64 0)]⟩]
    [1, 2])
  (.seq (.drawn [⟨some 3, none, .load true 4 (.t 1)⟩,
    ⟨some 4, none, .fieldAddr 0 (.t 1)⟩,
    ⟨some 5, none, .load false 1 (.t 4)⟩,
    ⟨some 6, none, .build [(.int .i64 0), (.slice none 0 0), (.slice none 0 0)] [(0, 1, .t 5)]⟩,
    ⟨some 7, none, .fieldAddr 1 (.t 1)⟩,
    ⟨some 8, none, .load false 1 (.t 7)⟩,
    ⟨some 9, none, .call F.ref27_New [.t 8]⟩,
    ⟨some 10, none, .build [(.int .i64 0), (.int .i64 0), (.int .i64 0), (.int .i64 0), (.int .i64 0), (.slice none 0 0), (.slice none 0 0), (.slice none 0 0), (.int .i64 0)] [(0, 4, .t 3), (4, 3, .t 6), (7, 1, .t 9)]⟩,
    ⟨none, none, .store 9 (.t 2) (.t 10)⟩]
    [[], [], [1], [2], [], [4], [5], [0, 3, 6], [7, 6, 0, 1, 2, 3, 4, 5, 6, 7]]
    [(1, []), (4, []), (0, []), (2, []), (3, []), (5, []), (6, [1, 4]), (7, []), (8, [])]
    [[], [], [1], [1, 2], [], [4], [4, 5], [0, 1, 2, 3, 4, 5, 6], [0, 1, 2, 3, 4, 5, 6, 7]]
    [2])
  .ret))⟩

def RB.ref29_Do_1 : RCode :=
  (.seq (.seq (.region [⟨some 64, none, .mov (.t 8)⟩,
    ⟨some 65, none, .fieldAddr 7 (.t 3)⟩,
    ⟨some 66, none, .load false 1 (.t 65)⟩,
    ⟨some 67, none, .bin .lss (.t 64) (.t 66)⟩]
    [3, 4, 6, 8, 67])
  (.cond (.t 67)
    .skip
    (.exit 1)))
  (.seq (.block 2
    (.region [⟨some 70, none, .load true 9 (.t 6)⟩,
      ⟨some 71, none, .call F.ref29_tick [.t 70]⟩,
      ⟨none, none, .store 9 (.t 6) (.t 71)⟩]
      [3, 4, 6, 8]) [3, 4, 6, 8])
  (.region [⟨some 68, none, .mov (.t 8)⟩,
    ⟨some 69, none, .bin .add (.t 68) (.c (.int .i64 1))⟩,
    ⟨some 8, none, .mov (.t 69)⟩]
    [3, 4, 6, 8])))
def RC.ref29_Do : RFn := ⟨2, [.cell 4 true 9, .slot 5],
  (.seq (.region [⟨some 2, none, .box (.t 0)⟩,
    ⟨some 3, none, .box (.t 1)⟩,
    ⟨some 4, none, .alloc [(.int .i64 0), (.int .i64 0), (.int .i64 0), (.int .i64 0), (.int .i64 0), (.slice none 0 0), (.slice none 0 0), (.slice none 0 0), (.int .i64 0)]⟩,
    ⟨some 5, none, .mov (.c (.int .i64 0))⟩]
    [2, 3, 4])
  (.seq (.region [⟨some 11, none, .load true 9 (.t 2)⟩,
    ⟨some 6, none, .alloc [(.int .i64 0), (.int .i64 0), (.int .i64 0), (.int .i64 0), (.int .i64 0), (.slice none 0 0), (.slice none 0 0), (.slice none 0 0), (.int .i64 0)]⟩,
    ⟨none, none, .store 9 (.t 6) (.t 11)⟩]
    [2, 3, 4, 6])
  (.seq (.region [⟨some 7, none, .mov (.c (.int .i64 0))⟩]
    [2, 3, 4, 6])
  (.seq (.seq (.region [⟨some 12, none, .fieldAddr 0 (.t 3)⟩,
    ⟨some 13, none, .load false 1 (.t 12)⟩]
    [2, 3, 4, 6, 13])
  (.block 0
    (.seq (.region [⟨some 32, none, .bin .eql (.t 13) (.c (.int .i64 13))⟩,
      ⟨some 31, none, .mov (.t 32)⟩]
      [2, 3, 4, 6, 13, 31])
    (.cond (.t 31)
      (.region [⟨some 34, none, .fieldAddr 7 (.t 2)⟩,
        ⟨some 35, none, .load false 1 (.t 34)⟩,
        ⟨some 36, none, .fieldAddr 6 (.t 3)⟩,
        ⟨some 37, none, .load false 1 (.t 36)⟩,
        ⟨some 38, none, .call F.ref27_Plug [.t 35, .t 37]⟩,
        ⟨some 33, none, .mov (.t 38)⟩,
        ⟨some 39, none, .ext 0 (.t 33)⟩,
        ⟨some 40, none, .ext 1 (.t 33)⟩,
        ⟨some 41, none, .fieldAddr 7 (.t 6)⟩,
        ⟨none, none, .store 1 (.t 41) (.t 39)⟩,
        ⟨some 7, none, .mov (.t 40)⟩]
        [2, 4, 6, 7])
      (.seq (.region [⟨some 43, none, .bin .eql (.t 13) (.c (.int .i64 14))⟩,
        ⟨some 42, none, .mov (.t 43)⟩]
        [2, 3, 4, 6, 13, 42])
      (.cond (.t 42)
        (.region [⟨some 45, none, .fieldAddr 7 (.t 2)⟩,
          ⟨some 46, none, .load false 1 (.t 45)⟩,
          ⟨some 47, none, .fieldAddr 6 (.t 3)⟩,
          ⟨some 48, none, .load false 1 (.t 47)⟩,
          ⟨some 49, none, .call F.ref27_Unplug [.t 46, .t 48]⟩,
          ⟨some 44, none, .mov (.t 49)⟩,
          ⟨some 50, none, .ext 0 (.t 44)⟩,
          ⟨some 51, none, .ext 1 (.t 44)⟩,
          ⟨some 52, none, .fieldAddr 7 (.t 6)⟩,
          ⟨none, none, .store 1 (.t 52) (.t 50)⟩,
          ⟨some 7, none, .mov (.t 51)⟩]
          [2, 4, 6, 7])
        (.seq (.region [⟨some 54, none, .bin .eql (.t 13) (.c (.int .i64 16))⟩,
          ⟨some 53, none, .mov (.t 54)⟩]
          [2, 3, 4, 6, 13, 53])
        (.cond (.t 53)
          (.seq (.seq (.region [⟨some 55, none, .fieldAddr 7 (.t 3)⟩,
            ⟨some 56, none, .load false 1 (.t 55)⟩,
            ⟨some 57, none, .bin .lss (.t 56) (.c (.int .i64 1))⟩,
            ⟨some 58, none, .mov (.t 57)⟩,
            ⟨some 59, some (58, false), .fieldAddr 7 (.t 3)⟩,
            ⟨some 60, some (58, false), .load false 1 (.t 59)⟩,
            ⟨some 61, some (58, false), .bin .gtr (.t 60) (.c (.int .i64 1024))⟩,
            ⟨some 62, none, .pick (.t 58) (.c (.bool true)) (.t 61)⟩]
            [2, 3, 4, 6, 62])
          (.cond (.t 62)
            (.seq (.region [⟨some 63, none, .load true 9 (.t 2)⟩,
              ⟨none, none, .store 9 (.t 4) (.t 63)⟩,
              ⟨some 5, none, .mov (.c (.int .i64 1))⟩]
              [4, 5])
            .ret)
            .skip))
          (.seq (.seq (.region [⟨some 8, none, .mov (.c (.int .i64 0))⟩]
            [3, 4, 6, 8])
          (.block 1
            (.loop [3, 4, 6, 8] RB.ref29_Do_1) [4, 6]))
          (.seq (.region [⟨some 72, none, .load true 9 (.t 6)⟩,
            ⟨none, none, .store 9 (.t 4) (.t 72)⟩,
            ⟨some 5, none, .mov (.c (.int .i64 0))⟩]
            [4, 5])
          .ret)))
          (.seq (.region [⟨some 74, none, .bin .eql (.t 13) (.c (.int .i64 17))⟩,
            ⟨some 73, none, .mov (.t 74)⟩]
            [2, 3, 4, 6, 13, 73])
          (.cond (.t 73)
            (.seq (.region [⟨some 76, none, .fieldAddr 4 (.t 2)⟩,
              ⟨some 77, none, .load true 3 (.t 76)⟩,
              ⟨some 78, none, .fieldAddr 1 (.t 3)⟩,
              ⟨some 79, none, .load false 1 (.t 78)⟩,
              ⟨some 80, none, .call F.ref28_Find [.t 77, .t 79]⟩,
              ⟨some 75, none, .mov (.t 80)⟩,
              ⟨some 81, none, .ext 0 (.t 75)⟩,
              ⟨some 82, none, .ext 1 (.t 75)⟩,
              ⟨some 9, none, .alloc [(.int .i64 0), (.int .i64 0), (.int .i64 0), (.int .i64 0), (.int .i64 0), (.bool false)]⟩,
              ⟨none, none, .store 6 (.t 9) (.t 81)⟩,
              ⟨some 10, none, .mov (.t 82)⟩]
              [2, 4, 10])
            (.seq (.seq (.region [⟨some 83, none, .mov (.t 10)⟩,
              ⟨some 84, none, .un .not (.t 83)⟩]
              [2, 4, 84])
            (.cond (.t 84)
              (.seq (.region [⟨some 85, none, .load true 9 (.t 2)⟩,
                ⟨none, none, .store 9 (.t 4) (.t 85)⟩,
                ⟨some 5, none, .mov (.c (.int .i64 10))⟩]
                [4, 5])
              .ret)
              .skip))
            (.seq (.region [⟨some 86, none, .load true 9 (.t 2)⟩,
              ⟨none, none, .store 9 (.t 4) (.t 86)⟩,
              ⟨some 5, none, .mov (.c (.int .i64 0))⟩]
              [4, 5])
            .ret)))
            (.seq (.region [⟨some 88, none, .bin .eql (.t 13) (.c (.int .i64 15))⟩,
              ⟨some 87, none, .mov (.t 88)⟩]
              [2, 3, 4, 6, 87])
            (.cond (.t 87)
              (.seq (.region [⟨some 89, none, .load true 9 (.t 2)⟩,
                ⟨none, none, .store 9 (.t 4) (.t 89)⟩,
                ⟨some 5, none, .mov (.c (.int .i64 0))⟩]
                [4, 5])
              .ret)
              (.seq (.seq (.region [⟨some 14, none, .fieldAddr 0 (.t 3)⟩,
                ⟨some 15, none, .load false 1 (.t 14)⟩,
                ⟨some 16, none, .bin .lss (.t 15) (.c (.int .i64 1))⟩,
                ⟨some 17, none, .mov (.t 16)⟩,
                ⟨some 18, some (17, false), .fieldAddr 0 (.t 3)⟩,
                ⟨some 19, some (17, false), .load false 1 (.t 18)⟩,
                ⟨some 20, some (17, false), .bin .gtr (.t 19) (.c (.int .i64 12))⟩,
                ⟨some 21, none, .pick (.t 17) (.c (.bool true)) (.t 20)⟩]
                [2, 3, 4, 6, 21])
              (.cond (.t 21)
                (.seq (.region [⟨some 22, none, .load true 9 (.t 2)⟩,
                  ⟨none, none, .store 9 (.t 4) (.t 22)⟩,
                  ⟨some 5, none, .mov (.c (.int .i64 1))⟩]
                  [4, 5])
                .ret)
                .skip))
              (.region [⟨some 24, none, .fieldAddr 4 (.t 2)⟩,
                ⟨some 25, none, .load true 3 (.t 24)⟩,
                ⟨some 26, none, .load true 8 (.t 3)⟩,
                ⟨some 27, none, .call F.ref28_Do [.t 25, .t 26]⟩,
                ⟨some 23, none, .mov (.t 27)⟩,
                ⟨some 28, none, .ext 0 (.t 23)⟩,
                ⟨some 29, none, .ext 1 (.t 23)⟩,
                ⟨some 30, none, .fieldAddr 4 (.t 6)⟩,
                ⟨none, none, .store 3 (.t 30) (.t 28)⟩,
                ⟨some 7, none, .mov (.t 29)⟩]
                [2, 4, 6, 7])))))))))))) [2, 4, 6, 7]))
  (.seq (.seq (.region [⟨some 90, none, .mov (.t 7)⟩,
    ⟨some 91, none, .bin .neq (.t 90) (.c (.int .i64 0))⟩]
    [2, 4, 6, 7, 91])
  (.cond (.t 91)
    (.seq (.region [⟨some 92, none, .load true 9 (.t 2)⟩,
      ⟨some 93, none, .mov (.t 7)⟩,
      ⟨none, none, .store 9 (.t 4) (.t 92)⟩,
      ⟨some 5, none, .mov (.t 93)⟩]
      [4, 5])
    .ret)
    .skip))
  (.seq (.seq (.region [⟨some 94, none, .load true 9 (.t 6)⟩,
    ⟨some 95, none, .call F.ref29_Free [.t 94]⟩,
    ⟨some 96, none, .bin .lss (.t 95) (.c (.int .i64 0))⟩]
    [2, 4, 6, 96])
  (.cond (.t 96)
    (.seq (.region [⟨some 97, none, .load true 9 (.t 2)⟩,
      ⟨none, none, .store 9 (.t 4) (.t 97)⟩,
      ⟨some 5, none, .mov (.c (.int .i64 12))⟩]
      [4, 5])
    .ret)
    .skip))
  (.seq (.region [⟨some 98, none, .load true 9 (.t 6)⟩,
    ⟨none, none, .store 9 (.t 4) (.t 98)⟩,
    ⟨some 5, none, .mov (.c (.int .i64 0))⟩]
    [4, 5])
  .ret)))))))⟩

def RC.ledger_Ledger_Do : RFn := ⟨2, [.slot 4],
  (.seq (.region [⟨some 3, none, .box (.t 1)⟩,
    ⟨some 4, none, .mov (.c (.int .i64 0))⟩]
    [0, 3])
  (.seq (.seq (.region [⟨some 7, none, .mov (.t 0)⟩,
    ⟨some 8, none, .call F.ledger_Ledger_none [.t 7]⟩]
    [0, 3, 8])
  (.cond (.t 8)
    (.seq (.region [⟨some 4, none, .mov (.c (.int .i64 2))⟩]
      [4])
    .ret)
    .skip))
  (.seq (.block 0
    (.seq (.region [⟨some 10, none, .fieldAddr 0 (.t 3)⟩,
      ⟨some 11, none, .load false 1 (.t 10)⟩,
      ⟨some 12, none, .bin .geq (.t 11) (.c (.int .i64 1))⟩,
      ⟨some 13, none, .mov (.t 12)⟩,
      ⟨some 14, some (13, true), .fieldAddr 0 (.t 3)⟩,
      ⟨some 15, some (13, true), .load false 1 (.t 14)⟩,
      ⟨some 16, some (13, true), .bin .leq (.t 15) (.c (.int .i64 12))⟩,
      ⟨some 17, none, .pick (.t 13) (.t 16) (.c (.bool false))⟩,
      ⟨some 9, none, .mov (.t 17)⟩]
      [0, 3, 9])
    (.cond (.t 9)
      (.seq (.region [⟨some 18, none, .mov (.t 0)⟩,
        ⟨some 19, none, .load true 8 (.t 3)⟩,
        ⟨some 20, none, .call F.ledger_Ledger_tasks [.t 18, .t 19]⟩,
        ⟨some 4, none, .mov (.t 20)⟩]
        [4])
      .ret)
      (.seq (.region [⟨some 22, none, .fieldAddr 0 (.t 3)⟩,
        ⟨some 23, none, .load false 1 (.t 22)⟩,
        ⟨some 24, none, .bin .eql (.t 23) (.c (.int .i64 13))⟩,
        ⟨some 25, none, .mov (.t 24)⟩,
        ⟨some 26, some (25, false), .fieldAddr 0 (.t 3)⟩,
        ⟨some 27, some (25, false), .load false 1 (.t 26)⟩,
        ⟨some 28, some (25, false), .bin .eql (.t 27) (.c (.int .i64 14))⟩,
        ⟨some 29, none, .pick (.t 25) (.c (.bool true)) (.t 28)⟩,
        ⟨some 21, none, .mov (.t 29)⟩]
        [0, 3, 21])
      (.cond (.t 21)
        (.seq (.region [⟨some 30, none, .mov (.t 0)⟩,
          ⟨some 31, none, .load true 8 (.t 3)⟩,
          ⟨some 32, none, .call F.ledger_Ledger_plug [.t 30, .t 31]⟩,
          ⟨some 4, none, .mov (.t 32)⟩]
          [4])
        .ret)
        (.seq (.region [⟨some 34, none, .fieldAddr 0 (.t 3)⟩,
          ⟨some 35, none, .load false 1 (.t 34)⟩,
          ⟨some 36, none, .bin .eql (.t 35) (.c (.int .i64 16))⟩,
          ⟨some 33, none, .mov (.t 36)⟩]
          [0, 3, 33])
        (.cond (.t 33)
          (.seq (.region [⟨some 37, none, .mov (.t 0)⟩,
            ⟨some 38, none, .fieldAddr 7 (.t 3)⟩,
            ⟨some 39, none, .load false 1 (.t 38)⟩,
            ⟨some 40, none, .call F.ledger_Ledger_ticks [.t 37, .t 39]⟩,
            ⟨some 4, none, .mov (.t 40)⟩]
            [4])
          .ret)
          (.seq (.region [⟨some 42, none, .fieldAddr 0 (.t 3)⟩,
            ⟨some 43, none, .load false 1 (.t 42)⟩,
            ⟨some 44, none, .bin .eql (.t 43) (.c (.int .i64 17))⟩,
            ⟨some 41, none, .mov (.t 44)⟩]
            [0, 3, 41])
          (.cond (.t 41)
            (.seq (.seq (.drawn [⟨some 46, none, .mov (.t 0)⟩,
              ⟨some 47, none, .nilchk (.t 46)⟩,
              ⟨some 48, none, .fieldAddr 4 (.t 47)⟩,
              ⟨some 49, none, .load false 1 (.t 48)⟩,
              ⟨some 50, none, .fieldAddr 1 (.t 3)⟩,
              ⟨some 51, none, .load false 1 (.t 50)⟩,
              ⟨some 52, none, .call F.roster_Roster_Task [.t 49, .t 51]⟩,
              ⟨some 45, none, .mov (.t 52)⟩,
              ⟨some 53, none, .ext 0 (.t 45)⟩,
              ⟨some 54, none, .ext 1 (.t 45)⟩,
              ⟨some 5, none, .alloc [(.int .i64 0), (.int .i64 0), (.int .i64 0), (.int .i64 0), (.int .i64 0), (.bool false)]⟩,
              ⟨none, none, .store 6 (.t 5) (.t 53)⟩,
              ⟨some 6, none, .mov (.t 54)⟩]
              [[], [0], [1], [2], [], [4], [3, 5], [6], [7], [7], [], [10, 8, 6, 0, 1, 2, 3, 4, 5, 6, 7, 8, 10], [9, 11, 0, 1, 2, 3, 4, 5, 6, 7, 8, 9, 10, 11]]
              [(0, []), (1, []), (2, []), (4, []), (3, []), (5, []), (6, []), (7, []), (8, []), (9, []), (10, []), (11, []), (12, [])]
              [[], [0], [0, 1], [0, 1, 2], [], [4], [0, 1, 2, 3, 4, 5], [0, 1, 2, 3, 4, 5, 6], [0, 1, 2, 3, 4, 5, 6, 7], [0, 1, 2, 3, 4, 5, 6, 7], [], [0, 1, 2, 3, 4, 5, 6, 7, 8, 10], [0, 1, 2, 3, 4, 5, 6, 7, 8, 9, 10, 11]]
              [6])
            (.seq (.region [⟨some 55, none, .mov (.t 6)⟩,
              ⟨some 56, none, .un .not (.t 55)⟩]
              [56])
            (.cond (.t 56)
              (.seq (.region [⟨some 4, none, .mov (.c (.int .i64 10))⟩]
                [4])
              .ret)
              .skip)))
            (.seq (.region [⟨some 4, none, .mov (.c (.int .i64 0))⟩]
              [4])
            .ret))
            (.seq (.region [⟨some 58, none, .fieldAddr 0 (.t 3)⟩,
              ⟨some 59, none, .load false 1 (.t 58)⟩,
              ⟨some 60, none, .bin .eql (.t 59) (.c (.int .i64 15))⟩,
              ⟨some 57, none, .mov (.t 60)⟩]
              [57])
            (.cond (.t 57)
              (.seq (.region [⟨some 4, none, .mov (.c (.int .i64 0))⟩]
                [4])
              .ret)
              .skip)))))))))) [])
  (.seq (.region [⟨some 4, none, .mov (.c (.int .i64 1))⟩]
    [4])
  .ret))))⟩

def RB.law29_Alike_1 : RCode :=
  (.seq (.seq (.region [⟨some 39, none, .mov (.t 6)⟩,
    ⟨some 40, none, .fieldAddr 7 (.t 3)⟩,
    ⟨some 41, none, .load false 1 (.t 40)⟩,
    ⟨some 42, none, .len (.t 41)⟩,
    ⟨some 43, none, .bin .lss (.t 39) (.t 42)⟩]
    [3, 5, 6, 43])
  (.cond (.t 43)
    .skip
    (.exit 0)))
  (.seq (.block 1
    (.seq (.region [⟨some 47, none, .mov (.t 5)⟩,
      ⟨some 48, none, .mov (.t 6)⟩,
      ⟨some 49, none, .call F.cores_Set_State [.t 47, .t 48]⟩,
      ⟨some 46, none, .mov (.t 49)⟩,
      ⟨some 50, none, .ext 0 (.t 46)⟩,
      ⟨some 51, none, .ext 1 (.t 46)⟩,
      ⟨some 7, none, .mov (.t 50)⟩,
      ⟨some 8, none, .mov (.t 51)⟩]
      [3, 5, 6, 7])
    (.seq (.region [⟨some 52, none, .mov (.t 7)⟩,
      ⟨some 53, none, .fieldAddr 7 (.t 3)⟩,
      ⟨some 54, none, .load false 1 (.t 53)⟩,
      ⟨some 55, none, .mov (.t 6)⟩,
      ⟨some 56, none, .idxS 1 (.t 54) (.t 55)⟩,
      ⟨some 57, none, .load false 1 (.t 56)⟩,
      ⟨some 58, none, .bin .neq (.t 52) (.t 57)⟩]
      [3, 5, 6, 58])
    (.cond (.t 58)
      (.seq (.region [⟨some 4, none, .mov (.c (.bool false))⟩]
        [4])
      .ret)
      .skip))) [3, 5, 6])
  (.region [⟨some 44, none, .mov (.t 6)⟩,
    ⟨some 45, none, .bin .add (.t 44) (.c (.int .i64 1))⟩,
    ⟨some 6, none, .mov (.t 45)⟩]
    [3, 5, 6])))
def RC.law29_Alike : RFn := ⟨2, [.slot 4],
  (.seq (.region [⟨some 3, none, .box (.t 1)⟩,
    ⟨some 4, none, .mov (.c (.bool false))⟩]
    [0, 3])
  (.seq (.region [⟨some 9, none, .mov (.t 0)⟩,
    ⟨some 10, none, .call F.ledger_Ledger_Cores [.t 9]⟩,
    ⟨some 5, none, .mov (.t 10)⟩]
    [0, 3, 5])
  (.seq (.seq (.drawn [⟨some 11, none, .mov (.t 0)⟩,
    ⟨some 12, none, .call F.ledger_Ledger_Clock [.t 11]⟩,
    ⟨some 13, none, .fieldAddr 8 (.t 3)⟩,
    ⟨some 14, none, .load false 1 (.t 13)⟩,
    ⟨some 15, none, .bin .neq (.t 12) (.t 14)⟩,
    ⟨some 16, none, .mov (.t 15)⟩,
    ⟨some 17, some (16, false), .mov (.t 0)⟩,
    ⟨some 18, some (16, false), .call F.ledger_Ledger_Free [.t 17]⟩,
    ⟨some 19, some (16, false), .load true 9 (.t 3)⟩,
    ⟨some 20, some (16, false), .call F.ref29_Free [.t 19]⟩,
    ⟨some 21, some (16, false), .bin .neq (.t 18) (.t 20)⟩,
    ⟨some 22, none, .pick (.t 16) (.c (.bool true)) (.t 21)⟩,
    ⟨some 23, none, .mov (.t 22)⟩,
    ⟨some 24, some (23, false), .mov (.t 0)⟩,
    ⟨some 25, some (23, false), .call F.ledger_Ledger_Roster [.t 24]⟩,
    ⟨some 26, some (23, false), .fieldAddr 4 (.t 3)⟩,
    ⟨some 27, some (23, false), .load true 3 (.t 26)⟩,
    ⟨some 28, some (23, false), .call F.law28_Alike [.t 25, .t 27]⟩,
    ⟨some 29, some (23, false), .un .not (.t 28)⟩,
    ⟨some 30, none, .pick (.t 23) (.c (.bool true)) (.t 29)⟩,
    ⟨some 31, none, .mov (.t 30)⟩,
    ⟨some 32, some (31, false), .mov (.t 5)⟩,
    ⟨some 33, some (31, false), .call F.cores_Set_Len [.t 32]⟩,
    ⟨some 34, some (31, false), .fieldAddr 7 (.t 3)⟩,
    ⟨some 35, some (31, false), .load false 1 (.t 34)⟩,
    ⟨some 36, some (31, false), .len (.t 35)⟩,
    ⟨some 37, some (31, false), .bin .neq (.t 33) (.t 36)⟩,
    ⟨some 38, none, .pick (.t 31) (.c (.bool true)) (.t 37)⟩]
    [[], [0], [], [2], [1, 3], [4, 1], [5], [6, 5, 5], [5], [8, 7, 5], [7, 9, 5], [5, 10], [11, 9], [12], [13, 12, 12], [12], [15, 12], [14, 16, 14, 12], [17, 12], [12, 18], [19, 17], [20], [21, 20, 20], [20], [23, 20], [24, 20], [22, 25, 20], [20, 26]]
    [(0, []), (2, []), (3, []), (1, [13]), (4, []), (5, []), (6, []), (8, []), (7, [3]), (9, []), (10, []), (11, []), (12, []), (13, []), (15, []), (16, []), (14, [26]), (17, []), (18, []), (19, []), (20, []), (21, []), (23, []), (24, []), (25, []), (22, [34]), (26, []), (27, [])]
    [[], [0], [], [2], [0, 1, 2, 3], [0, 1, 2, 3, 4], [0, 1, 2, 3, 4, 5], [0, 1, 2, 3, 4, 5, 6], [0, 1, 2, 3, 4, 5], [0, 1, 2, 3, 4, 5, 6, 7, 8], [0, 1, 2, 3, 4, 5, 6, 7, 8, 9], [0, 1, 2, 3, 4, 5, 6, 7, 8, 9, 10], [0, 1, 2, 3, 4, 5, 6, 7, 8, 9, 10, 11], [0, 1, 2, 3, 4, 5, 6, 7, 8, 9, 10, 11, 12], [0, 1, 2, 3, 4, 5, 6, 7, 8, 9, 10, 11, 12, 13], [0, 1, 2, 3, 4, 5, 6, 7, 8, 9, 10, 11, 12], [0, 1, 2, 3, 4, 5, 6, 7, 8, 9, 10, 11, 12, 15], [0, 1, 2, 3, 4, 5, 6, 7, 8, 9, 10, 11, 12, 13, 14, 15, 16], [0, 1, 2, 3, 4, 5, 6, 7, 8, 9, 10, 11, 12, 13, 14, 15, 16, 17], [0, 1, 2, 3, 4, 5, 6, 7, 8, 9, 10, 11, 12, 13, 14, 15, 16, 17, 18], [0, 1, 2, 3, 4, 5, 6, 7, 8, 9, 10, 11, 12, 13, 14, 15, 16, 17, 18, 19], [0, 1, 2, 3, 4, 5, 6, 7, 8, 9, 10, 11, 12, 13, 14, 15, 16, 17, 18, 19, 20], [0, 1, 2, 3, 4, 5, 6, 7, 8, 9, 10, 11, 12, 13, 14, 15, 16, 17, 18, 19, 20, 21], [0, 1, 2, 3, 4, 5, 6, 7, 8, 9, 10, 11, 12, 13, 14, 15, 16, 17, 18, 19, 20], [0, 1, 2, 3, 4, 5, 6, 7, 8, 9, 10, 11, 12, 13, 14, 15, 16, 17, 18, 19, 20, 23], [0, 1, 2, 3, 4, 5, 6, 7, 8, 9, 10, 11, 12, 13, 14, 15, 16, 17, 18, 19, 20, 23, 24], [0, 1, 2, 3, 4, 5, 6, 7, 8, 9, 10, 11, 12, 13, 14, 15, 16, 17, 18, 19, 20, 21, 22, 23, 24, 25], [0, 1, 2, 3, 4, 5, 6, 7, 8, 9, 10, 11, 12, 13, 14, 15, 16, 17, 18, 19, 20, 21, 22, 23, 24, 25, 26]]
    [3, 5, 38])
  (.cond (.t 38)
    (.seq (.region [⟨some 4, none, .mov (.c (.bool false))⟩]
      [4])
    .ret)
    .skip))
  (.seq (.seq (.region [⟨some 6, none, .mov (.c (.int .i64 0))⟩]
    [3, 5, 6])
  (.block 0
    (.loop [3, 5, 6] RB.law29_Alike_1) []))
  (.seq (.region [⟨some 4, none, .mov (.c (.bool true))⟩]
    [4])
  .ret)))))⟩

def RC.ledger_Ledger_Fork : RFn := ⟨1, [.slot 2],
  (.seq (.region [⟨some 2, none, .mov (.c (.pointer none))⟩]
    [0])
  (.seq (.seq (.region [⟨some 3, none, .mov (.t 0)⟩,
    ⟨some 4, none, .call F.ledger_Ledger_none [.t 3]⟩]
    [0, 4])
  (.cond (.t 4)
    (.seq (.region [⟨some 2, none, .mov (.c (.pointer none))⟩]
      [2])
    .ret)
    .skip))
  (.seq (.drawn [⟨some 5, none, .mov (.t 0)⟩,
    ⟨some 6, none, .nilchk (.t 5)⟩,
    ⟨some 7, none, .fieldAddr 0 (.t 6)⟩,
    ⟨some 8, none, .load true 4 (.t 7)⟩,
    ⟨some 9, none, .mov (.t 0)⟩,
    ⟨some 10, none, .nilchk (.t 9)⟩,
    ⟨some 11, none, .fieldAddr 4 (.t 10)⟩,
    ⟨some 12, none, .load false 1 (.t 11)⟩,
    ⟨some 13, none, .call F.roster_Roster_Fork [.t 12]⟩,
    ⟨some 14, none, .mov (.t 0)⟩,
    ⟨some 15, none, .nilchk (.t 14)⟩,
    ⟨some 16, none, .fieldAddr 5 (.t 15)⟩,
    ⟨some 17, none, .load false 1 (.t 16)⟩,
    ⟨some 18, none, .call F.cores_Set_Fork [.t 17]⟩,
    ⟨some 19, none, .mov (.t 0)⟩,
    ⟨some 20, none, .nilchk (.t 19)⟩,
    ⟨some 21, none, .fieldAddr 6 (.t 20)⟩,
    ⟨some 22, none, .load false 1 (.t 21)⟩,
    ⟨some 23, none, .build [(.int .i64 0), (.int .i64 0), (.int .i64 0), (.int .i64 0), (.pointer none), (.pointer none), (.int .i64 0)] [(0, 4, .t 8), (4, 1, .t 13), (5, 1, .t 18), (6, 1, .t 22)]⟩,
    ⟨some 24, none, .box (.t 23)⟩,
    ⟨some 2, none, .mov (.t 24)⟩]
    [[], [0], [1], [2], [], [4], [5], [6], [7], [], [9], [10], [11], [12, 8], [], [14], [15], [16], [3, 8, 13, 17], [18], [19, 13, 0, 1, 2, 3, 4, 5, 6, 7, 8, 9, 10, 11, 12, 13, 14, 15, 16, 17, 18, 19]]
    [(0, []), (1, []), (2, []), (4, []), (5, []), (6, []), (9, []), (10, []), (11, []), (14, []), (15, []), (16, []), (3, []), (7, []), (12, []), (17, []), (8, [7, 16, 21]), (13, [7, 21]), (18, []), (19, []), (20, [])]
    [[], [0], [0, 1], [0, 1, 2], [], [4], [4, 5], [4, 5, 6], [4, 5, 6, 7], [], [9], [9, 10], [9, 10, 11], [4, 5, 6, 7, 8, 9, 10, 11, 12], [], [14], [14, 15], [14, 15, 16], [0, 1, 2, 3, 4, 5, 6, 7, 8, 9, 10, 11, 12, 13, 14, 15, 16, 17], [0, 1, 2, 3, 4, 5, 6, 7, 8, 9, 10, 11, 12, 13, 14, 15, 16, 17, 18], [0, 1, 2, 3, 4, 5, 6, 7, 8, 9, 10, 11, 12, 13, 14, 15, 16, 17, 18, 19]]
    [2])
  .ret)))⟩

def RC.ledger_Ledger_Roster : RFn := ⟨1, [.slot 2],
  (.seq (.region [⟨some 2, none, .mov (.c (.pointer none))⟩]
    [0])
  (.seq (.seq (.region [⟨some 3, none, .mov (.t 0)⟩,
    ⟨some 4, none, .call F.ledger_Ledger_none [.t 3]⟩]
    [0, 4])
  (.cond (.t 4)
    (.seq (.region [⟨some 2, none, .mov (.c (.pointer none))⟩]
      [2])
    .ret)
    .skip))
  (.seq (.region [⟨some 5, none, .mov (.t 0)⟩,
    ⟨some 6, none, .nilchk (.t 5)⟩,
    ⟨some 7, none, .fieldAddr 4 (.t 6)⟩,
    ⟨some 8, none, .load false 1 (.t 7)⟩,
    ⟨some 9, none, .call F.roster_Roster_Fork [.t 8]⟩,
    ⟨some 2, none, .mov (.t 9)⟩]
    [2])
  .ret)))⟩

def RC.roster_Roster_Depart : RFn := ⟨2, [.slot 4],
  (.seq (.region [⟨some 4, none, .mov (.c (.int .i64 0))⟩]
    [0, 1])
  (.seq (.region [⟨some 8, none, .mov (.t 0)⟩,
    ⟨some 9, none, .mov (.t 1)⟩,
    ⟨some 10, none, .call F.roster_Roster_one [.t 8, .t 9]⟩,
    ⟨some 7, none, .mov (.t 10)⟩,
    ⟨some 11, none, .ext 0 (.t 7)⟩,
    ⟨some 12, none, .ext 1 (.t 7)⟩,
    ⟨some 5, none, .alloc [(.int .i64 0), (.int .i64 0), (.int .i64 0), (.int .i64 0), (.int .i64 0), (.bool false)]⟩,
    ⟨none, none, .store 6 (.t 5) (.t 11)⟩,
    ⟨some 6, none, .mov (.t 12)⟩]
    [0, 1, 5, 6])
  (.seq (.seq (.region [⟨some 13, none, .mov (.t 6)⟩,
    ⟨some 14, none, .bin .neq (.t 13) (.c (.int .i64 0))⟩]
    [0, 1, 5, 6, 14])
  (.cond (.t 14)
    (.seq (.region [⟨some 15, none, .mov (.t 6)⟩,
      ⟨some 4, none, .mov (.t 15)⟩]
      [4])
    .ret)
    .skip))
  (.seq (.region [⟨some 16, none, .mov (.t 0)⟩,
    ⟨some 17, none, .fieldAddr 1 (.t 5)⟩,
    ⟨some 18, none, .load false 1 (.t 17)⟩,
    ⟨some 19, none, .call F.roster_Roster_count [.t 16, .t 18, .c (.int .i64 (-1))]⟩]
    [0, 1])
  (.seq (.region [⟨some 20, none, .mov (.t 0)⟩,
    ⟨some 21, none, .nilchk (.t 20)⟩,
    ⟨some 22, none, .fieldAddr 1 (.t 21)⟩,
    ⟨some 23, none, .load false 1 (.t 22)⟩,
    ⟨some 24, none, .mov (.t 1)⟩,
    ⟨none, none, .del .int (.t 23) (.t 24)⟩]
    [])
  (.seq (.region [⟨some 4, none, .mov (.c (.int .i64 0))⟩]
    [4])
  .ret))))))⟩

def RC.ledger_Ledger_Cores : RFn := ⟨1, [.slot 2],
  (.seq (.region [⟨some 2, none, .mov (.c (.pointer none))⟩]
    [0])
  (.seq (.seq (.region [⟨some 3, none, .mov (.t 0)⟩,
    ⟨some 4, none, .call F.ledger_Ledger_none [.t 3]⟩]
    [0, 4])
  (.cond (.t 4)
    (.seq (.region [⟨some 2, none, .mov (.c (.pointer none))⟩]
      [2])
    .ret)
    .skip))
  (.seq (.region [⟨some 5, none, .mov (.t 0)⟩,
    ⟨some 6, none, .nilchk (.t 5)⟩,
    ⟨some 7, none, .fieldAddr 5 (.t 6)⟩,
    ⟨some 8, none, .load false 1 (.t 7)⟩,
    ⟨some 9, none, .call F.cores_Set_Fork [.t 8]⟩,
    ⟨some 2, none, .mov (.t 9)⟩]
    [2])
  .ret)))⟩

def RB.cores_Set_Turn_1 : RCode :=
  (.seq (.region [⟨some 14, none, .bin .lss (.t 13) (.t 12)⟩]
    [0, 2, 3, 11, 12, 13, 14])
  (.seq (.cond (.t 14)
    .skip
    (.exit 0))
  (.seq (.block 1
    (.seq (.region [⟨some 15, none, .mov (.t 13)⟩,
      ⟨some 16, none, .idxS 1 (.t 11) (.t 13)⟩,
      ⟨some 17, none, .load false 1 (.t 16)⟩,
      ⟨some 4, none, .mov (.t 15)⟩,
      ⟨some 5, none, .mov (.t 17)⟩]
      [0, 2, 3, 4, 5, 11, 12, 13])
    (.seq (.region [⟨some 18, none, .mov (.t 5)⟩]
      [0, 2, 3, 4, 11, 12, 13, 18])
    (.block 2
      (.seq (.region [⟨some 20, none, .bin .eql (.t 18) (.c (.int .i64 4))⟩,
        ⟨some 19, none, .mov (.t 20)⟩]
        [0, 2, 3, 4, 11, 12, 13, 18, 19])
      (.cond (.t 19)
        (.seq (.region [⟨some 21, none, .mov (.t 0)⟩,
          ⟨some 22, none, .nilchk (.t 21)⟩,
          ⟨some 23, none, .fieldAddr 0 (.t 22)⟩,
          ⟨some 24, none, .load false 1 (.t 23)⟩,
          ⟨some 25, none, .mov (.t 4)⟩,
          ⟨some 26, none, .idxS 1 (.t 24) (.t 25)⟩,
          ⟨none, none, .store 1 (.t 26) (.c (.int .i64 1))⟩]
          [0, 2, 3, 4, 11, 12, 13])
        (.region [⟨some 27, none, .mov (.t 2)⟩,
          ⟨some 28, none, .mov (.t 4)⟩,
          ⟨some 29, none, .bin .shl (.c (u32 1#32)) (.t 28)⟩,
          ⟨some 30, none, .bin .or (.t 27) (.t 29)⟩,
          ⟨some 2, none, .mov (.t 30)⟩]
          [0, 2, 3, 11, 12, 13]))
        (.seq (.region [⟨some 32, none, .bin .eql (.t 18) (.c (.int .i64 2))⟩,
          ⟨some 31, none, .mov (.t 32)⟩]
          [0, 2, 3, 4, 11, 12, 13, 18, 31])
        (.cond (.t 31)
          (.seq (.region [⟨some 33, none, .mov (.t 0)⟩,
            ⟨some 34, none, .nilchk (.t 33)⟩,
            ⟨some 35, none, .fieldAddr 0 (.t 34)⟩,
            ⟨some 36, none, .load false 1 (.t 35)⟩,
            ⟨some 37, none, .mov (.t 4)⟩,
            ⟨some 38, none, .idxS 1 (.t 36) (.t 37)⟩,
            ⟨none, none, .store 1 (.t 38) (.c (.int .i64 3))⟩]
            [0, 2, 3, 4, 11, 12, 13])
          (.region [⟨some 39, none, .mov (.t 3)⟩,
            ⟨some 40, none, .mov (.t 4)⟩,
            ⟨some 41, none, .bin .shl (.c (u32 1#32)) (.t 40)⟩,
            ⟨some 42, none, .bin .or (.t 39) (.t 41)⟩,
            ⟨some 3, none, .mov (.t 42)⟩]
            [0, 2, 3, 11, 12, 13]))
          (.seq (.region [⟨some 44, none, .bin .eql (.t 18) (.c (.int .i64 3))⟩,
            ⟨some 43, none, .mov (.t 44)⟩]
            [0, 2, 3, 4, 11, 12, 13, 43])
          (.cond (.t 43)
            (.region [⟨some 45, none, .mov (.t 0)⟩,
              ⟨some 46, none, .nilchk (.t 45)⟩,
              ⟨some 47, none, .fieldAddr 0 (.t 46)⟩,
              ⟨some 48, none, .load false 1 (.t 47)⟩,
              ⟨some 49, none, .mov (.t 4)⟩,
              ⟨some 50, none, .idxS 1 (.t 48) (.t 49)⟩,
              ⟨none, none, .store 1 (.t 50) (.c (.int .i64 0))⟩]
              [0, 2, 3, 11, 12, 13])
            .skip)))))) [0, 2, 3, 11, 12, 13]))) [0, 2, 3, 11, 12, 13])
  (.region [⟨some 51, none, .bin .add (.t 13) (.c (.int .i64 1))⟩,
    ⟨some 13, none, .mov (.t 51)⟩]
    [0, 2, 3, 11, 12, 13]))))
def RC.cores_Set_Turn : RFn := ⟨1, [.slot 2, .slot 3],
  (.seq (.region [⟨some 2, none, .mov (.c (u32 0#32))⟩,
    ⟨some 3, none, .mov (.c (u32 0#32))⟩]
    [0, 2, 3])
  (.seq (.seq (.region [⟨some 6, none, .mov (.t 0)⟩,
    ⟨some 7, none, .eq false .ptr (.t 6) (.c (.pointer none))⟩]
    [0, 2, 3, 7])
  (.cond (.t 7)
    (.seq (.region [⟨some 2, none, .mov (.c (u32 0#32))⟩,
      ⟨some 3, none, .mov (.c (u32 0#32))⟩]
      [2, 3])
    .ret)
    .skip))
  (.seq (.seq (.region [⟨some 8, none, .mov (.t 0)⟩,
    ⟨some 9, none, .nilchk (.t 8)⟩,
    ⟨some 10, none, .fieldAddr 0 (.t 9)⟩,
    ⟨some 11, none, .load false 1 (.t 10)⟩,
    ⟨some 12, none, .len (.t 11)⟩,
    ⟨some 13, none, .mov (.c (.int .i64 0))⟩]
    [0, 2, 3, 11, 12, 13])
  (.block 0
    (.loop [0, 2, 3, 11, 12, 13] RB.cores_Set_Turn_1) [2, 3]))
  (.seq (.region [⟨some 52, none, .mov (.t 2)⟩,
    ⟨some 53, none, .mov (.t 3)⟩,
    ⟨some 2, none, .mov (.t 52)⟩,
    ⟨some 3, none, .mov (.t 53)⟩]
    [2, 3])
  .ret))))⟩

def RB.ref27_Turn_1 : RCode :=
  (.seq (.seq (.region [⟨some 7, none, .mov (.t 4)⟩,
    ⟨some 8, none, .mov (.t 0)⟩,
    ⟨some 9, none, .len (.t 8)⟩,
    ⟨some 10, none, .bin .lss (.t 7) (.t 9)⟩]
    [0, 3, 4, 10])
  (.cond (.t 10)
    .skip
    (.exit 0)))
  (.seq (.block 1
    (.seq (.region [⟨some 13, none, .mov (.t 0)⟩,
      ⟨some 14, none, .mov (.t 4)⟩,
      ⟨some 15, none, .idxS 1 (.t 13) (.t 14)⟩,
      ⟨some 16, none, .load false 1 (.t 15)⟩,
      ⟨some 5, none, .mov (.t 16)⟩]
      [0, 3, 4, 5])
    (.seq (.seq (.region [⟨some 17, none, .mov (.t 0)⟩,
      ⟨some 18, none, .mov (.t 4)⟩,
      ⟨some 19, none, .idxS 1 (.t 17) (.t 18)⟩,
      ⟨some 20, none, .load false 1 (.t 19)⟩]
      [0, 3, 4, 5, 20])
    (.block 2
      (.seq (.region [⟨some 22, none, .bin .eql (.t 20) (.c (.int .i64 2))⟩,
        ⟨some 21, none, .mov (.t 22)⟩]
        [0, 3, 4, 5, 20, 21])
      (.cond (.t 21)
        (.region [⟨some 5, none, .mov (.c (.int .i64 3))⟩]
          [0, 3, 4, 5])
        (.seq (.region [⟨some 24, none, .bin .eql (.t 20) (.c (.int .i64 3))⟩,
          ⟨some 23, none, .mov (.t 24)⟩]
          [0, 3, 4, 5, 20, 23])
        (.cond (.t 23)
          (.region [⟨some 5, none, .mov (.c (.int .i64 0))⟩]
            [0, 3, 4, 5])
          (.seq (.region [⟨some 26, none, .bin .eql (.t 20) (.c (.int .i64 4))⟩,
            ⟨some 25, none, .mov (.t 26)⟩]
            [0, 3, 4, 5, 25])
          (.cond (.t 25)
            (.region [⟨some 5, none, .mov (.c (.int .i64 1))⟩]
              [0, 3, 4, 5])
            .skip)))))) [0, 3, 4, 5]))
    (.region [⟨some 27, none, .mov (.t 3)⟩,
      ⟨some 28, none, .mov (.t 5)⟩,
      ⟨some 29, none, .bslice [(.int .i64 0)] [(0, 1, .t 28)] 1 1⟩,
      ⟨some 30, none, .app 1 8 (.t 27) (.t 29)⟩,
      ⟨some 3, none, .mov (.t 30)⟩]
      [0, 3, 4]))) [0, 3, 4])
  (.region [⟨some 11, none, .mov (.t 4)⟩,
    ⟨some 12, none, .bin .add (.t 11) (.c (.int .i64 1))⟩,
    ⟨some 4, none, .mov (.t 12)⟩]
    [0, 3, 4])))
def RC.ref27_Turn : RFn := ⟨1, [.slot 2],
  (.seq (.region [⟨some 2, none, .mov (.c (.slice none 0 0))⟩]
    [0])
  (.seq (.region [⟨some 6, none, .bslice [] [] 0 1⟩,
    ⟨some 3, none, .mov (.t 6)⟩]
    [0, 3])
  (.seq (.seq (.region [⟨some 4, none, .mov (.c (.int .i64 0))⟩]
    [0, 3, 4])
  (.block 0
    (.loop [0, 3, 4] RB.ref27_Turn_1) [3]))
  (.seq (.region [⟨some 31, none, .mov (.t 3)⟩,
    ⟨some 2, none, .mov (.t 31)⟩]
    [2])
  .ret))))⟩

def RC.roster_New : RFn := ⟨1, [.slot 2, .slot 3],
  (.seq (.region [⟨some 2, none, .mov (.c (.pointer none))⟩,
    ⟨some 3, none, .mov (.c (.int .i64 0))⟩]
    [0])
  (.seq (.seq (.region [⟨some 4, none, .mov (.t 0)⟩,
    ⟨some 5, none, .bin .lss (.t 4) (.c (.int .i64 2))⟩,
    ⟨some 6, none, .mov (.t 5)⟩,
    ⟨some 7, some (6, false), .mov (.t 0)⟩,
    ⟨some 8, some (6, false), .bin .gtr (.t 7) (.c (.int .i64 64))⟩,
    ⟨some 9, none, .pick (.t 6) (.c (.bool true)) (.t 8)⟩]
    [0, 9])
  (.cond (.t 9)
    (.seq (.region [⟨some 2, none, .mov (.c (.pointer none))⟩,
      ⟨some 3, none, .mov (.c (.int .i64 1))⟩]
      [2, 3])
    .ret)
    .skip))
  (.seq (.region [⟨some 10, none, .mov (.t 0)⟩,
    ⟨some 11, none, .mkmap⟩,
    ⟨some 12, none, .mkmap⟩,
    ⟨some 13, none, .build [(.int .i64 0), (.map none), (.map none)] [(0, 1, .t 10), (1, 1, .t 11), (2, 1, .t 12)]⟩,
    ⟨some 14, none, .box (.t 13)⟩,
    ⟨some 2, none, .mov (.t 14)⟩,
    ⟨some 3, none, .mov (.c (.int .i64 0))⟩]
    [2, 3])
  .ret)))⟩

def RC.cores_New : RFn := ⟨1, [.slot 2, .slot 3],
  (.seq (.region [⟨some 2, none, .mov (.c (.pointer none))⟩,
    ⟨some 3, none, .mov (.c (.int .i64 0))⟩]
    [0])
  (.seq (.seq (.region [⟨some 4, none, .mov (.t 0)⟩,
    ⟨some 5, none, .bin .lss (.t 4) (.c (.int .i64 1))⟩,
    ⟨some 6, none, .mov (.t 5)⟩,
    ⟨some 7, some (6, false), .mov (.t 0)⟩,
    ⟨some 8, some (6, false), .bin .gtr (.t 7) (.c (.int .i64 16))⟩,
    ⟨some 9, none, .pick (.t 6) (.c (.bool true)) (.t 8)⟩]
    [0, 9])
  (.cond (.t 9)
    (.seq (.region [⟨some 2, none, .mov (.c (.pointer none))⟩,
      ⟨some 3, none, .mov (.c (.int .i64 1))⟩]
      [2, 3])
    .ret)
    .skip))
  (.seq (.region [⟨some 10, none, .bslice [(.int .i64 0)] [(0, 1, .c (.int .i64 1))] 1 1⟩,
    ⟨some 11, none, .mov (.t 0)⟩,
    ⟨some 12, none, .call F.slices_Repeat_int_int [.t 10, .t 11]⟩,
    ⟨some 13, none, .build [(.slice none 0 0)] [(0, 1, .t 12)]⟩,
    ⟨some 14, none, .box (.t 13)⟩,
    ⟨some 2, none, .mov (.t 14)⟩,
    ⟨some 3, none, .mov (.c (.int .i64 0))⟩]
    [2, 3])
  .ret)))⟩

def RC.law29_Fit : RFn := ⟨0, [.cell 0 true 4],
  (.seq (.region [⟨some 0, none, .alloc [(.int .i64 0), (.int .i64 0), (.int .i64 0), (.int .i64 0)]⟩]
    [0])
  (.seq (.region [⟨some 1, none, .build [(.int .i64 0), (.int .i64 0), (.int .i64 0), (.int .i64 0)] [(0, 1, .c (.int .i64 4)), (1, 1, .c (.int .i64 2)), (2, 1, .c (.int .i64 1)), (3, 1, .c (.int .i64 2048))]⟩,
    ⟨none, none, .store 4 (.t 0) (.t 1)⟩]
    [0])
  .ret))⟩

def RC.ledger_Ledger_Free : RFn := ⟨1, [.slot 2],
  (.seq (.region [⟨some 2, none, .mov (.c (.int .i64 0))⟩]
    [0])
  (.seq (.seq (.region [⟨some 3, none, .mov (.t 0)⟩,
    ⟨some 4, none, .call F.ledger_Ledger_none [.t 3]⟩]
    [0, 4])
  (.cond (.t 4)
    (.seq (.region [⟨some 2, none, .mov (.c (.int .i64 0))⟩]
      [2])
    .ret)
    .skip))
  (.seq (.drawn [⟨some 5, none, .mov (.t 0)⟩,
    ⟨some 6, none, .nilchk (.t 5)⟩,
    ⟨some 7, none, .fieldAddr 0 (.t 6)⟩,
    ⟨some 8, none, .fieldAddr 0 (.t 7)⟩,
    ⟨some 9, none, .load false 1 (.t 8)⟩,
    ⟨some 10, none, .mov (.t 0)⟩,
    ⟨some 11, none, .nilchk (.t 10)⟩,
    ⟨some 12, none, .fieldAddr 5 (.t 11)⟩,
    ⟨some 13, none, .load false 1 (.t 12)⟩,
    ⟨some 14, none, .bslice [(.int .i64 0)] [(0, 1, .c (.int .i64 1))] 1 1⟩,
    ⟨some 15, none, .call F.cores_Set_Count [.t 13, .t 14]⟩,
    ⟨some 16, none, .bin .mul (.t 9) (.t 15)⟩,
    ⟨some 17, none, .mov (.t 0)⟩,
    ⟨some 18, none, .nilchk (.t 17)⟩,
    ⟨some 19, none, .fieldAddr 4 (.t 18)⟩,
    ⟨some 20, none, .load false 1 (.t 19)⟩,
    ⟨some 21, none, .call F.roster_Roster_Total [.t 20]⟩,
    ⟨some 22, none, .bin .sub (.t 16) (.t 21)⟩,
    ⟨some 2, none, .mov (.t 22)⟩]
    [[], [0], [1], [2], [3], [], [5], [6], [7], [], [8, 9], [4, 10], [], [12], [13], [14], [15, 10], [11, 16], [17, 16, 0, 1, 2, 3, 4, 5, 6, 7, 8, 9, 10, 11, 12, 13, 14, 15, 16, 17]]
    [(0, []), (1, []), (2, []), (3, []), (5, []), (6, []), (7, []), (12, []), (13, []), (14, []), (4, []), (8, []), (15, []), (9, []), (10, [8, 19]), (11, []), (16, [8]), (17, []), (18, [])]
    [[], [0], [0, 1], [0, 1, 2], [0, 1, 2, 3], [], [5], [5, 6], [5, 6, 7], [], [5, 6, 7, 8, 9], [0, 1, 2, 3, 4, 5, 6, 7, 8, 9, 10], [], [12], [12, 13], [12, 13, 14], [5, 6, 7, 8, 9, 10, 12, 13, 14, 15], [0, 1, 2, 3, 4, 5, 6, 7, 8, 9, 10, 11, 12, 13, 14, 15, 16], [0, 1, 2, 3, 4, 5, 6, 7, 8, 9, 10, 11, 12, 13, 14, 15, 16, 17]]
    [2])
  .ret)))⟩

def RB.ref27_New_1 : RCode :=
  (.seq (.seq (.region [⟨some 6, none, .mov (.t 4)⟩,
    ⟨some 7, none, .mov (.t 0)⟩,
    ⟨some 8, none, .bin .lss (.t 6) (.t 7)⟩]
    [0, 3, 4, 8])
  (.cond (.t 8)
    .skip
    (.exit 0)))
  (.seq (.block 1
    (.region [⟨some 11, none, .mov (.t 3)⟩,
      ⟨some 12, none, .bslice [(.int .i64 0)] [(0, 1, .c (.int .i64 1))] 1 1⟩,
      ⟨some 13, none, .app 1 8 (.t 11) (.t 12)⟩,
      ⟨some 3, none, .mov (.t 13)⟩]
      [0, 3, 4]) [0, 3, 4])
  (.region [⟨some 9, none, .mov (.t 4)⟩,
    ⟨some 10, none, .bin .add (.t 9) (.c (.int .i64 1))⟩,
    ⟨some 4, none, .mov (.t 10)⟩]
    [0, 3, 4])))
def RC.ref27_New : RFn := ⟨1, [.slot 2],
  (.seq (.region [⟨some 2, none, .mov (.c (.slice none 0 0))⟩]
    [0])
  (.seq (.region [⟨some 5, none, .bslice [] [] 0 1⟩,
    ⟨some 3, none, .mov (.t 5)⟩]
    [0, 3])
  (.seq (.seq (.region [⟨some 4, none, .mov (.c (.int .i64 0))⟩]
    [0, 3, 4])
  (.block 0
    (.loop [0, 3, 4] RB.ref27_New_1) [3]))
  (.seq (.region [⟨some 14, none, .mov (.t 3)⟩,
    ⟨some 2, none, .mov (.t 14)⟩]
    [2])
  .ret))))⟩

def RC.ref27_Plug : RFn := ⟨2, [.slot 4, .slot 5],
  (.seq (.region [⟨some 4, none, .mov (.c (.slice none 0 0))⟩,
    ⟨some 5, none, .mov (.c (.int .i64 0))⟩]
    [0, 1])
  (.seq (.seq (.region [⟨some 6, none, .mov (.t 1)⟩,
    ⟨some 7, none, .bin .lss (.t 6) (.c (.int .i64 0))⟩,
    ⟨some 8, none, .mov (.t 7)⟩,
    ⟨some 9, some (8, false), .mov (.t 1)⟩,
    ⟨some 10, some (8, false), .mov (.t 0)⟩,
    ⟨some 11, some (8, false), .len (.t 10)⟩,
    ⟨some 12, some (8, false), .bin .geq (.t 9) (.t 11)⟩,
    ⟨some 13, none, .pick (.t 8) (.c (.bool true)) (.t 12)⟩]
    [0, 1, 13])
  (.cond (.t 13)
    (.seq (.region [⟨some 14, none, .mov (.t 0)⟩,
      ⟨some 4, none, .mov (.t 14)⟩,
      ⟨some 5, none, .mov (.c (.int .i64 24))⟩]
      [4, 5])
    .ret)
    .skip))
  (.seq (.seq (.region [⟨some 15, none, .mov (.t 0)⟩,
    ⟨some 16, none, .mov (.t 1)⟩,
    ⟨some 17, none, .idxS 1 (.t 15) (.t 16)⟩,
    ⟨some 18, none, .load false 1 (.t 17)⟩,
    ⟨some 19, none, .bin .neq (.t 18) (.c (.int .i64 0))⟩]
    [0, 1, 19])
  (.cond (.t 19)
    (.seq (.region [⟨some 20, none, .mov (.t 0)⟩,
      ⟨some 4, none, .mov (.t 20)⟩,
      ⟨some 5, none, .mov (.c (.int .i64 15))⟩]
      [4, 5])
    .ret)
    .skip))
  (.seq (.region [⟨some 21, none, .mov (.t 0)⟩,
    ⟨some 22, none, .mov (.t 1)⟩,
    ⟨some 23, none, .call F.ref27_with [.t 21, .t 22, .c (.int .i64 4)]⟩,
    ⟨some 4, none, .mov (.t 23)⟩,
    ⟨some 5, none, .mov (.c (.int .i64 0))⟩]
    [4, 5])
  .ret))))⟩

def RC.ref27_Unplug : RFn := ⟨2, [.slot 4, .slot 5],
  (.seq (.region [⟨some 4, none, .mov (.c (.slice none 0 0))⟩,
    ⟨some 5, none, .mov (.c (.int .i64 0))⟩]
    [0, 1])
  (.seq (.seq (.region [⟨some 6, none, .mov (.t 1)⟩,
    ⟨some 7, none, .bin .lss (.t 6) (.c (.int .i64 0))⟩,
    ⟨some 8, none, .mov (.t 7)⟩,
    ⟨some 9, some (8, false), .mov (.t 1)⟩,
    ⟨some 10, some (8, false), .mov (.t 0)⟩,
    ⟨some 11, some (8, false), .len (.t 10)⟩,
    ⟨some 12, some (8, false), .bin .geq (.t 9) (.t 11)⟩,
    ⟨some 13, none, .pick (.t 8) (.c (.bool true)) (.t 12)⟩]
    [0, 1, 13])
  (.cond (.t 13)
    (.seq (.region [⟨some 14, none, .mov (.t 0)⟩,
      ⟨some 4, none, .mov (.t 14)⟩,
      ⟨some 5, none, .mov (.c (.int .i64 24))⟩]
      [4, 5])
    .ret)
    .skip))
  (.seq (.seq (.region [⟨some 15, none, .mov (.t 0)⟩,
    ⟨some 16, none, .mov (.t 1)⟩,
    ⟨some 17, none, .idxS 1 (.t 15) (.t 16)⟩,
    ⟨some 18, none, .load false 1 (.t 17)⟩,
    ⟨some 19, none, .bin .neq (.t 18) (.c (.int .i64 1))⟩]
    [0, 1, 19])
  (.cond (.t 19)
    (.seq (.region [⟨some 20, none, .mov (.t 0)⟩,
      ⟨some 4, none, .mov (.t 20)⟩,
      ⟨some 5, none, .mov (.c (.int .i64 15))⟩]
      [4, 5])
    .ret)
    .skip))
  (.seq (.seq (.region [⟨some 21, none, .mov (.t 0)⟩,
    ⟨some 22, none, .call F.ref27_Count [.t 21, .c (.int .i64 1)]⟩,
    ⟨some 23, none, .bin .eql (.t 22) (.c (.int .i64 1))⟩]
    [0, 1, 23])
  (.cond (.t 23)
    (.seq (.region [⟨some 24, none, .mov (.t 0)⟩,
      ⟨some 4, none, .mov (.t 24)⟩,
      ⟨some 5, none, .mov (.c (.int .i64 17))⟩]
      [4, 5])
    .ret)
    .skip))
  (.seq (.region [⟨some 25, none, .mov (.t 0)⟩,
    ⟨some 26, none, .mov (.t 1)⟩,
    ⟨some 27, none, .call F.ref27_with [.t 25, .t 26, .c (.int .i64 2)]⟩,
    ⟨some 4, none, .mov (.t 27)⟩,
    ⟨some 5, none, .mov (.c (.int .i64 0))⟩]
    [4, 5])
  .ret)))))⟩

def RC.ref29_tick : RFn := ⟨1, [.cell 2 true 9],
  (.seq (.region [⟨some 1, none, .box (.t 0)⟩,
    ⟨some 2, none, .alloc [(.int .i64 0), (.int .i64 0), (.int .i64 0), (.int .i64 0), (.int .i64 0), (.slice none 0 0), (.slice none 0 0), (.slice none 0 0), (.int .i64 0)]⟩]
    [1, 2])
  (.seq (.seq (.region [⟨some 3, none, .fieldAddr 8 (.t 1)⟩,
    ⟨some 4, none, .load false 1 (.t 3)⟩,
    ⟨some 5, none, .fieldAddr 0 (.t 1)⟩,
    ⟨some 6, none, .fieldAddr 0 (.t 5)⟩,
    ⟨some 7, none, .load false 1 (.t 6)⟩,
    ⟨some 8, none, .bin .rem (.t 4) (.t 7)⟩,
    ⟨some 9, none, .bin .eql (.t 8) (.c (.int .i64 0))⟩]
    [1, 2, 9])
  (.cond (.t 9)
    (.region [⟨some 10, none, .fieldAddr 7 (.t 1)⟩,
      ⟨some 11, none, .load false 1 (.t 10)⟩,
      ⟨some 12, none, .call F.ref27_Turn [.t 11]⟩,
      ⟨some 13, none, .fieldAddr 7 (.t 1)⟩,
      ⟨none, none, .store 1 (.t 13) (.t 12)⟩]
      [1, 2])
    .skip))
  (.seq (.region [⟨some 14, none, .fieldAddr 8 (.t 1)⟩,
    ⟨some 15, none, .load false 1 (.t 14)⟩,
    ⟨some 16, none, .bin .add (.t 15) (.c (.int .i64 1))⟩,
    ⟨some 17, none, .fieldAddr 8 (.t 1)⟩,
    ⟨none, none, .store 1 (.t 17) (.t 16)⟩]
    [1, 2])
  (.seq (.region [⟨some 18, none, .load true 9 (.t 1)⟩,
    ⟨none, none, .store 9 (.t 2) (.t 18)⟩]
    [2])
  .ret))))⟩

def RC.ref28_Find : RFn := ⟨2, [.cell 4 true 6, .slot 5],
  (.seq (.region [⟨some 2, none, .box (.t 0)⟩,
    ⟨some 4, none, .alloc [(.int .i64 0), (.int .i64 0), (.int .i64 0), (.int .i64 0), (.int .i64 0), (.bool false)]⟩,
    ⟨some 5, none, .mov (.c (.bool false))⟩]
    [1, 2, 4])
  (.seq (.region [⟨some 7, none, .load true 3 (.t 2)⟩,
    ⟨some 8, none, .mov (.t 1)⟩,
    ⟨some 9, none, .call F.ref28_find [.t 7, .t 8]⟩,
    ⟨some 6, none, .mov (.t 9)⟩]
    [2, 4, 6])
  (.seq (.seq (.region [⟨some 10, none, .mov (.t 6)⟩,
    ⟨some 11, none, .bin .lss (.t 10) (.c (.int .i64 0))⟩]
    [2, 4, 6, 11])
  (.cond (.t 11)
    (.seq (.region [⟨some 12, none, .build [(.int .i64 0), (.int .i64 0), (.int .i64 0), (.int .i64 0), (.int .i64 0), (.bool false)] []⟩,
      ⟨none, none, .store 6 (.t 4) (.t 12)⟩,
      ⟨some 5, none, .mov (.c (.bool false))⟩]
      [4, 5])
    .ret)
    .skip))
  (.seq (.region [⟨some 13, none, .fieldAddr 1 (.t 2)⟩,
    ⟨some 14, none, .load false 1 (.t 13)⟩,
    ⟨some 15, none, .mov (.t 6)⟩,
    ⟨some 16, none, .idxS 6 (.t 14) (.t 15)⟩,
    ⟨some 17, none, .load true 6 (.t 16)⟩,
    ⟨none, none, .store 6 (.t 4) (.t 17)⟩,
    ⟨some 5, none, .mov (.c (.bool true))⟩]
    [4, 5])
  .ret))))⟩

def RC.ref28_Do : RFn := ⟨2, [.cell 4 true 3, .slot 5],
  (.seq (.region [⟨some 2, none, .box (.t 0)⟩,
    ⟨some 3, none, .box (.t 1)⟩,
    ⟨some 4, none, .alloc [(.int .i64 0), (.slice none 0 0), (.slice none 0 0)]⟩,
    ⟨some 5, none, .mov (.c (.int .i64 0))⟩]
    [2, 3, 4])
  (.seq (.seq (.region [⟨some 6, none, .fieldAddr 0 (.t 3)⟩,
    ⟨some 7, none, .load false 1 (.t 6)⟩]
    [2, 3, 4, 7])
  (.block 0
    (.seq (.seq (.region [⟨some 9, none, .bin .eql (.t 7) (.c (.int .i64 1))⟩,
      ⟨some 8, none, .mov (.t 9)⟩]
      [2, 3, 4, 7, 8])
    (.cond (.t 8)
      .skip
      (.seq (.region [⟨some 10, none, .bin .eql (.t 7) (.c (.int .i64 2))⟩,
        ⟨some 8, none, .mov (.t 10)⟩]
        [2, 3, 4, 7, 8])
      (.cond (.t 8)
        .skip
        (.seq (.region [⟨some 11, none, .bin .eql (.t 7) (.c (.int .i64 3))⟩,
          ⟨some 8, none, .mov (.t 11)⟩]
          [2, 3, 4, 7, 8])
        (.cond (.t 8)
          .skip
          (.seq (.region [⟨some 12, none, .bin .eql (.t 7) (.c (.int .i64 4))⟩,
            ⟨some 8, none, .mov (.t 12)⟩]
            [2, 3, 4, 7, 8])
          (.cond (.t 8)
            .skip
            (.region [⟨some 13, none, .bin .eql (.t 7) (.c (.int .i64 5))⟩,
              ⟨some 8, none, .mov (.t 13)⟩]
              [2, 3, 4, 7, 8])))))))))
    (.cond (.t 8)
      (.seq (.region [⟨some 14, none, .load true 3 (.t 2)⟩,
        ⟨some 15, none, .load true 8 (.t 3)⟩,
        ⟨some 16, none, .call F.ref28_tasks [.t 14, .t 15]⟩,
        ⟨some 17, none, .ext 0 (.t 16)⟩,
        ⟨some 18, none, .ext 1 (.t 16)⟩,
        ⟨none, none, .store 3 (.t 4) (.t 17)⟩,
        ⟨some 5, none, .mov (.t 18)⟩]
        [4, 5])
      .ret)
      (.seq (.seq (.region [⟨some 20, none, .bin .eql (.t 7) (.c (.int .i64 6))⟩,
        ⟨some 19, none, .mov (.t 20)⟩]
        [2, 3, 4, 7, 19])
      (.cond (.t 19)
        .skip
        (.seq (.region [⟨some 21, none, .bin .eql (.t 7) (.c (.int .i64 7))⟩,
          ⟨some 19, none, .mov (.t 21)⟩]
          [2, 3, 4, 7, 19])
        (.cond (.t 19)
          .skip
          (.region [⟨some 22, none, .bin .eql (.t 7) (.c (.int .i64 8))⟩,
            ⟨some 19, none, .mov (.t 22)⟩]
            [2, 3, 4, 7, 19])))))
      (.cond (.t 19)
        (.seq (.region [⟨some 23, none, .load true 3 (.t 2)⟩,
          ⟨some 24, none, .load true 8 (.t 3)⟩,
          ⟨some 25, none, .call F.ref28_groups [.t 23, .t 24]⟩,
          ⟨some 26, none, .ext 0 (.t 25)⟩,
          ⟨some 27, none, .ext 1 (.t 25)⟩,
          ⟨none, none, .store 3 (.t 4) (.t 26)⟩,
          ⟨some 5, none, .mov (.t 27)⟩]
          [4, 5])
        .ret)
        (.seq (.region [⟨some 29, none, .bin .eql (.t 7) (.c (.int .i64 9))⟩,
          ⟨some 28, none, .mov (.t 29)⟩]
          [2, 3, 4, 7, 28])
        (.cond (.t 28)
          (.seq (.region [⟨some 30, none, .load true 3 (.t 2)⟩,
            ⟨some 31, none, .load true 8 (.t 3)⟩,
            ⟨some 32, none, .call F.ref28_enter [.t 30, .t 31]⟩,
            ⟨some 33, none, .ext 0 (.t 32)⟩,
            ⟨some 34, none, .ext 1 (.t 32)⟩,
            ⟨none, none, .store 3 (.t 4) (.t 33)⟩,
            ⟨some 5, none, .mov (.t 34)⟩]
            [4, 5])
          .ret)
          (.seq (.seq (.region [⟨some 36, none, .bin .eql (.t 7) (.c (.int .i64 10))⟩,
            ⟨some 35, none, .mov (.t 36)⟩]
            [2, 3, 4, 7, 35])
          (.cond (.t 35)
            .skip
            (.seq (.region [⟨some 37, none, .bin .eql (.t 7) (.c (.int .i64 11))⟩,
              ⟨some 35, none, .mov (.t 37)⟩]
              [2, 3, 4, 7, 35])
            (.cond (.t 35)
              .skip
              (.region [⟨some 38, none, .bin .eql (.t 7) (.c (.int .i64 12))⟩,
                ⟨some 35, none, .mov (.t 38)⟩]
                [2, 3, 4, 35])))))
          (.cond (.t 35)
            (.seq (.region [⟨some 39, none, .load true 3 (.t 2)⟩,
              ⟨some 40, none, .load true 8 (.t 3)⟩,
              ⟨some 41, none, .call F.ref28_members [.t 39, .t 40]⟩,
              ⟨some 42, none, .ext 0 (.t 41)⟩,
              ⟨some 43, none, .ext 1 (.t 41)⟩,
              ⟨none, none, .store 3 (.t 4) (.t 42)⟩,
              ⟨some 5, none, .mov (.t 43)⟩]
              [4, 5])
            .ret)
            .skip)))))))) [2, 4]))
  (.seq (.region [⟨some 44, none, .load true 3 (.t 2)⟩,
    ⟨none, none, .store 3 (.t 4) (.t 44)⟩,
    ⟨some 5, none, .mov (.c (.int .i64 0))⟩]
    [4, 5])
  .ret)))⟩

def RC.ref29_Free : RFn := ⟨1, [.slot 2],
  (.seq (.region [⟨some 1, none, .box (.t 0)⟩,
    ⟨some 2, none, .mov (.c (.int .i64 0))⟩]
    [1])
  (.seq (.drawn [⟨some 3, none, .fieldAddr 0 (.t 1)⟩,
    ⟨some 4, none, .fieldAddr 0 (.t 3)⟩,
    ⟨some 5, none, .load false 1 (.t 4)⟩,
    ⟨some 6, none, .fieldAddr 7 (.t 1)⟩,
    ⟨some 7, none, .load false 1 (.t 6)⟩,
    ⟨some 8, none, .call F.ref27_Count [.t 7, .c (.int .i64 1)]⟩,
    ⟨some 9, none, .bin .mul (.t 5) (.t 8)⟩,
    ⟨some 10, none, .fieldAddr 4 (.t 1)⟩,
    ⟨some 11, none, .load true 3 (.t 10)⟩,
    ⟨some 12, none, .call F.ref28_Total [.t 11]⟩,
    ⟨some 13, none, .bin .sub (.t 9) (.t 12)⟩,
    ⟨some 2, none, .mov (.t 13)⟩]
    [[], [0], [1], [], [3], [4], [2, 5], [], [7], [8, 5], [6, 9], [10, 9, 0, 1, 2, 3, 4, 5, 6, 7, 8, 9, 10]]
    [(0, []), (1, []), (3, []), (7, []), (2, []), (4, []), (8, []), (5, [4, 10]), (6, []), (9, [4]), (10, []), (11, [])]
    [[], [0], [0, 1], [], [3], [3, 4], [0, 1, 2, 3, 4, 5], [], [7], [3, 4, 5, 7, 8], [0, 1, 2, 3, 4, 5, 6, 7, 8, 9], [0, 1, 2, 3, 4, 5, 6, 7, 8, 9, 10]]
    [2])
  .ret))⟩

def RC.ledger_Ledger_none : RFn := ⟨1, [.slot 2],
  (.seq (.region [⟨some 2, none, .mov (.c (.bool false))⟩]
    [0])
  (.seq (.region [⟨some 3, none, .mov (.t 0)⟩,
    ⟨some 4, none, .eq false .ptr (.t 3) (.c (.pointer none))⟩,
    ⟨some 5, none, .mov (.t 4)⟩,
    ⟨some 6, some (5, false), .mov (.t 0)⟩,
    ⟨some 7, some (5, false), .nilchk (.t 6)⟩,
    ⟨some 8, some (5, false), .fieldAddr 4 (.t 7)⟩,
    ⟨some 9, some (5, false), .load false 1 (.t 8)⟩,
    ⟨some 10, some (5, false), .eq false .ptr (.t 9) (.c (.pointer none))⟩,
    ⟨some 11, none, .pick (.t 5) (.c (.bool true)) (.t 10)⟩,
    ⟨some 2, none, .mov (.t 11)⟩]
    [2])
  .ret))⟩

def RC.ledger_Ledger_tasks : RFn := ⟨2, [.slot 4],
  (.seq (.region [⟨some 3, none, .box (.t 1)⟩,
    ⟨some 4, none, .mov (.c (.int .i64 0))⟩]
    [0, 3])
  (.seq (.region [⟨some 7, none, .mov (.t 0)⟩,
    ⟨some 8, none, .nilchk (.t 7)⟩,
    ⟨some 9, none, .fieldAddr 4 (.t 8)⟩,
    ⟨some 10, none, .load false 1 (.t 9)⟩,
    ⟨some 11, none, .call F.roster_Roster_Fork [.t 10]⟩,
    ⟨some 5, none, .mov (.t 11)⟩]
    [0, 3, 5])
  (.seq (.seq (.region [⟨some 12, none, .mov (.t 5)⟩,
    ⟨some 13, none, .load true 8 (.t 3)⟩,
    ⟨some 14, none, .call F.ledger_list [.t 12, .t 13]⟩,
    ⟨some 6, none, .mov (.t 14)⟩]
    [0, 5, 6])
  (.seq (.region [⟨some 15, none, .mov (.t 6)⟩,
    ⟨some 16, none, .bin .neq (.t 15) (.c (.int .i64 0))⟩]
    [0, 5, 6, 16])
  (.cond (.t 16)
    (.seq (.region [⟨some 17, none, .mov (.t 6)⟩,
      ⟨some 4, none, .mov (.t 17)⟩]
      [4])
    .ret)
    .skip)))
  (.seq (.seq (.region [⟨some 18, none, .mov (.t 0)⟩,
    ⟨some 19, none, .mov (.t 5)⟩,
    ⟨some 20, none, .mov (.t 0)⟩,
    ⟨some 21, none, .nilchk (.t 20)⟩,
    ⟨some 22, none, .fieldAddr 5 (.t 21)⟩,
    ⟨some 23, none, .load false 1 (.t 22)⟩,
    ⟨some 24, none, .call F.ledger_Ledger_room [.t 18, .t 19, .t 23]⟩,
    ⟨some 25, none, .un .not (.t 24)⟩]
    [0, 5, 25])
  (.cond (.t 25)
    (.seq (.region [⟨some 4, none, .mov (.c (.int .i64 12))⟩]
      [4])
    .ret)
    .skip))
  (.seq (.region [⟨some 26, none, .mov (.t 0)⟩,
    ⟨some 27, none, .mov (.t 5)⟩,
    ⟨some 28, none, .nilchk (.t 26)⟩,
    ⟨some 29, none, .fieldAddr 4 (.t 28)⟩,
    ⟨none, none, .store 1 (.t 29) (.t 27)⟩]
    [])
  (.seq (.region [⟨some 4, none, .mov (.c (.int .i64 0))⟩]
    [4])
  .ret))))))⟩

def RC.ledger_Ledger_plug : RFn := ⟨2, [.slot 4],
  (.seq (.region [⟨some 3, none, .box (.t 1)⟩,
    ⟨some 4, none, .mov (.c (.int .i64 0))⟩]
    [0, 3])
  (.seq (.region [⟨some 7, none, .mov (.t 0)⟩,
    ⟨some 8, none, .nilchk (.t 7)⟩,
    ⟨some 9, none, .fieldAddr 5 (.t 8)⟩,
    ⟨some 10, none, .load false 1 (.t 9)⟩,
    ⟨some 11, none, .call F.cores_Set_Fork [.t 10]⟩,
    ⟨some 5, none, .mov (.t 11)⟩]
    [0, 3, 5])
  (.seq (.region [⟨some 6, none, .mov (.c (.int .i64 0))⟩]
    [0, 3, 5])
  (.seq (.seq (.region [⟨some 12, none, .fieldAddr 0 (.t 3)⟩,
    ⟨some 13, none, .load false 1 (.t 12)⟩,
    ⟨some 14, none, .bin .eql (.t 13) (.c (.int .i64 13))⟩]
    [0, 3, 5, 14])
  (.cond (.t 14)
    (.region [⟨some 15, none, .mov (.t 5)⟩,
      ⟨some 16, none, .fieldAddr 6 (.t 3)⟩,
      ⟨some 17, none, .load false 1 (.t 16)⟩,
      ⟨some 18, none, .call F.cores_Set_Plug [.t 15, .t 17]⟩,
      ⟨some 6, none, .mov (.t 18)⟩]
      [0, 5, 6])
    (.region [⟨some 19, none, .mov (.t 5)⟩,
      ⟨some 20, none, .fieldAddr 6 (.t 3)⟩,
      ⟨some 21, none, .load false 1 (.t 20)⟩,
      ⟨some 22, none, .call F.cores_Set_Unplug [.t 19, .t 21]⟩,
      ⟨some 6, none, .mov (.t 22)⟩]
      [0, 5, 6])))
  (.seq (.seq (.region [⟨some 23, none, .mov (.t 6)⟩,
    ⟨some 24, none, .bin .neq (.t 23) (.c (.int .i64 0))⟩]
    [0, 5, 6, 24])
  (.cond (.t 24)
    (.seq (.region [⟨some 25, none, .mov (.t 6)⟩,
      ⟨some 4, none, .mov (.t 25)⟩]
      [4])
    .ret)
    .skip))
  (.seq (.seq (.region [⟨some 26, none, .mov (.t 0)⟩,
    ⟨some 27, none, .mov (.t 0)⟩,
    ⟨some 28, none, .nilchk (.t 27)⟩,
    ⟨some 29, none, .fieldAddr 4 (.t 28)⟩,
    ⟨some 30, none, .load false 1 (.t 29)⟩,
    ⟨some 31, none, .mov (.t 5)⟩,
    ⟨some 32, none, .call F.ledger_Ledger_room [.t 26, .t 30, .t 31]⟩,
    ⟨some 33, none, .un .not (.t 32)⟩]
    [0, 5, 33])
  (.cond (.t 33)
    (.seq (.region [⟨some 4, none, .mov (.c (.int .i64 12))⟩]
      [4])
    .ret)
    .skip))
  (.seq (.region [⟨some 34, none, .mov (.t 0)⟩,
    ⟨some 35, none, .mov (.t 5)⟩,
    ⟨some 36, none, .nilchk (.t 34)⟩,
    ⟨some 37, none, .fieldAddr 5 (.t 36)⟩,
    ⟨none, none, .store 1 (.t 37) (.t 35)⟩]
    [])
  (.seq (.region [⟨some 4, none, .mov (.c (.int .i64 0))⟩]
    [4])
  .ret))))))))⟩

def RB.ledger_Ledger_ticks_1 : RCode :=
  (.seq (.region [⟨some 13, none, .bin .lss (.t 12) (.t 11)⟩]
    [0, 11, 12, 13])
  (.seq (.cond (.t 13)
    .skip
    (.exit 0))
  (.seq (.block 1
    (.seq (.seq (.drawn [⟨some 14, none, .mov (.t 0)⟩,
      ⟨some 15, none, .nilchk (.t 14)⟩,
      ⟨some 16, none, .fieldAddr 6 (.t 15)⟩,
      ⟨some 17, none, .load false 1 (.t 16)⟩,
      ⟨some 18, none, .mov (.t 0)⟩,
      ⟨some 19, none, .nilchk (.t 18)⟩,
      ⟨some 20, none, .fieldAddr 0 (.t 19)⟩,
      ⟨some 21, none, .fieldAddr 0 (.t 20)⟩,
      ⟨some 22, none, .load false 1 (.t 21)⟩,
      ⟨some 23, none, .bin .rem (.t 17) (.t 22)⟩,
      ⟨some 24, none, .bin .eql (.t 23) (.c (.int .i64 0))⟩]
      [[], [0], [1], [2], [], [4], [5], [6], [7], [3, 8], [9]]
      [(0, []), (1, []), (2, []), (4, []), (5, []), (6, []), (7, []), (3, []), (8, []), (9, []), (10, [])]
      [[], [0], [0, 1], [0, 1, 2], [], [4], [4, 5], [4, 5, 6], [4, 5, 6, 7], [0, 1, 2, 3, 4, 5, 6, 7, 8], [0, 1, 2, 3, 4, 5, 6, 7, 8, 9]]
      [0, 11, 12, 24])
    (.cond (.t 24)
      (.region [⟨some 25, none, .mov (.t 0)⟩,
        ⟨some 26, none, .nilchk (.t 25)⟩,
        ⟨some 27, none, .fieldAddr 5 (.t 26)⟩,
        ⟨some 28, none, .load false 1 (.t 27)⟩,
        ⟨some 29, none, .call F.cores_Set_Turn [.t 28]⟩]
        [0, 11, 12])
      .skip))
    (.region [⟨some 30, none, .mov (.t 0)⟩,
      ⟨some 31, none, .nilchk (.t 30)⟩,
      ⟨some 32, none, .fieldAddr 6 (.t 31)⟩,
      ⟨some 33, none, .load false 1 (.t 32)⟩,
      ⟨some 34, none, .bin .add (.t 33) (.c (.int .i64 1))⟩,
      ⟨some 35, none, .nilchk (.t 30)⟩,
      ⟨some 36, none, .fieldAddr 6 (.t 35)⟩,
      ⟨none, none, .store 1 (.t 36) (.t 34)⟩]
      [0, 11, 12])) [0, 11, 12])
  (.region [⟨some 37, none, .bin .add (.t 12) (.c (.int .i64 1))⟩,
    ⟨some 12, none, .mov (.t 37)⟩]
    [0, 11, 12]))))
def RC.ledger_Ledger_ticks : RFn := ⟨2, [.slot 4],
  (.seq (.region [⟨some 4, none, .mov (.c (.int .i64 0))⟩]
    [0, 1])
  (.seq (.seq (.region [⟨some 5, none, .mov (.t 1)⟩,
    ⟨some 6, none, .bin .lss (.t 5) (.c (.int .i64 1))⟩,
    ⟨some 7, none, .mov (.t 6)⟩,
    ⟨some 8, some (7, false), .mov (.t 1)⟩,
    ⟨some 9, some (7, false), .bin .gtr (.t 8) (.c (.int .i64 1024))⟩,
    ⟨some 10, none, .pick (.t 7) (.c (.bool true)) (.t 9)⟩]
    [0, 1, 10])
  (.cond (.t 10)
    (.seq (.region [⟨some 4, none, .mov (.c (.int .i64 1))⟩]
      [4])
    .ret)
    .skip))
  (.seq (.seq (.region [⟨some 11, none, .mov (.t 1)⟩,
    ⟨some 12, none, .mov (.c (.int .i64 0))⟩]
    [0, 11, 12])
  (.block 0
    (.loop [0, 11, 12] RB.ledger_Ledger_ticks_1) []))
  (.seq (.region [⟨some 4, none, .mov (.c (.int .i64 0))⟩]
    [4])
  .ret))))⟩

def RC.roster_Roster_Task : RFn := ⟨2, [.cell 4 true 6, .slot 5],
  (.seq (.region [⟨some 4, none, .alloc [(.int .i64 0), (.int .i64 0), (.int .i64 0), (.int .i64 0), (.int .i64 0), (.bool false)]⟩,
    ⟨some 5, none, .mov (.c (.bool false))⟩]
    [0, 1, 4])
  (.seq (.region [⟨some 9, none, .mov (.t 0)⟩,
    ⟨some 10, none, .mov (.t 1)⟩,
    ⟨some 11, none, .call F.roster_Roster_one [.t 9, .t 10]⟩,
    ⟨some 8, none, .mov (.t 11)⟩,
    ⟨some 12, none, .ext 0 (.t 8)⟩,
    ⟨some 13, none, .ext 1 (.t 8)⟩,
    ⟨some 6, none, .alloc [(.int .i64 0), (.int .i64 0), (.int .i64 0), (.int .i64 0), (.int .i64 0), (.bool false)]⟩,
    ⟨none, none, .store 6 (.t 6) (.t 12)⟩,
    ⟨some 7, none, .mov (.t 13)⟩]
    [4, 6, 7])
  (.seq (.region [⟨some 14, none, .load true 6 (.t 6)⟩,
    ⟨some 15, none, .mov (.t 7)⟩,
    ⟨some 16, none, .bin .eql (.t 15) (.c (.int .i64 0))⟩,
    ⟨none, none, .store 6 (.t 4) (.t 14)⟩,
    ⟨some 5, none, .mov (.t 16)⟩]
    [4, 5])
  .ret)))⟩

def RC.ledger_Ledger_Clock : RFn := ⟨1, [.slot 2],
  (.seq (.region [⟨some 2, none, .mov (.c (.int .i64 0))⟩]
    [0])
  (.seq (.seq (.region [⟨some 3, none, .mov (.t 0)⟩,
    ⟨some 4, none, .call F.ledger_Ledger_none [.t 3]⟩]
    [0, 4])
  (.cond (.t 4)
    (.seq (.region [⟨some 2, none, .mov (.c (.int .i64 0))⟩]
      [2])
    .ret)
    .skip))
  (.seq (.region [⟨some 5, none, .mov (.t 0)⟩,
    ⟨some 6, none, .nilchk (.t 5)⟩,
    ⟨some 7, none, .fieldAddr 6 (.t 6)⟩,
    ⟨some 8, none, .load false 1 (.t 7)⟩,
    ⟨some 2, none, .mov (.t 8)⟩]
    [2])
  .ret)))⟩

def RB.law28_Alike_1 : RCode :=
  (.seq (.seq (.region [⟨some 101, none, .mov (.t 10)⟩,
    ⟨some 102, none, .mov (.t 6)⟩,
    ⟨some 103, none, .len (.t 102)⟩,
    ⟨some 104, none, .bin .lss (.t 101) (.t 103)⟩]
    [3, 6, 10, 104])
  (.cond (.t 104)
    .skip
    (.exit 2)))
  (.seq (.block 3
    (.seq (.drawn [⟨some 107, none, .load true 3 (.t 3)⟩,
      ⟨some 108, none, .mov (.t 6)⟩,
      ⟨some 109, none, .mov (.t 10)⟩,
      ⟨some 110, none, .idxS 3 (.t 108) (.t 109)⟩,
      ⟨some 111, none, .fieldAddr 0 (.t 110)⟩,
      ⟨some 112, none, .load false 1 (.t 111)⟩,
      ⟨some 113, none, .call F.ref28_Group0 [.t 107, .t 112]⟩,
      ⟨some 11, none, .mov (.t 113)⟩]
      [[], [], [], [1, 2], [3], [4], [0, 5], [6, 6, 0, 1, 2, 3, 4, 5, 6]]
      [(1, []), (2, []), (3, []), (4, []), (0, []), (5, []), (6, []), (7, [])]
      [[], [], [], [1, 2], [1, 2, 3], [1, 2, 3, 4], [0, 1, 2, 3, 4, 5], [0, 1, 2, 3, 4, 5, 6]]
      [3, 6, 10, 11])
    (.seq (.drawn [⟨some 114, none, .mov (.t 11)⟩,
      ⟨some 115, none, .bin .lss (.t 114) (.c (.int .i64 0))⟩,
      ⟨some 116, none, .mov (.t 115)⟩,
      ⟨some 117, some (116, false), .mov (.t 10)⟩,
      ⟨some 118, some (116, false), .bin .gtr (.t 117) (.c (.int .i64 0))⟩,
      ⟨some 119, some (116, false), .mov (.t 118)⟩,
      ⟨some 120, some (119, true), .mov (.t 6)⟩,
      ⟨some 121, some (119, true), .mov (.t 10)⟩,
      ⟨some 122, some (119, true), .bin .sub (.t 121) (.c (.int .i64 1))⟩,
      ⟨some 123, some (119, true), .idxS 3 (.t 120) (.t 122)⟩,
      ⟨some 124, some (119, true), .fieldAddr 0 (.t 123)⟩,
      ⟨some 125, some (119, true), .load false 1 (.t 124)⟩,
      ⟨some 126, some (119, true), .mov (.t 6)⟩,
      ⟨some 127, some (119, true), .mov (.t 10)⟩,
      ⟨some 128, some (119, true), .idxS 3 (.t 126) (.t 127)⟩,
      ⟨some 129, some (119, true), .fieldAddr 0 (.t 128)⟩,
      ⟨some 130, some (119, true), .load false 1 (.t 129)⟩,
      ⟨some 131, some (119, true), .bin .geq (.t 125) (.t 130)⟩,
      ⟨some 132, some (116, false), .pick (.t 119) (.t 131) (.c (.bool false))⟩,
      ⟨some 133, none, .pick (.t 116) (.c (.bool true)) (.t 132)⟩,
      ⟨some 134, none, .mov (.t 133)⟩,
      ⟨some 135, some (134, false), .mov (.t 6)⟩,
      ⟨some 136, some (134, false), .mov (.t 10)⟩,
      ⟨some 137, some (134, false), .idxS 3 (.t 135) (.t 136)⟩,
      ⟨some 138, some (134, false), .load true 3 (.t 137)⟩,
      ⟨some 139, some (134, false), .mov (.t 6)⟩,
      ⟨some 140, some (134, false), .mov (.t 10)⟩,
      ⟨some 141, some (134, false), .idxS 3 (.t 139) (.t 140)⟩,
      ⟨some 142, some (134, false), .fieldAddr 0 (.t 141)⟩,
      ⟨some 143, some (134, false), .load false 1 (.t 142)⟩,
      ⟨some 144, some (134, false), .fieldAddr 2 (.t 3)⟩,
      ⟨some 145, some (134, false), .load false 1 (.t 144)⟩,
      ⟨some 146, some (134, false), .mov (.t 11)⟩,
      ⟨some 147, some (134, false), .idxS 2 (.t 145) (.t 146)⟩,
      ⟨some 148, some (134, false), .fieldAddr 1 (.t 147)⟩,
      ⟨some 149, some (134, false), .load false 1 (.t 148)⟩,
      ⟨some 150, some (134, false), .load true 3 (.t 3)⟩,
      ⟨some 151, some (134, false), .mov (.t 6)⟩,
      ⟨some 152, some (134, false), .mov (.t 10)⟩,
      ⟨some 153, some (134, false), .idxS 3 (.t 151) (.t 152)⟩,
      ⟨some 154, some (134, false), .fieldAddr 0 (.t 153)⟩,
      ⟨some 155, some (134, false), .load false 1 (.t 154)⟩,
      ⟨some 156, some (134, false), .call F.ref28_Members [.t 150, .t 155]⟩,
      ⟨some 157, some (134, false), .build [(.int .i64 0), (.int .i64 0), (.int .i64 0)] [(0, 1, .t 143), (1, 1, .t 149), (2, 1, .t 156)]⟩,
      ⟨some 158, some (134, false), .eq true (.flat [.int, .int, .int]) (.t 138) (.t 157)⟩,
      ⟨some 159, none, .pick (.t 134) (.c (.bool true)) (.t 158)⟩]
      [[], [0], [1], [2], [3, 2], [4, 2, 2], [5], [5], [7, 5], [6, 8, 5], [9, 5], [10, 5], [5], [5], [12, 13, 5], [14, 5], [15, 5], [11, 16, 5], [5, 17, 2], [2, 18], [19, 5], [20], [20], [21, 22, 20], [23, 20], [20], [20], [25, 26, 20], [27, 20], [28, 20], [20], [30, 20], [20], [31, 32, 20], [33, 20], [34, 20], [20], [20], [20], [37, 38, 20], [39, 20], [40, 20], [36, 41, 20, 20], [29, 35, 42, 20], [24, 43, 20], [20, 44]]
      [(0, []), (1, []), (2, []), (3, []), (4, []), (5, []), (6, []), (7, []), (8, []), (9, []), (10, []), (12, []), (13, []), (14, []), (15, []), (11, []), (16, []), (17, []), (18, []), (19, []), (20, []), (21, []), (22, []), (23, []), (25, []), (26, []), (27, []), (28, []), (30, []), (32, []), (37, []), (38, []), (39, []), (40, []), (24, []), (29, []), (31, []), (33, []), (34, []), (35, []), (36, []), (41, []), (42, [137, 142, 144, 148]), (43, []), (44, []), (45, [])]
      [[], [0], [0, 1], [0, 1, 2], [0, 1, 2, 3], [0, 1, 2, 3, 4], [0, 1, 2, 3, 4, 5], [0, 1, 2, 3, 4, 5], [0, 1, 2, 3, 4, 5, 7], [0, 1, 2, 3, 4, 5, 6, 7, 8], [0, 1, 2, 3, 4, 5, 6, 7, 8, 9], [0, 1, 2, 3, 4, 5, 6, 7, 8, 9, 10], [0, 1, 2, 3, 4, 5], [0, 1, 2, 3, 4, 5], [0, 1, 2, 3, 4, 5, 12, 13], [0, 1, 2, 3, 4, 5, 12, 13, 14], [0, 1, 2, 3, 4, 5, 12, 13, 14, 15], [0, 1, 2, 3, 4, 5, 6, 7, 8, 9, 10, 11, 12, 13, 14, 15, 16], [0, 1, 2, 3, 4, 5, 6, 7, 8, 9, 10, 11, 12, 13, 14, 15, 16, 17], [0, 1, 2, 3, 4, 5, 6, 7, 8, 9, 10, 11, 12, 13, 14, 15, 16, 17, 18], [0, 1, 2, 3, 4, 5, 6, 7, 8, 9, 10, 11, 12, 13, 14, 15, 16, 17, 18, 19], [0, 1, 2, 3, 4, 5, 6, 7, 8, 9, 10, 11, 12, 13, 14, 15, 16, 17, 18, 19, 20], [0, 1, 2, 3, 4, 5, 6, 7, 8, 9, 10, 11, 12, 13, 14, 15, 16, 17, 18, 19, 20], [0, 1, 2, 3, 4, 5, 6, 7, 8, 9, 10, 11, 12, 13, 14, 15, 16, 17, 18, 19, 20, 21, 22], [0, 1, 2, 3, 4, 5, 6, 7, 8, 9, 10, 11, 12, 13, 14, 15, 16, 17, 18, 19, 20, 21, 22, 23], [0, 1, 2, 3, 4, 5, 6, 7, 8, 9, 10, 11, 12, 13, 14, 15, 16, 17, 18, 19, 20], [0, 1, 2, 3, 4, 5, 6, 7, 8, 9, 10, 11, 12, 13, 14, 15, 16, 17, 18, 19, 20], [0, 1, 2, 3, 4, 5, 6, 7, 8, 9, 10, 11, 12, 13, 14, 15, 16, 17, 18, 19, 20, 25, 26], [0, 1, 2, 3, 4, 5, 6, 7, 8, 9, 10, 11, 12, 13, 14, 15, 16, 17, 18, 19, 20, 25, 26, 27], [0, 1, 2, 3, 4, 5, 6, 7, 8, 9, 10, 11, 12, 13, 14, 15, 16, 17, 18, 19, 20, 25, 26, 27, 28], [0, 1, 2, 3, 4, 5, 6, 7, 8, 9, 10, 11, 12, 13, 14, 15, 16, 17, 18, 19, 20], [0, 1, 2, 3, 4, 5, 6, 7, 8, 9, 10, 11, 12, 13, 14, 15, 16, 17, 18, 19, 20, 30], [0, 1, 2, 3, 4, 5, 6, 7, 8, 9, 10, 11, 12, 13, 14, 15, 16, 17, 18, 19, 20], [0, 1, 2, 3, 4, 5, 6, 7, 8, 9, 10, 11, 12, 13, 14, 15, 16, 17, 18, 19, 20, 30, 31, 32], [0, 1, 2, 3, 4, 5, 6, 7, 8, 9, 10, 11, 12, 13, 14, 15, 16, 17, 18, 19, 20, 30, 31, 32, 33], [0, 1, 2, 3, 4, 5, 6, 7, 8, 9, 10, 11, 12, 13, 14, 15, 16, 17, 18, 19, 20, 30, 31, 32, 33, 34], [0, 1, 2, 3, 4, 5, 6, 7, 8, 9, 10, 11, 12, 13, 14, 15, 16, 17, 18, 19, 20], [0, 1, 2, 3, 4, 5, 6, 7, 8, 9, 10, 11, 12, 13, 14, 15, 16, 17, 18, 19, 20], [0, 1, 2, 3, 4, 5, 6, 7, 8, 9, 10, 11, 12, 13, 14, 15, 16, 17, 18, 19, 20], [0, 1, 2, 3, 4, 5, 6, 7, 8, 9, 10, 11, 12, 13, 14, 15, 16, 17, 18, 19, 20, 37, 38], [0, 1, 2, 3, 4, 5, 6, 7, 8, 9, 10, 11, 12, 13, 14, 15, 16, 17, 18, 19, 20, 37, 38, 39], [0, 1, 2, 3, 4, 5, 6, 7, 8, 9, 10, 11, 12, 13, 14, 15, 16, 17, 18, 19, 20, 37, 38, 39, 40], [0, 1, 2, 3, 4, 5, 6, 7, 8, 9, 10, 11, 12, 13, 14, 15, 16, 17, 18, 19, 20, 36, 37, 38, 39, 40, 41], [0, 1, 2, 3, 4, 5, 6, 7, 8, 9, 10, 11, 12, 13, 14, 15, 16, 17, 18, 19, 20, 25, 26, 27, 28, 29, 30, 31, 32, 33, 34, 35, 36, 37, 38, 39, 40, 41, 42], [0, 1, 2, 3, 4, 5, 6, 7, 8, 9, 10, 11, 12, 13, 14, 15, 16, 17, 18, 19, 20, 21, 22, 23, 24, 25, 26, 27, 28, 29, 30, 31, 32, 33, 34, 35, 36, 37, 38, 39, 40, 41, 42, 43], [0, 1, 2, 3, 4, 5, 6, 7, 8, 9, 10, 11, 12, 13, 14, 15, 16, 17, 18, 19, 20, 21, 22, 23, 24, 25, 26, 27, 28, 29, 30, 31, 32, 33, 34, 35, 36, 37, 38, 39, 40, 41, 42, 43, 44]]
      [3, 6, 10, 159])
    (.cond (.t 159)
      (.seq (.region [⟨some 4, none, .mov (.c (.bool false))⟩]
        [4])
      .ret)
      .skip))) [3, 6, 10])
  (.region [⟨some 105, none, .mov (.t 10)⟩,
    ⟨some 106, none, .bin .add (.t 105) (.c (.int .i64 1))⟩,
    ⟨some 10, none, .mov (.t 106)⟩]
    [3, 6, 10])))
def RB.law28_Alike_2 : RCode :=
  (.seq (.seq (.region [⟨some 45, none, .mov (.t 7)⟩,
    ⟨some 46, none, .mov (.t 5)⟩,
    ⟨some 47, none, .len (.t 46)⟩,
    ⟨some 48, none, .bin .lss (.t 45) (.t 47)⟩]
    [3, 5, 6, 7, 48])
  (.cond (.t 48)
    .skip
    (.exit 0)))
  (.seq (.block 1
    (.seq (.drawn [⟨some 52, none, .load true 3 (.t 3)⟩,
      ⟨some 53, none, .mov (.t 5)⟩,
      ⟨some 54, none, .mov (.t 7)⟩,
      ⟨some 55, none, .idxS 6 (.t 53) (.t 54)⟩,
      ⟨some 56, none, .fieldAddr 0 (.t 55)⟩,
      ⟨some 57, none, .load false 1 (.t 56)⟩,
      ⟨some 58, none, .call F.ref28_Find [.t 52, .t 57]⟩,
      ⟨some 51, none, .mov (.t 58)⟩,
      ⟨some 59, none, .ext 0 (.t 51)⟩,
      ⟨some 60, none, .ext 1 (.t 51)⟩,
      ⟨some 8, none, .alloc [(.int .i64 0), (.int .i64 0), (.int .i64 0), (.int .i64 0), (.int .i64 0), (.bool false)]⟩,
      ⟨none, none, .store 6 (.t 8) (.t 59)⟩,
      ⟨some 9, none, .mov (.t 60)⟩]
      [[], [], [], [1, 2], [3], [4], [0, 5], [6], [7], [7], [], [10, 8, 6, 0, 1, 2, 3, 4, 5, 6, 7, 8, 10], [9, 11, 0, 1, 2, 3, 4, 5, 6, 7, 8, 9, 10, 11]]
      [(1, []), (2, []), (3, []), (4, []), (0, []), (5, []), (6, []), (7, []), (8, []), (9, []), (10, []), (11, []), (12, [])]
      [[], [], [], [1, 2], [1, 2, 3], [1, 2, 3, 4], [0, 1, 2, 3, 4, 5], [0, 1, 2, 3, 4, 5, 6], [0, 1, 2, 3, 4, 5, 6, 7], [0, 1, 2, 3, 4, 5, 6, 7], [], [0, 1, 2, 3, 4, 5, 6, 7, 8, 10], [0, 1, 2, 3, 4, 5, 6, 7, 8, 9, 10, 11]]
      [3, 5, 6, 7, 8, 9])
    (.seq (.drawn [⟨some 61, none, .mov (.t 9)⟩,
      ⟨some 62, none, .un .not (.t 61)⟩,
      ⟨some 63, none, .mov (.t 62)⟩,
      ⟨some 64, some (63, false), .mov (.t 7)⟩,
      ⟨some 65, some (63, false), .bin .gtr (.t 64) (.c (.int .i64 0))⟩,
      ⟨some 66, some (63, false), .mov (.t 65)⟩,
      ⟨some 67, some (66, true), .mov (.t 5)⟩,
      ⟨some 68, some (66, true), .mov (.t 7)⟩,
      ⟨some 69, some (66, true), .bin .sub (.t 68) (.c (.int .i64 1))⟩,
      ⟨some 70, some (66, true), .idxS 6 (.t 67) (.t 69)⟩,
      ⟨some 71, some (66, true), .fieldAddr 0 (.t 70)⟩,
      ⟨some 72, some (66, true), .load false 1 (.t 71)⟩,
      ⟨some 73, some (66, true), .mov (.t 5)⟩,
      ⟨some 74, some (66, true), .mov (.t 7)⟩,
      ⟨some 75, some (66, true), .idxS 6 (.t 73) (.t 74)⟩,
      ⟨some 76, some (66, true), .fieldAddr 0 (.t 75)⟩,
      ⟨some 77, some (66, true), .load false 1 (.t 76)⟩,
      ⟨some 78, some (66, true), .bin .geq (.t 72) (.t 77)⟩,
      ⟨some 79, some (63, false), .pick (.t 66) (.t 78) (.c (.bool false))⟩,
      ⟨some 80, none, .pick (.t 63) (.c (.bool true)) (.t 79)⟩,
      ⟨some 81, none, .mov (.t 80)⟩,
      ⟨some 82, some (81, false), .mov (.t 5)⟩,
      ⟨some 83, some (81, false), .mov (.t 7)⟩,
      ⟨some 84, some (81, false), .idxS 6 (.t 82) (.t 83)⟩,
      ⟨some 85, some (81, false), .load true 6 (.t 84)⟩,
      ⟨some 86, some (81, false), .fieldAddr 0 (.t 8)⟩,
      ⟨some 87, some (81, false), .load false 1 (.t 86)⟩,
      ⟨some 88, some (81, false), .fieldAddr 1 (.t 8)⟩,
      ⟨some 89, some (81, false), .load false 1 (.t 88)⟩,
      ⟨some 90, some (81, false), .fieldAddr 2 (.t 8)⟩,
      ⟨some 91, some (81, false), .load false 1 (.t 90)⟩,
      ⟨some 92, some (81, false), .fieldAddr 3 (.t 8)⟩,
      ⟨some 93, some (81, false), .load false 1 (.t 92)⟩,
      ⟨some 94, some (81, false), .fieldAddr 4 (.t 8)⟩,
      ⟨some 95, some (81, false), .load false 1 (.t 94)⟩,
      ⟨some 96, some (81, false), .fieldAddr 5 (.t 8)⟩,
      ⟨some 97, some (81, false), .load false 1 (.t 96)⟩,
      ⟨some 98, some (81, false), .build [(.int .i64 0), (.int .i64 0), (.int .i64 0), (.int .i64 0), (.int .i64 0), (.bool false)] [(0, 1, .t 87), (1, 1, .t 89), (2, 1, .t 91), (3, 1, .t 93), (4, 1, .t 95), (5, 1, .t 97)]⟩,
      ⟨some 99, some (81, false), .eq true (.flat [.int, .int, .int, .int, .int, .bool]) (.t 85) (.t 98)⟩,
      ⟨some 100, none, .pick (.t 81) (.c (.bool true)) (.t 99)⟩]
      [[], [0], [1], [2], [3, 2], [4, 2, 2], [5], [5], [7, 5], [6, 8, 5], [9, 5], [10, 5], [5], [5], [12, 13, 5], [14, 5], [15, 5], [11, 16, 5], [5, 17, 2], [2, 18], [19, 5], [20], [20], [21, 22, 20], [23, 20], [20], [25, 20], [20], [27, 20], [20], [29, 20], [20], [31, 20], [20], [33, 20], [20], [35, 20], [26, 28, 30, 32, 34, 36, 20], [24, 37, 20], [20, 38]]
      [(0, []), (1, []), (2, []), (3, []), (4, []), (5, []), (6, []), (7, []), (8, []), (9, []), (10, []), (12, []), (13, []), (14, []), (15, []), (11, []), (16, []), (17, []), (18, []), (19, []), (20, []), (21, []), (22, []), (23, []), (25, []), (27, []), (29, []), (31, []), (33, []), (35, []), (24, []), (26, []), (28, []), (30, []), (32, []), (34, []), (36, []), (37, []), (38, []), (39, [])]
      [[], [0], [0, 1], [0, 1, 2], [0, 1, 2, 3], [0, 1, 2, 3, 4], [0, 1, 2, 3, 4, 5], [0, 1, 2, 3, 4, 5], [0, 1, 2, 3, 4, 5, 7], [0, 1, 2, 3, 4, 5, 6, 7, 8], [0, 1, 2, 3, 4, 5, 6, 7, 8, 9], [0, 1, 2, 3, 4, 5, 6, 7, 8, 9, 10], [0, 1, 2, 3, 4, 5], [0, 1, 2, 3, 4, 5], [0, 1, 2, 3, 4, 5, 12, 13], [0, 1, 2, 3, 4, 5, 12, 13, 14], [0, 1, 2, 3, 4, 5, 12, 13, 14, 15], [0, 1, 2, 3, 4, 5, 6, 7, 8, 9, 10, 11, 12, 13, 14, 15, 16], [0, 1, 2, 3, 4, 5, 6, 7, 8, 9, 10, 11, 12, 13, 14, 15, 16, 17], [0, 1, 2, 3, 4, 5, 6, 7, 8, 9, 10, 11, 12, 13, 14, 15, 16, 17, 18], [0, 1, 2, 3, 4, 5, 6, 7, 8, 9, 10, 11, 12, 13, 14, 15, 16, 17, 18, 19], [0, 1, 2, 3, 4, 5, 6, 7, 8, 9, 10, 11, 12, 13, 14, 15, 16, 17, 18, 19, 20], [0, 1, 2, 3, 4, 5, 6, 7, 8, 9, 10, 11, 12, 13, 14, 15, 16, 17, 18, 19, 20], [0, 1, 2, 3, 4, 5, 6, 7, 8, 9, 10, 11, 12, 13, 14, 15, 16, 17, 18, 19, 20, 21, 22], [0, 1, 2, 3, 4, 5, 6, 7, 8, 9, 10, 11, 12, 13, 14, 15, 16, 17, 18, 19, 20, 21, 22, 23], [0, 1, 2, 3, 4, 5, 6, 7, 8, 9, 10, 11, 12, 13, 14, 15, 16, 17, 18, 19, 20], [0, 1, 2, 3, 4, 5, 6, 7, 8, 9, 10, 11, 12, 13, 14, 15, 16, 17, 18, 19, 20, 25], [0, 1, 2, 3, 4, 5, 6, 7, 8, 9, 10, 11, 12, 13, 14, 15, 16, 17, 18, 19, 20], [0, 1, 2, 3, 4, 5, 6, 7, 8, 9, 10, 11, 12, 13, 14, 15, 16, 17, 18, 19, 20, 27], [0, 1, 2, 3, 4, 5, 6, 7, 8, 9, 10, 11, 12, 13, 14, 15, 16, 17, 18, 19, 20], [0, 1, 2, 3, 4, 5, 6, 7, 8, 9, 10, 11, 12, 13, 14, 15, 16, 17, 18, 19, 20, 29], [0, 1, 2, 3, 4, 5, 6, 7, 8, 9, 10, 11, 12, 13, 14, 15, 16, 17, 18, 19, 20], [0, 1, 2, 3, 4, 5, 6, 7, 8, 9, 10, 11, 12, 13, 14, 15, 16, 17, 18, 19, 20, 31], [0, 1, 2, 3, 4, 5, 6, 7, 8, 9, 10, 11, 12, 13, 14, 15, 16, 17, 18, 19, 20], [0, 1, 2, 3, 4, 5, 6, 7, 8, 9, 10, 11, 12, 13, 14, 15, 16, 17, 18, 19, 20, 33], [0, 1, 2, 3, 4, 5, 6, 7, 8, 9, 10, 11, 12, 13, 14, 15, 16, 17, 18, 19, 20], [0, 1, 2, 3, 4, 5, 6, 7, 8, 9, 10, 11, 12, 13, 14, 15, 16, 17, 18, 19, 20, 35], [0, 1, 2, 3, 4, 5, 6, 7, 8, 9, 10, 11, 12, 13, 14, 15, 16, 17, 18, 19, 20, 25, 26, 27, 28, 29, 30, 31, 32, 33, 34, 35, 36], [0, 1, 2, 3, 4, 5, 6, 7, 8, 9, 10, 11, 12, 13, 14, 15, 16, 17, 18, 19, 20, 21, 22, 23, 24, 25, 26, 27, 28, 29, 30, 31, 32, 33, 34, 35, 36, 37], [0, 1, 2, 3, 4, 5, 6, 7, 8, 9, 10, 11, 12, 13, 14, 15, 16, 17, 18, 19, 20, 21, 22, 23, 24, 25, 26, 27, 28, 29, 30, 31, 32, 33, 34, 35, 36, 37, 38]]
      [3, 5, 6, 7, 100])
    (.cond (.t 100)
      (.seq (.region [⟨some 4, none, .mov (.c (.bool false))⟩]
        [4])
      .ret)
      .skip))) [3, 5, 6, 7])
  (.region [⟨some 49, none, .mov (.t 7)⟩,
    ⟨some 50, none, .bin .add (.t 49) (.c (.int .i64 1))⟩,
    ⟨some 7, none, .mov (.t 50)⟩]
    [3, 5, 6, 7])))
def RC.law28_Alike : RFn := ⟨2, [.slot 4],
  (.seq (.region [⟨some 3, none, .box (.t 1)⟩,
    ⟨some 4, none, .mov (.c (.bool false))⟩]
    [0, 3])
  (.seq (.region [⟨some 12, none, .mov (.t 0)⟩,
    ⟨some 13, none, .call F.roster_Roster_Tasks [.t 12]⟩,
    ⟨some 5, none, .mov (.t 13)⟩]
    [0, 3, 5])
  (.seq (.region [⟨some 14, none, .mov (.t 0)⟩,
    ⟨some 15, none, .call F.roster_Roster_Groups [.t 14]⟩,
    ⟨some 6, none, .mov (.t 15)⟩]
    [0, 3, 5, 6])
  (.seq (.seq (.drawn [⟨some 16, none, .mov (.t 5)⟩,
    ⟨some 17, none, .len (.t 16)⟩,
    ⟨some 18, none, .fieldAddr 1 (.t 3)⟩,
    ⟨some 19, none, .load false 1 (.t 18)⟩,
    ⟨some 20, none, .len (.t 19)⟩,
    ⟨some 21, none, .bin .neq (.t 17) (.t 20)⟩,
    ⟨some 22, none, .mov (.t 21)⟩,
    ⟨some 23, some (22, false), .mov (.t 6)⟩,
    ⟨some 24, some (22, false), .len (.t 23)⟩,
    ⟨some 25, some (22, false), .fieldAddr 2 (.t 3)⟩,
    ⟨some 26, some (22, false), .load false 1 (.t 25)⟩,
    ⟨some 27, some (22, false), .len (.t 26)⟩,
    ⟨some 28, some (22, false), .bin .neq (.t 24) (.t 27)⟩,
    ⟨some 29, none, .pick (.t 22) (.c (.bool true)) (.t 28)⟩,
    ⟨some 30, none, .mov (.t 29)⟩,
    ⟨some 31, some (30, false), .mov (.t 0)⟩,
    ⟨some 32, some (30, false), .call F.roster_Roster_Total [.t 31]⟩,
    ⟨some 33, some (30, false), .load true 3 (.t 3)⟩,
    ⟨some 34, some (30, false), .call F.ref28_Total [.t 33]⟩,
    ⟨some 35, some (30, false), .bin .neq (.t 32) (.t 34)⟩,
    ⟨some 36, none, .pick (.t 30) (.c (.bool true)) (.t 35)⟩,
    ⟨some 37, none, .mov (.t 36)⟩,
    ⟨some 38, some (37, false), .mov (.t 0)⟩,
    ⟨some 39, some (37, false), .call F.roster_Roster_Units [.t 38]⟩,
    ⟨some 40, some (37, false), .load true 3 (.t 3)⟩,
    ⟨some 41, some (37, false), .call F.ref28_Units [.t 40]⟩,
    ⟨some 42, some (37, false), .call F.ref08_Same [.t 39, .t 41]⟩,
    ⟨some 43, some (37, false), .un .not (.t 42)⟩,
    ⟨some 44, none, .pick (.t 37) (.c (.bool true)) (.t 43)⟩]
    [[], [0], [], [2], [3], [1, 4], [5], [6], [7, 6], [6], [9, 6], [10, 6], [8, 11, 6], [6, 12], [13, 6], [14], [15, 14, 14], [14], [17, 16, 14], [16, 18, 14], [14, 19], [20, 18], [21], [22, 21, 21], [21], [24, 23, 21], [23, 25, 25, 21], [26, 21], [21, 27]]
    [(0, []), (1, []), (2, []), (3, []), (4, []), (5, []), (6, []), (7, []), (8, []), (9, []), (10, []), (11, []), (12, []), (13, []), (14, []), (15, []), (17, []), (16, [3]), (18, []), (19, []), (20, []), (21, []), (22, []), (24, []), (23, [3]), (25, []), (26, []), (27, []), (28, [])]
    [[], [0], [], [2], [2, 3], [0, 1, 2, 3, 4], [0, 1, 2, 3, 4, 5], [0, 1, 2, 3, 4, 5, 6], [0, 1, 2, 3, 4, 5, 6, 7], [0, 1, 2, 3, 4, 5, 6], [0, 1, 2, 3, 4, 5, 6, 9], [0, 1, 2, 3, 4, 5, 6, 9, 10], [0, 1, 2, 3, 4, 5, 6, 7, 8, 9, 10, 11], [0, 1, 2, 3, 4, 5, 6, 7, 8, 9, 10, 11, 12], [0, 1, 2, 3, 4, 5, 6, 7, 8, 9, 10, 11, 12, 13], [0, 1, 2, 3, 4, 5, 6, 7, 8, 9, 10, 11, 12, 13, 14], [0, 1, 2, 3, 4, 5, 6, 7, 8, 9, 10, 11, 12, 13, 14, 15], [0, 1, 2, 3, 4, 5, 6, 7, 8, 9, 10, 11, 12, 13, 14], [0, 1, 2, 3, 4, 5, 6, 7, 8, 9, 10, 11, 12, 13, 14, 15, 16, 17], [0, 1, 2, 3, 4, 5, 6, 7, 8, 9, 10, 11, 12, 13, 14, 15, 16, 17, 18], [0, 1, 2, 3, 4, 5, 6, 7, 8, 9, 10, 11, 12, 13, 14, 15, 16, 17, 18, 19], [0, 1, 2, 3, 4, 5, 6, 7, 8, 9, 10, 11, 12, 13, 14, 15, 16, 17, 18, 19, 20], [0, 1, 2, 3, 4, 5, 6, 7, 8, 9, 10, 11, 12, 13, 14, 15, 16, 17, 18, 19, 20, 21], [0, 1, 2, 3, 4, 5, 6, 7, 8, 9, 10, 11, 12, 13, 14, 15, 16, 17, 18, 19, 20, 21, 22], [0, 1, 2, 3, 4, 5, 6, 7, 8, 9, 10, 11, 12, 13, 14, 15, 16, 17, 18, 19, 20, 21], [0, 1, 2, 3, 4, 5, 6, 7, 8, 9, 10, 11, 12, 13, 14, 15, 16, 17, 18, 19, 20, 21, 22, 23, 24], [0, 1, 2, 3, 4, 5, 6, 7, 8, 9, 10, 11, 12, 13, 14, 15, 16, 17, 18, 19, 20, 21, 22, 23, 24, 25], [0, 1, 2, 3, 4, 5, 6, 7, 8, 9, 10, 11, 12, 13, 14, 15, 16, 17, 18, 19, 20, 21, 22, 23, 24, 25, 26], [0, 1, 2, 3, 4, 5, 6, 7, 8, 9, 10, 11, 12, 13, 14, 15, 16, 17, 18, 19, 20, 21, 22, 23, 24, 25, 26, 27]]
    [3, 5, 6, 44])
  (.cond (.t 44)
    (.seq (.region [⟨some 4, none, .mov (.c (.bool false))⟩]
      [4])
    .ret)
    .skip))
  (.seq (.seq (.region [⟨some 7, none, .mov (.c (.int .i64 0))⟩]
    [3, 5, 6, 7])
  (.block 0
    (.loop [3, 5, 6, 7] RB.law28_Alike_2) [3, 6]))
  (.seq (.seq (.region [⟨some 10, none, .mov (.c (.int .i64 0))⟩]
    [3, 6, 10])
  (.block 2
    (.loop [3, 6, 10] RB.law28_Alike_1) []))
  (.seq (.region [⟨some 4, none, .mov (.c (.bool true))⟩]
    [4])
  .ret)))))))⟩

def RC.cores_Set_Len : RFn := ⟨1, [.slot 2],
  (.seq (.region [⟨some 2, none, .mov (.c (.int .i64 0))⟩]
    [0])
  (.seq (.seq (.region [⟨some 3, none, .mov (.t 0)⟩,
    ⟨some 4, none, .eq false .ptr (.t 3) (.c (.pointer none))⟩]
    [0, 4])
  (.cond (.t 4)
    (.seq (.region [⟨some 2, none, .mov (.c (.int .i64 0))⟩]
      [2])
    .ret)
    .skip))
  (.seq (.region [⟨some 5, none, .mov (.t 0)⟩,
    ⟨some 6, none, .nilchk (.t 5)⟩,
    ⟨some 7, none, .fieldAddr 0 (.t 6)⟩,
    ⟨some 8, none, .load false 1 (.t 7)⟩,
    ⟨some 9, none, .len (.t 8)⟩,
    ⟨some 2, none, .mov (.t 9)⟩]
    [2])
  .ret)))⟩

def RC.cores_Set_State : RFn := ⟨2, [.slot 4, .slot 5],
  (.seq (.region [⟨some 4, none, .mov (.c (.int .i64 0))⟩,
    ⟨some 5, none, .mov (.c (.bool false))⟩]
    [0, 1])
  (.seq (.seq (.region [⟨some 6, none, .mov (.t 1)⟩,
    ⟨some 7, none, .bin .lss (.t 6) (.c (.int .i64 0))⟩,
    ⟨some 8, none, .mov (.t 7)⟩,
    ⟨some 9, some (8, false), .mov (.t 1)⟩,
    ⟨some 10, some (8, false), .mov (.t 0)⟩,
    ⟨some 11, some (8, false), .call F.cores_Set_Len [.t 10]⟩,
    ⟨some 12, some (8, false), .bin .geq (.t 9) (.t 11)⟩,
    ⟨some 13, none, .pick (.t 8) (.c (.bool true)) (.t 12)⟩]
    [0, 1, 13])
  (.cond (.t 13)
    (.seq (.region [⟨some 4, none, .mov (.c (.int .i64 0))⟩,
      ⟨some 5, none, .mov (.c (.bool false))⟩]
      [4, 5])
    .ret)
    .skip))
  (.seq (.region [⟨some 14, none, .mov (.t 0)⟩,
    ⟨some 15, none, .nilchk (.t 14)⟩,
    ⟨some 16, none, .fieldAddr 0 (.t 15)⟩,
    ⟨some 17, none, .load false 1 (.t 16)⟩,
    ⟨some 18, none, .mov (.t 1)⟩,
    ⟨some 19, none, .idxS 1 (.t 17) (.t 18)⟩,
    ⟨some 20, none, .load false 1 (.t 19)⟩,
    ⟨some 4, none, .mov (.t 20)⟩,
    ⟨some 5, none, .mov (.c (.bool true))⟩]
    [4, 5])
  .ret)))⟩

def RC.roster_Roster_Fork : RFn := ⟨1, [.slot 2],
  (.seq (.region [⟨some 2, none, .mov (.c (.pointer none))⟩]
    [0])
  (.seq (.seq (.region [⟨some 3, none, .mov (.t 0)⟩,
    ⟨some 4, none, .call F.roster_Roster_none [.t 3]⟩]
    [0, 4])
  (.cond (.t 4)
    (.seq (.region [⟨some 2, none, .mov (.c (.pointer none))⟩]
      [2])
    .ret)
    .skip))
  (.seq (.drawn [⟨some 5, none, .mov (.t 0)⟩,
    ⟨some 6, none, .nilchk (.t 5)⟩,
    ⟨some 7, none, .fieldAddr 0 (.t 6)⟩,
    ⟨some 8, none, .load false 1 (.t 7)⟩,
    ⟨some 9, none, .mov (.t 0)⟩,
    ⟨some 10, none, .nilchk (.t 9)⟩,
    ⟨some 11, none, .fieldAddr 1 (.t 10)⟩,
    ⟨some 12, none, .load false 1 (.t 11)⟩,
    ⟨some 13, none, .call F.maps_Clone_map_int_roster_Task_int_roster_Task [.t 12]⟩,
    ⟨some 14, none, .mov (.t 0)⟩,
    ⟨some 15, none, .nilchk (.t 14)⟩,
    ⟨some 16, none, .fieldAddr 2 (.t 15)⟩,
    ⟨some 17, none, .load false 1 (.t 16)⟩,
    ⟨some 18, none, .call F.maps_Clone_map_int_roster_Group_int_roster_Group [.t 17]⟩,
    ⟨some 19, none, .build [(.int .i64 0), (.map none), (.map none)] [(0, 1, .t 8), (1, 1, .t 13), (2, 1, .t 18)]⟩,
    ⟨some 20, none, .box (.t 19)⟩,
    ⟨some 2, none, .mov (.t 20)⟩]
    [[], [0], [1], [2], [], [4], [5], [6], [7], [], [9], [10], [11], [12, 8], [3, 8, 13], [14], [15, 13, 0, 1, 2, 3, 4, 5, 6, 7, 8, 9, 10, 11, 12, 13, 14, 15]]
    [(0, []), (1, []), (2, []), (4, []), (5, []), (6, []), (9, []), (10, []), (11, []), (3, []), (7, []), (12, []), (8, [7, 16]), (13, [7]), (14, []), (15, []), (16, [])]
    [[], [0], [0, 1], [0, 1, 2], [], [4], [4, 5], [4, 5, 6], [4, 5, 6, 7], [], [9], [9, 10], [9, 10, 11], [4, 5, 6, 7, 8, 9, 10, 11, 12], [0, 1, 2, 3, 4, 5, 6, 7, 8, 9, 10, 11, 12, 13], [0, 1, 2, 3, 4, 5, 6, 7, 8, 9, 10, 11, 12, 13, 14], [0, 1, 2, 3, 4, 5, 6, 7, 8, 9, 10, 11, 12, 13, 14, 15]]
    [2])
  .ret)))⟩

def RC.cores_Set_Fork : RFn := ⟨1, [.slot 2],
  (.seq (.region [⟨some 2, none, .mov (.c (.pointer none))⟩]
    [0])
  (.seq (.seq (.region [⟨some 3, none, .mov (.t 0)⟩,
    ⟨some 4, none, .call F.cores_Set_Len [.t 3]⟩,
    ⟨some 5, none, .bin .eql (.t 4) (.c (.int .i64 0))⟩]
    [0, 5])
  (.cond (.t 5)
    (.seq (.region [⟨some 2, none, .mov (.c (.pointer none))⟩]
      [2])
    .ret)
    .skip))
  (.seq (.region [⟨some 6, none, .mov (.t 0)⟩,
    ⟨some 7, none, .nilchk (.t 6)⟩,
    ⟨some 8, none, .fieldAddr 0 (.t 7)⟩,
    ⟨some 9, none, .load false 1 (.t 8)⟩,
    ⟨some 10, none, .call F.slices_Clone_int_int [.t 9]⟩,
    ⟨some 11, none, .build [(.slice none 0 0)] [(0, 1, .t 10)]⟩,
    ⟨some 12, none, .box (.t 11)⟩,
    ⟨some 2, none, .mov (.t 12)⟩]
    [2])
  .ret)))⟩

def RC.roster_Roster_one : RFn := ⟨2, [.cell 4 true 6, .slot 5],
  (.seq (.region [⟨some 4, none, .alloc [(.int .i64 0), (.int .i64 0), (.int .i64 0), (.int .i64 0), (.int .i64 0), (.bool false)]⟩,
    ⟨some 5, none, .mov (.c (.int .i64 0))⟩]
    [0, 1, 4])
  (.seq (.seq (.region [⟨some 8, none, .mov (.t 0)⟩,
    ⟨some 9, none, .call F.roster_Roster_none [.t 8]⟩]
    [0, 1, 4, 9])
  (.cond (.t 9)
    (.seq (.region [⟨some 10, none, .build [(.int .i64 0), (.int .i64 0), (.int .i64 0), (.int .i64 0), (.int .i64 0), (.bool false)] []⟩,
      ⟨none, none, .store 6 (.t 4) (.t 10)⟩,
      ⟨some 5, none, .mov (.c (.int .i64 2))⟩]
      [4, 5])
    .ret)
    .skip))
  (.seq (.region [⟨some 12, none, .mov (.t 0)⟩,
    ⟨some 13, none, .nilchk (.t 12)⟩,
    ⟨some 14, none, .fieldAddr 1 (.t 13)⟩,
    ⟨some 15, none, .load false 1 (.t 14)⟩,
    ⟨some 16, none, .mov (.t 1)⟩,
    ⟨some 17, none, .look .int (.agg #[(.int .i64 0), (.int .i64 0), (.int .i64 0), (.int .i64 0), (.int .i64 0), (.bool false)]) true (.t 15) (.t 16)⟩,
    ⟨some 11, none, .mov (.t 17)⟩,
    ⟨some 18, none, .ext 0 (.t 11)⟩,
    ⟨some 19, none, .ext 1 (.t 11)⟩,
    ⟨some 6, none, .alloc [(.int .i64 0), (.int .i64 0), (.int .i64 0), (.int .i64 0), (.int .i64 0), (.bool false)]⟩,
    ⟨none, none, .store 6 (.t 6) (.t 18)⟩,
    ⟨some 7, none, .mov (.t 19)⟩]
    [4, 6, 7])
  (.seq (.seq (.region [⟨some 20, none, .mov (.t 7)⟩,
    ⟨some 21, none, .un .not (.t 20)⟩]
    [4, 6, 21])
  (.cond (.t 21)
    (.seq (.region [⟨some 22, none, .build [(.int .i64 0), (.int .i64 0), (.int .i64 0), (.int .i64 0), (.int .i64 0), (.bool false)] []⟩,
      ⟨none, none, .store 6 (.t 4) (.t 22)⟩,
      ⟨some 5, none, .mov (.c (.int .i64 10))⟩]
      [4, 5])
    .ret)
    .skip))
  (.seq (.region [⟨some 23, none, .load true 6 (.t 6)⟩,
    ⟨none, none, .store 6 (.t 4) (.t 23)⟩,
    ⟨some 5, none, .mov (.c (.int .i64 0))⟩]
    [4, 5])
  .ret)))))⟩

def RC.roster_Roster_count : RFn := ⟨3, [],
  (.seq (.region [⟨some 9, none, .mov (.t 0)⟩,
    ⟨some 10, none, .nilchk (.t 9)⟩,
    ⟨some 11, none, .fieldAddr 2 (.t 10)⟩,
    ⟨some 12, none, .load false 1 (.t 11)⟩,
    ⟨some 13, none, .mov (.t 1)⟩,
    ⟨some 14, none, .look .int (.agg #[(.int .i64 0), (.int .i64 0), (.int .i64 0)]) true (.t 12) (.t 13)⟩,
    ⟨some 8, none, .mov (.t 14)⟩,
    ⟨some 15, none, .ext 0 (.t 8)⟩,
    ⟨some 16, none, .ext 1 (.t 8)⟩,
    ⟨some 6, none, .alloc [(.int .i64 0), (.int .i64 0), (.int .i64 0)]⟩,
    ⟨none, none, .store 3 (.t 6) (.t 15)⟩,
    ⟨some 7, none, .mov (.t 16)⟩]
    [0, 1, 2, 6, 7])
  (.seq (.region [⟨some 17, none, .mov (.t 7)⟩]
    [0, 1, 2, 6, 17])
  (.cond (.t 17)
    (.seq (.region [⟨some 18, none, .fieldAddr 2 (.t 6)⟩,
      ⟨some 19, none, .load false 1 (.t 18)⟩,
      ⟨some 20, none, .mov (.t 2)⟩,
      ⟨some 21, none, .bin .add (.t 19) (.t 20)⟩,
      ⟨some 22, none, .fieldAddr 2 (.t 6)⟩,
      ⟨none, none, .store 1 (.t 22) (.t 21)⟩]
      [0, 1, 6])
    (.drawn [⟨some 23, none, .mov (.t 0)⟩,
      ⟨some 24, none, .nilchk (.t 23)⟩,
      ⟨some 25, none, .fieldAddr 2 (.t 24)⟩,
      ⟨some 26, none, .load false 1 (.t 25)⟩,
      ⟨some 27, none, .mov (.t 1)⟩,
      ⟨some 28, none, .load true 3 (.t 6)⟩,
      ⟨none, none, .upd .int (.t 26) (.t 27) (.t 28)⟩]
      [[], [0], [1], [2], [], [], [3, 4, 5, 0, 1, 2, 3, 4, 5]]
      [(0, []), (1, []), (2, []), (4, []), (3, []), (5, []), (6, [])]
      [[], [0], [0, 1], [0, 1, 2], [], [], [0, 1, 2, 3, 4, 5]]
      []))
    .skip)))⟩

def RB.slices_Repeat_int_int_1 : RCode :=
  (.seq (.seq (.region [⟨some 34, none, .mov (.t 8)⟩,
    ⟨some 35, none, .mov (.t 7)⟩,
    ⟨some 36, none, .len (.t 35)⟩,
    ⟨some 37, none, .bin .lss (.t 34) (.t 36)⟩]
    [7, 8, 37])
  (.cond (.t 37)
    .skip
    (.exit 0)))
  (.block 1
    (.drawn [⟨some 38, none, .mov (.t 8)⟩,
      ⟨some 39, none, .mov (.t 7)⟩,
      ⟨some 40, none, .mov (.t 8)⟩,
      ⟨some 41, none, .sub 1 (.t 39) (some (.t 40)) none none⟩,
      ⟨some 42, none, .mov (.t 7)⟩,
      ⟨some 43, none, .mov (.t 8)⟩,
      ⟨some 44, none, .sub 1 (.t 42) none (some (.t 43)) none⟩,
      ⟨some 45, none, .copy 1 (.t 41) (.t 44)⟩,
      ⟨some 46, none, .bin .add (.t 38) (.t 45)⟩,
      ⟨some 8, none, .mov (.t 46)⟩]
      [[], [], [], [1, 2], [], [], [4, 5], [3, 6], [0, 7], [8, 7, 0, 1, 2, 3, 4, 5, 6, 7, 8]]
      [(0, []), (1, []), (2, []), (4, []), (5, []), (3, []), (6, []), (7, []), (8, []), (9, [])]
      [[], [], [], [1, 2], [], [], [4, 5], [1, 2, 3, 4, 5, 6], [0, 1, 2, 3, 4, 5, 6, 7], [0, 1, 2, 3, 4, 5, 6, 7, 8]]
      [7, 8]) [7, 8]))
def RC.slices_Repeat_int_int : RFn := ⟨2, [.slot 4],
  (.seq (.region [⟨some 4, none, .mov (.c (.slice none 0 0))⟩]
    [0, 1])
  (.seq (.seq (.region [⟨some 9, none, .mov (.t 1)⟩,
    ⟨some 10, none, .bin .lss (.t 9) (.c (.int .i64 0))⟩]
    [0, 1, 10])
  (.cond (.t 10)
    (.region [⟨some 11, none, .stop⟩,
      ⟨none, none, .stop⟩]
      [0, 1])
    .skip))
  (.seq (.region [⟨some 13, none, .mov (.t 0)⟩,
    ⟨some 14, none, .len (.t 13)⟩,
    ⟨some 15, none, .conv .u64 (.t 14)⟩,
    ⟨some 16, none, .mov (.t 1)⟩,
    ⟨some 17, none, .conv .u64 (.t 16)⟩,
    ⟨some 18, none, .call F.math_bits_Mul [.t 15, .t 17]⟩,
    ⟨some 12, none, .mov (.t 18)⟩,
    ⟨some 19, none, .ext 0 (.t 12)⟩,
    ⟨some 20, none, .ext 1 (.t 12)⟩,
    ⟨some 5, none, .mov (.t 19)⟩,
    ⟨some 6, none, .mov (.t 20)⟩]
    [0, 5, 6])
  (.seq (.seq (.region [⟨some 21, none, .mov (.t 5)⟩,
    ⟨some 22, none, .bin .gtr (.t 21) (.c (u64 0#64))⟩,
    ⟨some 23, none, .mov (.t 22)⟩,
    ⟨some 24, some (23, false), .mov (.t 6)⟩,
    ⟨some 25, some (23, false), .bin .gtr (.t 24) (.c (u64 9223372036854775807#64))⟩,
    ⟨some 26, none, .pick (.t 23) (.c (.bool true)) (.t 25)⟩]
    [0, 6, 26])
  (.cond (.t 26)
    (.region [⟨some 27, none, .stop⟩,
      ⟨none, none, .stop⟩]
      [0, 6])
    .skip))
  (.seq (.region [⟨some 28, none, .mov (.t 6)⟩,
    ⟨some 29, none, .conv .i64 (.t 28)⟩,
    ⟨some 30, none, .mkslice 1 8 [(.int .i64 0)] (.t 29) (.t 29)⟩,
    ⟨some 7, none, .mov (.t 30)⟩]
    [0, 7])
  (.seq (.region [⟨some 31, none, .mov (.t 7)⟩,
    ⟨some 32, none, .mov (.t 0)⟩,
    ⟨some 33, none, .copy 1 (.t 31) (.t 32)⟩,
    ⟨some 8, none, .mov (.t 33)⟩]
    [7, 8])
  (.seq (.block 0
    (.loop [7, 8] RB.slices_Repeat_int_int_1) [7])
  (.seq (.region [⟨some 47, none, .mov (.t 7)⟩,
    ⟨some 4, none, .mov (.t 47)⟩]
    [4])
  .ret))))))))⟩

def RC.cores_Set_Count : RFn := ⟨2, [.slot 4],
  (.seq (.region [⟨some 4, none, .mov (.c (.int .i64 0))⟩]
    [0, 1])
  (.seq (.region [⟨some 5, none, .mov (.t 0)⟩,
    ⟨some 6, none, .mov (.t 1)⟩,
    ⟨some 7, none, .call F.cores_Set_In [.t 5, .t 6]⟩,
    ⟨some 8, none, .call F.math_bits_OnesCount32 [.t 7]⟩,
    ⟨some 4, none, .mov (.t 8)⟩]
    [4])
  .ret))⟩

def RC.roster_Roster_Total : RFn := ⟨1, [.slot 2],
  (.seq (.region [⟨some 2, none, .mov (.c (.int .i64 0))⟩]
    [0])
  (.seq (.region [⟨some 6, none, .mov (.t 0)⟩,
    ⟨some 7, none, .call F.roster_Roster_Units [.t 6]⟩,
    ⟨some 8, none, .call F.order_Total [.t 7]⟩,
    ⟨some 5, none, .mov (.t 8)⟩,
    ⟨some 9, none, .ext 0 (.t 5)⟩,
    ⟨some 10, none, .ext 1 (.t 5)⟩,
    ⟨some 3, none, .mov (.t 9)⟩,
    ⟨some 4, none, .mov (.t 10)⟩]
    [3])
  (.seq (.region [⟨some 11, none, .mov (.t 3)⟩,
    ⟨some 2, none, .mov (.t 11)⟩]
    [2])
  .ret)))⟩

def RC.ref27_with : RFn := ⟨3, [.slot 6],
  (.seq (.region [⟨some 6, none, .mov (.c (.slice none 0 0))⟩]
    [0, 1, 2])
  (.seq (.region [⟨some 8, none, .bslice [] [] 0 1⟩,
    ⟨some 9, none, .mov (.t 0)⟩,
    ⟨some 10, none, .app 1 8 (.t 8) (.t 9)⟩,
    ⟨some 7, none, .mov (.t 10)⟩]
    [1, 2, 7])
  (.seq (.region [⟨some 11, none, .mov (.t 7)⟩,
    ⟨some 12, none, .mov (.t 1)⟩,
    ⟨some 13, none, .mov (.t 2)⟩,
    ⟨some 14, none, .idxS 1 (.t 11) (.t 12)⟩,
    ⟨none, none, .store 1 (.t 14) (.t 13)⟩]
    [7])
  (.seq (.region [⟨some 15, none, .mov (.t 7)⟩,
    ⟨some 6, none, .mov (.t 15)⟩]
    [6])
  .ret))))⟩

def RB.ref27_Count_1 : RCode :=
  (.seq (.seq (.region [⟨some 7, none, .mov (.t 6)⟩,
    ⟨some 8, none, .mov (.t 0)⟩,
    ⟨some 9, none, .len (.t 8)⟩,
    ⟨some 10, none, .bin .lss (.t 7) (.t 9)⟩]
    [0, 1, 5, 6, 10])
  (.cond (.t 10)
    .skip
    (.exit 0)))
  (.seq (.block 1
    (.seq (.region [⟨some 13, none, .mov (.t 0)⟩,
      ⟨some 14, none, .mov (.t 6)⟩,
      ⟨some 15, none, .idxS 1 (.t 13) (.t 14)⟩,
      ⟨some 16, none, .load false 1 (.t 15)⟩,
      ⟨some 17, none, .mov (.t 1)⟩,
      ⟨some 18, none, .bin .eql (.t 16) (.t 17)⟩]
      [0, 1, 5, 6, 18])
    (.cond (.t 18)
      (.region [⟨some 19, none, .mov (.t 5)⟩,
        ⟨some 20, none, .bin .add (.t 19) (.c (.int .i64 1))⟩,
        ⟨some 5, none, .mov (.t 20)⟩]
        [0, 1, 5, 6])
      .skip)) [0, 1, 5, 6])
  (.region [⟨some 11, none, .mov (.t 6)⟩,
    ⟨some 12, none, .bin .add (.t 11) (.c (.int .i64 1))⟩,
    ⟨some 6, none, .mov (.t 12)⟩]
    [0, 1, 5, 6])))
def RC.ref27_Count : RFn := ⟨2, [.slot 4],
  (.seq (.region [⟨some 4, none, .mov (.c (.int .i64 0))⟩]
    [0, 1])
  (.seq (.region [⟨some 5, none, .mov (.c (.int .i64 0))⟩]
    [0, 1, 5])
  (.seq (.seq (.region [⟨some 6, none, .mov (.c (.int .i64 0))⟩]
    [0, 1, 5, 6])
  (.block 0
    (.loop [0, 1, 5, 6] RB.ref27_Count_1) [5]))
  (.seq (.region [⟨some 21, none, .mov (.t 5)⟩,
    ⟨some 4, none, .mov (.t 21)⟩]
    [4])
  .ret))))⟩

def RB.ref28_find_1 : RCode :=
  (.seq (.seq (.region [⟨some 6, none, .mov (.t 5)⟩,
    ⟨some 7, none, .fieldAddr 1 (.t 2)⟩,
    ⟨some 8, none, .load false 1 (.t 7)⟩,
    ⟨some 9, none, .len (.t 8)⟩,
    ⟨some 10, none, .bin .lss (.t 6) (.t 9)⟩]
    [1, 2, 5, 10])
  (.cond (.t 10)
    .skip
    (.exit 0)))
  (.seq (.block 1
    (.seq (.region [⟨some 13, none, .fieldAddr 1 (.t 2)⟩,
      ⟨some 14, none, .load false 1 (.t 13)⟩,
      ⟨some 15, none, .mov (.t 5)⟩,
      ⟨some 16, none, .idxS 6 (.t 14) (.t 15)⟩,
      ⟨some 17, none, .fieldAddr 0 (.t 16)⟩,
      ⟨some 18, none, .load false 1 (.t 17)⟩,
      ⟨some 19, none, .mov (.t 1)⟩,
      ⟨some 20, none, .bin .eql (.t 18) (.t 19)⟩]
      [1, 2, 5, 20])
    (.cond (.t 20)
      (.seq (.region [⟨some 21, none, .mov (.t 5)⟩,
        ⟨some 4, none, .mov (.t 21)⟩]
        [4])
      .ret)
      .skip)) [1, 2, 5])
  (.region [⟨some 11, none, .mov (.t 5)⟩,
    ⟨some 12, none, .bin .add (.t 11) (.c (.int .i64 1))⟩,
    ⟨some 5, none, .mov (.t 12)⟩]
    [1, 2, 5])))
def RC.ref28_find : RFn := ⟨2, [.slot 4],
  (.seq (.region [⟨some 2, none, .box (.t 0)⟩,
    ⟨some 4, none, .mov (.c (.int .i64 0))⟩]
    [1, 2])
  (.seq (.seq (.region [⟨some 5, none, .mov (.c (.int .i64 0))⟩]
    [1, 2, 5])
  (.block 0
    (.loop [1, 2, 5] RB.ref28_find_1) []))
  (.seq (.region [⟨some 4, none, .mov (.c (.int .i64 (-1)))⟩]
    [4])
  .ret)))⟩

def RC.ref28_tasks : RFn := ⟨2, [.cell 4 true 3, .slot 5],
  (.seq (.region [⟨some 2, none, .box (.t 0)⟩,
    ⟨some 3, none, .box (.t 1)⟩,
    ⟨some 4, none, .alloc [(.int .i64 0), (.slice none 0 0), (.slice none 0 0)]⟩,
    ⟨some 5, none, .mov (.c (.int .i64 0))⟩]
    [2, 3, 4])
  (.seq (.region [⟨some 8, none, .load true 3 (.t 2)⟩,
    ⟨some 9, none, .fieldAddr 1 (.t 3)⟩,
    ⟨some 10, none, .load false 1 (.t 9)⟩,
    ⟨some 11, none, .call F.ref28_find [.t 8, .t 10]⟩,
    ⟨some 6, none, .mov (.t 11)⟩]
    [2, 3, 4, 6])
  (.seq (.seq (.region [⟨some 12, none, .fieldAddr 0 (.t 3)⟩,
    ⟨some 13, none, .load false 1 (.t 12)⟩,
    ⟨some 14, none, .bin .eql (.t 13) (.c (.int .i64 1))⟩]
    [2, 3, 4, 6, 14])
  (.cond (.t 14)
    (.seq (.seq (.region [⟨some 15, none, .fieldAddr 1 (.t 3)⟩,
      ⟨some 16, none, .load false 1 (.t 15)⟩,
      ⟨some 17, none, .bin .lss (.t 16) (.c (.int .i64 1))⟩,
      ⟨some 18, none, .mov (.t 17)⟩,
      ⟨some 19, some (18, false), .fieldAddr 1 (.t 3)⟩,
      ⟨some 20, some (18, false), .load false 1 (.t 19)⟩,
      ⟨some 21, some (18, false), .bin .gtr (.t 20) (.c (.int .i64 200))⟩,
      ⟨some 22, none, .pick (.t 18) (.c (.bool true)) (.t 21)⟩]
      [2, 3, 4, 6, 22])
    (.cond (.t 22)
      (.seq (.region [⟨some 23, none, .load true 3 (.t 2)⟩,
        ⟨none, none, .store 3 (.t 4) (.t 23)⟩,
        ⟨some 5, none, .mov (.c (.int .i64 20))⟩]
        [4, 5])
      .ret)
      .skip))
    (.seq (.seq (.region [⟨some 24, none, .mov (.t 6)⟩,
      ⟨some 25, none, .bin .geq (.t 24) (.c (.int .i64 0))⟩]
      [2, 3, 4, 25])
    (.cond (.t 25)
      (.seq (.region [⟨some 26, none, .load true 3 (.t 2)⟩,
        ⟨none, none, .store 3 (.t 4) (.t 26)⟩,
        ⟨some 5, none, .mov (.c (.int .i64 11))⟩]
        [4, 5])
      .ret)
      .skip))
    (.seq (.seq (.region [⟨some 27, none, .load true 3 (.t 2)⟩,
      ⟨some 28, none, .fieldAddr 3 (.t 3)⟩,
      ⟨some 29, none, .load false 1 (.t 28)⟩,
      ⟨some 30, none, .call F.ref28_share [.t 27, .t 29]⟩,
      ⟨some 31, none, .un .not (.t 30)⟩]
      [2, 3, 4, 31])
    (.cond (.t 31)
      (.seq (.region [⟨some 32, none, .load true 3 (.t 2)⟩,
        ⟨none, none, .store 3 (.t 4) (.t 32)⟩,
        ⟨some 5, none, .mov (.c (.int .i64 21))⟩]
        [4, 5])
      .ret)
      .skip))
    (.seq (.seq (.region [⟨some 33, none, .fieldAddr 1 (.t 2)⟩,
      ⟨some 34, none, .load false 1 (.t 33)⟩,
      ⟨some 35, none, .len (.t 34)⟩,
      ⟨some 36, none, .bin .geq (.t 35) (.c (.int .i64 96))⟩]
      [2, 3, 4, 36])
    (.cond (.t 36)
      (.seq (.region [⟨some 37, none, .load true 3 (.t 2)⟩,
        ⟨none, none, .store 3 (.t 4) (.t 37)⟩,
        ⟨some 5, none, .mov (.c (.int .i64 13))⟩]
        [4, 5])
      .ret)
      .skip))
    (.seq (.region [⟨some 38, none, .load true 3 (.t 2)⟩,
      ⟨some 39, none, .fieldAddr 1 (.t 3)⟩,
      ⟨some 40, none, .load false 1 (.t 39)⟩,
      ⟨some 41, none, .fieldAddr 3 (.t 3)⟩,
      ⟨some 42, none, .load false 1 (.t 41)⟩,
      ⟨some 43, none, .build [(.int .i64 0), (.int .i64 0), (.int .i64 0), (.int .i64 0), (.int .i64 0), (.bool false)] [(0, 1, .t 40), (2, 1, .t 42)]⟩,
      ⟨some 44, none, .call F.ref28_with [.t 38, .t 43]⟩,
      ⟨none, none, .store 3 (.t 4) (.t 44)⟩,
      ⟨some 5, none, .mov (.c (.int .i64 0))⟩]
      [4, 5])
    .ret)))))
    .skip))
  (.seq (.seq (.region [⟨some 45, none, .mov (.t 6)⟩,
    ⟨some 46, none, .bin .lss (.t 45) (.c (.int .i64 0))⟩]
    [2, 3, 4, 6, 46])
  (.cond (.t 46)
    (.seq (.region [⟨some 47, none, .load true 3 (.t 2)⟩,
      ⟨none, none, .store 3 (.t 4) (.t 47)⟩,
      ⟨some 5, none, .mov (.c (.int .i64 10))⟩]
      [4, 5])
    .ret)
    .skip))
  (.seq (.region [⟨some 48, none, .fieldAddr 1 (.t 2)⟩,
    ⟨some 49, none, .load false 1 (.t 48)⟩,
    ⟨some 50, none, .mov (.t 6)⟩,
    ⟨some 51, none, .idxS 6 (.t 49) (.t 50)⟩,
    ⟨some 52, none, .load true 6 (.t 51)⟩,
    ⟨some 7, none, .alloc [(.int .i64 0), (.int .i64 0), (.int .i64 0), (.int .i64 0), (.int .i64 0), (.bool false)]⟩,
    ⟨none, none, .store 6 (.t 7) (.t 52)⟩]
    [2, 3, 4, 7])
  (.seq (.seq (.region [⟨some 53, none, .fieldAddr 0 (.t 3)⟩,
    ⟨some 54, none, .load false 1 (.t 53)⟩]
    [2, 3, 4, 7, 54])
  (.block 0
    (.seq (.region [⟨some 56, none, .bin .eql (.t 54) (.c (.int .i64 2))⟩,
      ⟨some 55, none, .mov (.t 56)⟩]
      [2, 3, 4, 7, 54, 55])
    (.cond (.t 55)
      (.seq (.region [⟨some 57, none, .load true 3 (.t 2)⟩,
        ⟨some 58, none, .fieldAddr 1 (.t 3)⟩,
        ⟨some 59, none, .load false 1 (.t 58)⟩,
        ⟨some 60, none, .call F.ref28_without [.t 57, .t 59]⟩,
        ⟨none, none, .store 3 (.t 4) (.t 60)⟩,
        ⟨some 5, none, .mov (.c (.int .i64 0))⟩]
        [4, 5])
      .ret)
      (.seq (.region [⟨some 62, none, .bin .eql (.t 54) (.c (.int .i64 3))⟩,
        ⟨some 61, none, .mov (.t 62)⟩]
        [2, 3, 4, 7, 54, 61])
      (.cond (.t 61)
        (.seq (.seq (.region [⟨some 63, none, .fieldAddr 1 (.t 7)⟩,
          ⟨some 64, none, .load false 1 (.t 63)⟩,
          ⟨some 65, none, .bin .neq (.t 64) (.c (.int .i64 0))⟩]
          [2, 3, 4, 7, 65])
        (.cond (.t 65)
          (.seq (.region [⟨some 66, none, .load true 3 (.t 2)⟩,
            ⟨none, none, .store 3 (.t 4) (.t 66)⟩,
            ⟨some 5, none, .mov (.c (.int .i64 14))⟩]
            [4, 5])
          .ret)
          .skip))
        (.seq (.seq (.region [⟨some 67, none, .load true 3 (.t 2)⟩,
          ⟨some 68, none, .fieldAddr 3 (.t 3)⟩,
          ⟨some 69, none, .load false 1 (.t 68)⟩,
          ⟨some 70, none, .call F.ref28_share [.t 67, .t 69]⟩,
          ⟨some 71, none, .un .not (.t 70)⟩]
          [2, 3, 4, 7, 71])
        (.cond (.t 71)
          (.seq (.region [⟨some 72, none, .load true 3 (.t 2)⟩,
            ⟨none, none, .store 3 (.t 4) (.t 72)⟩,
            ⟨some 5, none, .mov (.c (.int .i64 21))⟩]
            [4, 5])
          .ret)
          .skip))
        (.region [⟨some 73, none, .fieldAddr 3 (.t 3)⟩,
          ⟨some 74, none, .load false 1 (.t 73)⟩,
          ⟨some 75, none, .fieldAddr 2 (.t 7)⟩,
          ⟨none, none, .store 1 (.t 75) (.t 74)⟩]
          [2, 4, 7])))
        (.seq (.seq (.region [⟨some 77, none, .bin .eql (.t 54) (.c (.int .i64 4))⟩,
          ⟨some 76, none, .mov (.t 77)⟩]
          [2, 3, 4, 7, 54, 76])
        (.cond (.t 76)
          .skip
          (.region [⟨some 78, none, .bin .eql (.t 54) (.c (.int .i64 5))⟩,
            ⟨some 76, none, .mov (.t 78)⟩]
            [2, 3, 4, 7, 76])))
        (.cond (.t 76)
          (.seq (.seq (.region [⟨some 79, none, .fieldAddr 5 (.t 7)⟩,
            ⟨some 80, none, .load false 1 (.t 79)⟩,
            ⟨some 81, none, .fieldAddr 0 (.t 3)⟩,
            ⟨some 82, none, .load false 1 (.t 81)⟩,
            ⟨some 83, none, .bin .eql (.t 82) (.c (.int .i64 4))⟩,
            ⟨some 84, none, .eq false .bool (.t 80) (.t 83)⟩]
            [2, 3, 4, 7, 84])
          (.cond (.t 84)
            (.seq (.region [⟨some 85, none, .load true 3 (.t 2)⟩,
              ⟨none, none, .store 3 (.t 4) (.t 85)⟩,
              ⟨some 5, none, .mov (.c (.int .i64 15))⟩]
              [4, 5])
            .ret)
            .skip))
          (.region [⟨some 86, none, .fieldAddr 0 (.t 3)⟩,
            ⟨some 87, none, .load false 1 (.t 86)⟩,
            ⟨some 88, none, .bin .eql (.t 87) (.c (.int .i64 4))⟩,
            ⟨some 89, none, .fieldAddr 5 (.t 7)⟩,
            ⟨none, none, .store 1 (.t 89) (.t 88)⟩]
            [2, 4, 7]))
          .skip)))))) [2, 4, 7]))
  (.seq (.region [⟨some 90, none, .load true 3 (.t 2)⟩,
    ⟨some 91, none, .load true 6 (.t 7)⟩,
    ⟨some 92, none, .call F.ref28_with [.t 90, .t 91]⟩,
    ⟨none, none, .store 3 (.t 4) (.t 92)⟩,
    ⟨some 5, none, .mov (.c (.int .i64 0))⟩]
    [4, 5])
  .ret)))))))⟩

def RC.ref28_groups : RFn := ⟨2, [.cell 4 true 3, .slot 5],
  (.seq (.region [⟨some 2, none, .box (.t 0)⟩,
    ⟨some 3, none, .box (.t 1)⟩,
    ⟨some 4, none, .alloc [(.int .i64 0), (.slice none 0 0), (.slice none 0 0)]⟩,
    ⟨some 5, none, .mov (.c (.int .i64 0))⟩]
    [2, 3, 4])
  (.seq (.region [⟨some 7, none, .load true 3 (.t 2)⟩,
    ⟨some 8, none, .fieldAddr 2 (.t 3)⟩,
    ⟨some 9, none, .load false 1 (.t 8)⟩,
    ⟨some 10, none, .call F.ref28_Group0 [.t 7, .t 9]⟩,
    ⟨some 6, none, .mov (.t 10)⟩]
    [2, 3, 4, 6])
  (.seq (.seq (.region [⟨some 11, none, .fieldAddr 0 (.t 3)⟩,
    ⟨some 12, none, .load false 1 (.t 11)⟩,
    ⟨some 13, none, .bin .eql (.t 12) (.c (.int .i64 6))⟩]
    [2, 3, 4, 6, 13])
  (.cond (.t 13)
    (.seq (.seq (.region [⟨some 14, none, .fieldAddr 2 (.t 3)⟩,
      ⟨some 15, none, .load false 1 (.t 14)⟩,
      ⟨some 16, none, .bin .lss (.t 15) (.c (.int .i64 1))⟩,
      ⟨some 17, none, .mov (.t 16)⟩,
      ⟨some 18, some (17, false), .fieldAddr 2 (.t 3)⟩,
      ⟨some 19, some (17, false), .load false 1 (.t 18)⟩,
      ⟨some 20, some (17, false), .bin .gtr (.t 19) (.c (.int .i64 40))⟩,
      ⟨some 21, none, .pick (.t 17) (.c (.bool true)) (.t 20)⟩]
      [2, 3, 4, 6, 21])
    (.cond (.t 21)
      (.seq (.region [⟨some 22, none, .load true 3 (.t 2)⟩,
        ⟨none, none, .store 3 (.t 4) (.t 22)⟩,
        ⟨some 5, none, .mov (.c (.int .i64 25))⟩]
        [4, 5])
      .ret)
      .skip))
    (.seq (.region [⟨some 23, none, .mov (.t 6)⟩,
      ⟨some 24, none, .bin .geq (.t 23) (.c (.int .i64 0))⟩]
      [2, 3, 4, 6, 24])
    (.cond (.t 24)
      (.seq (.region [⟨some 25, none, .load true 3 (.t 2)⟩,
        ⟨none, none, .store 3 (.t 4) (.t 25)⟩,
        ⟨some 5, none, .mov (.c (.int .i64 11))⟩]
        [4, 5])
      .ret)
      .skip)))
    (.seq (.region [⟨some 26, none, .mov (.t 6)⟩,
      ⟨some 27, none, .bin .lss (.t 26) (.c (.int .i64 0))⟩]
      [2, 3, 4, 6, 27])
    (.cond (.t 27)
      (.seq (.region [⟨some 28, none, .load true 3 (.t 2)⟩,
        ⟨none, none, .store 3 (.t 4) (.t 28)⟩,
        ⟨some 5, none, .mov (.c (.int .i64 25))⟩]
        [4, 5])
      .ret)
      .skip))))
  (.seq (.seq (.region [⟨some 29, none, .fieldAddr 0 (.t 3)⟩,
    ⟨some 30, none, .load false 1 (.t 29)⟩,
    ⟨some 31, none, .bin .eql (.t 30) (.c (.int .i64 8))⟩]
    [2, 3, 4, 6, 31])
  (.cond (.t 31)
    (.seq (.seq (.region [⟨some 32, none, .load true 3 (.t 2)⟩,
      ⟨some 33, none, .fieldAddr 2 (.t 3)⟩,
      ⟨some 34, none, .load false 1 (.t 33)⟩,
      ⟨some 35, none, .call F.ref28_Members [.t 32, .t 34]⟩,
      ⟨some 36, none, .bin .gtr (.t 35) (.c (.int .i64 0))⟩]
      [2, 4, 6, 36])
    (.cond (.t 36)
      (.seq (.region [⟨some 37, none, .load true 3 (.t 2)⟩,
        ⟨none, none, .store 3 (.t 4) (.t 37)⟩,
        ⟨some 5, none, .mov (.c (.int .i64 16))⟩]
        [4, 5])
      .ret)
      .skip))
    (.seq (.drawn [⟨some 38, none, .load true 3 (.t 2)⟩,
      ⟨some 39, none, .fieldAddr 2 (.t 2)⟩,
      ⟨some 40, none, .load false 1 (.t 39)⟩,
      ⟨some 41, none, .mov (.t 6)⟩,
      ⟨some 42, none, .idxS 2 (.t 40) (.t 41)⟩,
      ⟨some 43, none, .load true 2 (.t 42)⟩,
      ⟨some 44, none, .call F.ref28_groupWith [.t 38, .t 43, .c (.bool false)]⟩,
      ⟨none, none, .store 3 (.t 4) (.t 44)⟩,
      ⟨some 5, none, .mov (.c (.int .i64 0))⟩]
      [[], [], [1], [], [2, 3], [4], [0, 5], [6, 6, 0, 1, 2, 3, 4, 5, 6], [7, 0, 1, 2, 3, 4, 5, 6, 7]]
      [(1, []), (3, []), (0, []), (2, []), (4, []), (5, []), (6, []), (7, []), (8, [])]
      [[], [], [1], [], [1, 2, 3], [1, 2, 3, 4], [0, 1, 2, 3, 4, 5], [0, 1, 2, 3, 4, 5, 6], [0, 1, 2, 3, 4, 5, 6, 7]]
      [4, 5])
    .ret))
    .skip))
  (.seq (.seq (.region [⟨some 45, none, .load true 3 (.t 2)⟩,
    ⟨some 46, none, .fieldAddr 3 (.t 3)⟩,
    ⟨some 47, none, .load false 1 (.t 46)⟩,
    ⟨some 48, none, .call F.ref28_share [.t 45, .t 47]⟩,
    ⟨some 49, none, .un .not (.t 48)⟩]
    [2, 3, 4, 49])
  (.cond (.t 49)
    (.seq (.region [⟨some 50, none, .load true 3 (.t 2)⟩,
      ⟨none, none, .store 3 (.t 4) (.t 50)⟩,
      ⟨some 5, none, .mov (.c (.int .i64 21))⟩]
      [4, 5])
    .ret)
    .skip))
  (.seq (.region [⟨some 51, none, .load true 3 (.t 2)⟩,
    ⟨some 52, none, .fieldAddr 2 (.t 3)⟩,
    ⟨some 53, none, .load false 1 (.t 52)⟩,
    ⟨some 54, none, .fieldAddr 3 (.t 3)⟩,
    ⟨some 55, none, .load false 1 (.t 54)⟩,
    ⟨some 56, none, .build [(.int .i64 0), (.int .i64 0)] [(0, 1, .t 53), (1, 1, .t 55)]⟩,
    ⟨some 57, none, .call F.ref28_groupWith [.t 51, .t 56, .c (.bool true)]⟩,
    ⟨none, none, .store 3 (.t 4) (.t 57)⟩,
    ⟨some 5, none, .mov (.c (.int .i64 0))⟩]
    [4, 5])
  .ret))))))⟩

def RC.ref28_enter : RFn := ⟨2, [.cell 4 true 3, .slot 5],
  (.seq (.region [⟨some 2, none, .box (.t 0)⟩,
    ⟨some 3, none, .box (.t 1)⟩,
    ⟨some 4, none, .alloc [(.int .i64 0), (.slice none 0 0), (.slice none 0 0)]⟩,
    ⟨some 5, none, .mov (.c (.int .i64 0))⟩]
    [2, 3, 4])
  (.seq (.seq (.region [⟨some 6, none, .fieldAddr 1 (.t 3)⟩,
    ⟨some 7, none, .load false 1 (.t 6)⟩,
    ⟨some 8, none, .bin .lss (.t 7) (.c (.int .i64 1))⟩,
    ⟨some 9, none, .mov (.t 8)⟩,
    ⟨some 10, some (9, false), .fieldAddr 1 (.t 3)⟩,
    ⟨some 11, some (9, false), .load false 1 (.t 10)⟩,
    ⟨some 12, some (9, false), .bin .gtr (.t 11) (.c (.int .i64 200))⟩,
    ⟨some 13, none, .pick (.t 9) (.c (.bool true)) (.t 12)⟩]
    [2, 3, 4, 13])
  (.cond (.t 13)
    (.seq (.region [⟨some 14, none, .load true 3 (.t 2)⟩,
      ⟨none, none, .store 3 (.t 4) (.t 14)⟩,
      ⟨some 5, none, .mov (.c (.int .i64 20))⟩]
      [4, 5])
    .ret)
    .skip))
  (.seq (.seq (.region [⟨some 15, none, .load true 3 (.t 2)⟩,
    ⟨some 16, none, .fieldAddr 1 (.t 3)⟩,
    ⟨some 17, none, .load false 1 (.t 16)⟩,
    ⟨some 18, none, .call F.ref28_find [.t 15, .t 17]⟩,
    ⟨some 19, none, .bin .geq (.t 18) (.c (.int .i64 0))⟩]
    [2, 3, 4, 19])
  (.cond (.t 19)
    (.seq (.region [⟨some 20, none, .load true 3 (.t 2)⟩,
      ⟨none, none, .store 3 (.t 4) (.t 20)⟩,
      ⟨some 5, none, .mov (.c (.int .i64 11))⟩]
      [4, 5])
    .ret)
    .skip))
  (.seq (.seq (.region [⟨some 21, none, .load true 3 (.t 2)⟩,
    ⟨some 22, none, .fieldAddr 2 (.t 3)⟩,
    ⟨some 23, none, .load false 1 (.t 22)⟩,
    ⟨some 24, none, .call F.ref28_Group0 [.t 21, .t 23]⟩,
    ⟨some 25, none, .bin .lss (.t 24) (.c (.int .i64 0))⟩]
    [2, 3, 4, 25])
  (.cond (.t 25)
    (.seq (.region [⟨some 26, none, .load true 3 (.t 2)⟩,
      ⟨none, none, .store 3 (.t 4) (.t 26)⟩,
      ⟨some 5, none, .mov (.c (.int .i64 25))⟩]
      [4, 5])
    .ret)
    .skip))
  (.seq (.seq (.region [⟨some 27, none, .fieldAddr 4 (.t 3)⟩,
    ⟨some 28, none, .load false 1 (.t 27)⟩,
    ⟨some 29, none, .bin .lss (.t 28) (.c (.int .i64 1))⟩,
    ⟨some 30, none, .mov (.t 29)⟩,
    ⟨some 31, some (30, false), .fieldAddr 4 (.t 3)⟩,
    ⟨some 32, some (30, false), .load false 1 (.t 31)⟩,
    ⟨some 33, some (30, false), .bin .gtr (.t 32) (.c (.int .i64 1000))⟩,
    ⟨some 34, none, .pick (.t 30) (.c (.bool true)) (.t 33)⟩]
    [2, 3, 4, 34])
  (.cond (.t 34)
    (.seq (.region [⟨some 35, none, .load true 3 (.t 2)⟩,
      ⟨none, none, .store 3 (.t 4) (.t 35)⟩,
      ⟨some 5, none, .mov (.c (.int .i64 22))⟩]
      [4, 5])
    .ret)
    .skip))
  (.seq (.seq (.region [⟨some 36, none, .fieldAddr 5 (.t 3)⟩,
    ⟨some 37, none, .load false 1 (.t 36)⟩,
    ⟨some 38, none, .bin .lss (.t 37) (.c (.int .i64 0))⟩,
    ⟨some 39, none, .mov (.t 38)⟩,
    ⟨some 40, some (39, false), .fieldAddr 5 (.t 3)⟩,
    ⟨some 41, some (39, false), .load false 1 (.t 40)⟩,
    ⟨some 42, some (39, false), .fieldAddr 0 (.t 2)⟩,
    ⟨some 43, some (39, false), .load false 1 (.t 42)⟩,
    ⟨some 44, some (39, false), .bin .gtr (.t 41) (.t 43)⟩,
    ⟨some 45, none, .pick (.t 39) (.c (.bool true)) (.t 44)⟩]
    [2, 3, 4, 45])
  (.cond (.t 45)
    (.seq (.region [⟨some 46, none, .load true 3 (.t 2)⟩,
      ⟨none, none, .store 3 (.t 4) (.t 46)⟩,
      ⟨some 5, none, .mov (.c (.int .i64 23))⟩]
      [4, 5])
    .ret)
    .skip))
  (.seq (.seq (.region [⟨some 47, none, .fieldAddr 1 (.t 2)⟩,
    ⟨some 48, none, .load false 1 (.t 47)⟩,
    ⟨some 49, none, .len (.t 48)⟩,
    ⟨some 50, none, .bin .geq (.t 49) (.c (.int .i64 96))⟩,
    ⟨some 51, none, .mov (.t 50)⟩,
    ⟨some 52, some (51, false), .load true 3 (.t 2)⟩,
    ⟨some 53, some (51, false), .fieldAddr 2 (.t 3)⟩,
    ⟨some 54, some (51, false), .load false 1 (.t 53)⟩,
    ⟨some 55, some (51, false), .call F.ref28_Members [.t 52, .t 54]⟩,
    ⟨some 56, some (51, false), .bin .geq (.t 55) (.c (.int .i64 32))⟩,
    ⟨some 57, none, .pick (.t 51) (.c (.bool true)) (.t 56)⟩]
    [2, 3, 4, 57])
  (.cond (.t 57)
    (.seq (.region [⟨some 58, none, .load true 3 (.t 2)⟩,
      ⟨none, none, .store 3 (.t 4) (.t 58)⟩,
      ⟨some 5, none, .mov (.c (.int .i64 13))⟩]
      [4, 5])
    .ret)
    .skip))
  (.seq (.region [⟨some 59, none, .load true 3 (.t 2)⟩,
    ⟨some 60, none, .fieldAddr 1 (.t 3)⟩,
    ⟨some 61, none, .load false 1 (.t 60)⟩,
    ⟨some 62, none, .fieldAddr 2 (.t 3)⟩,
    ⟨some 63, none, .load false 1 (.t 62)⟩,
    ⟨some 64, none, .fieldAddr 4 (.t 3)⟩,
    ⟨some 65, none, .load false 1 (.t 64)⟩,
    ⟨some 66, none, .fieldAddr 5 (.t 3)⟩,
    ⟨some 67, none, .load false 1 (.t 66)⟩,
    ⟨some 68, none, .build [(.int .i64 0), (.int .i64 0), (.int .i64 0), (.int .i64 0), (.int .i64 0), (.bool false)] [(0, 1, .t 61), (1, 1, .t 63), (3, 1, .t 65), (4, 1, .t 67)]⟩,
    ⟨some 69, none, .call F.ref28_with [.t 59, .t 68]⟩,
    ⟨none, none, .store 3 (.t 4) (.t 69)⟩,
    ⟨some 5, none, .mov (.c (.int .i64 0))⟩]
    [4, 5])
  .ret))))))))⟩

def RC.ref28_members : RFn := ⟨2, [.cell 4 true 3, .slot 5],
  (.seq (.region [⟨some 2, none, .box (.t 0)⟩,
    ⟨some 3, none, .box (.t 1)⟩,
    ⟨some 4, none, .alloc [(.int .i64 0), (.slice none 0 0), (.slice none 0 0)]⟩,
    ⟨some 5, none, .mov (.c (.int .i64 0))⟩]
    [2, 3, 4])
  (.seq (.region [⟨some 8, none, .load true 3 (.t 2)⟩,
    ⟨some 9, none, .fieldAddr 1 (.t 3)⟩,
    ⟨some 10, none, .load false 1 (.t 9)⟩,
    ⟨some 11, none, .call F.ref28_find [.t 8, .t 10]⟩,
    ⟨some 6, none, .mov (.t 11)⟩]
    [2, 3, 4, 6])
  (.seq (.seq (.region [⟨some 12, none, .mov (.t 6)⟩,
    ⟨some 13, none, .bin .lss (.t 12) (.c (.int .i64 0))⟩]
    [2, 3, 4, 6, 13])
  (.cond (.t 13)
    (.seq (.region [⟨some 14, none, .load true 3 (.t 2)⟩,
      ⟨none, none, .store 3 (.t 4) (.t 14)⟩,
      ⟨some 5, none, .mov (.c (.int .i64 10))⟩]
      [4, 5])
    .ret)
    .skip))
  (.seq (.region [⟨some 15, none, .fieldAddr 1 (.t 2)⟩,
    ⟨some 16, none, .load false 1 (.t 15)⟩,
    ⟨some 17, none, .mov (.t 6)⟩,
    ⟨some 18, none, .idxS 6 (.t 16) (.t 17)⟩,
    ⟨some 19, none, .load true 6 (.t 18)⟩,
    ⟨some 7, none, .alloc [(.int .i64 0), (.int .i64 0), (.int .i64 0), (.int .i64 0), (.int .i64 0), (.bool false)]⟩,
    ⟨none, none, .store 6 (.t 7) (.t 19)⟩]
    [2, 3, 4, 7])
  (.seq (.seq (.region [⟨some 20, none, .fieldAddr 1 (.t 7)⟩,
    ⟨some 21, none, .load false 1 (.t 20)⟩,
    ⟨some 22, none, .bin .eql (.t 21) (.c (.int .i64 0))⟩]
    [2, 3, 4, 7, 22])
  (.cond (.t 22)
    (.seq (.region [⟨some 23, none, .load true 3 (.t 2)⟩,
      ⟨none, none, .store 3 (.t 4) (.t 23)⟩,
      ⟨some 5, none, .mov (.c (.int .i64 14))⟩]
      [4, 5])
    .ret)
    .skip))
  (.seq (.seq (.region [⟨some 24, none, .fieldAddr 0 (.t 3)⟩,
    ⟨some 25, none, .load false 1 (.t 24)⟩]
    [2, 3, 4, 7, 25])
  (.block 0
    (.seq (.region [⟨some 27, none, .bin .eql (.t 25) (.c (.int .i64 10))⟩,
      ⟨some 26, none, .mov (.t 27)⟩]
      [2, 3, 4, 7, 25, 26])
    (.cond (.t 26)
      (.seq (.seq (.region [⟨some 28, none, .fieldAddr 4 (.t 3)⟩,
        ⟨some 29, none, .load false 1 (.t 28)⟩,
        ⟨some 30, none, .bin .lss (.t 29) (.c (.int .i64 1))⟩,
        ⟨some 31, none, .mov (.t 30)⟩,
        ⟨some 32, some (31, false), .fieldAddr 4 (.t 3)⟩,
        ⟨some 33, some (31, false), .load false 1 (.t 32)⟩,
        ⟨some 34, some (31, false), .bin .gtr (.t 33) (.c (.int .i64 1000))⟩,
        ⟨some 35, none, .pick (.t 31) (.c (.bool true)) (.t 34)⟩]
        [2, 3, 4, 7, 35])
      (.cond (.t 35)
        (.seq (.region [⟨some 36, none, .load true 3 (.t 2)⟩,
          ⟨none, none, .store 3 (.t 4) (.t 36)⟩,
          ⟨some 5, none, .mov (.c (.int .i64 22))⟩]
          [4, 5])
        .ret)
        .skip))
      (.region [⟨some 37, none, .fieldAddr 4 (.t 3)⟩,
        ⟨some 38, none, .load false 1 (.t 37)⟩,
        ⟨some 39, none, .fieldAddr 3 (.t 7)⟩,
        ⟨none, none, .store 1 (.t 39) (.t 38)⟩]
        [2, 4, 7]))
      (.seq (.region [⟨some 41, none, .bin .eql (.t 25) (.c (.int .i64 11))⟩,
        ⟨some 40, none, .mov (.t 41)⟩]
        [2, 3, 4, 7, 25, 40])
      (.cond (.t 40)
        (.seq (.seq (.region [⟨some 42, none, .fieldAddr 5 (.t 3)⟩,
          ⟨some 43, none, .load false 1 (.t 42)⟩,
          ⟨some 44, none, .bin .lss (.t 43) (.c (.int .i64 0))⟩,
          ⟨some 45, none, .mov (.t 44)⟩,
          ⟨some 46, some (45, false), .fieldAddr 5 (.t 3)⟩,
          ⟨some 47, some (45, false), .load false 1 (.t 46)⟩,
          ⟨some 48, some (45, false), .fieldAddr 0 (.t 2)⟩,
          ⟨some 49, some (45, false), .load false 1 (.t 48)⟩,
          ⟨some 50, some (45, false), .bin .gtr (.t 47) (.t 49)⟩,
          ⟨some 51, none, .pick (.t 45) (.c (.bool true)) (.t 50)⟩]
          [2, 3, 4, 7, 51])
        (.cond (.t 51)
          (.seq (.region [⟨some 52, none, .load true 3 (.t 2)⟩,
            ⟨none, none, .store 3 (.t 4) (.t 52)⟩,
            ⟨some 5, none, .mov (.c (.int .i64 23))⟩]
            [4, 5])
          .ret)
          .skip))
        (.region [⟨some 53, none, .fieldAddr 5 (.t 3)⟩,
          ⟨some 54, none, .load false 1 (.t 53)⟩,
          ⟨some 55, none, .fieldAddr 4 (.t 7)⟩,
          ⟨none, none, .store 1 (.t 55) (.t 54)⟩]
          [2, 4, 7]))
        (.seq (.region [⟨some 57, none, .bin .eql (.t 25) (.c (.int .i64 12))⟩,
          ⟨some 56, none, .mov (.t 57)⟩]
          [2, 3, 4, 7, 56])
        (.cond (.t 56)
          (.seq (.seq (.region [⟨some 58, none, .load true 3 (.t 2)⟩,
            ⟨some 59, none, .fieldAddr 2 (.t 3)⟩,
            ⟨some 60, none, .load false 1 (.t 59)⟩,
            ⟨some 61, none, .call F.ref28_Group0 [.t 58, .t 60]⟩,
            ⟨some 62, none, .bin .lss (.t 61) (.c (.int .i64 0))⟩]
            [2, 3, 4, 7, 62])
          (.cond (.t 62)
            (.seq (.region [⟨some 63, none, .load true 3 (.t 2)⟩,
              ⟨none, none, .store 3 (.t 4) (.t 63)⟩,
              ⟨some 5, none, .mov (.c (.int .i64 25))⟩]
              [4, 5])
            .ret)
            .skip))
          (.seq (.seq (.region [⟨some 64, none, .fieldAddr 1 (.t 7)⟩,
            ⟨some 65, none, .load false 1 (.t 64)⟩,
            ⟨some 66, none, .fieldAddr 2 (.t 3)⟩,
            ⟨some 67, none, .load false 1 (.t 66)⟩,
            ⟨some 68, none, .bin .eql (.t 65) (.t 67)⟩]
            [2, 3, 4, 7, 68])
          (.cond (.t 68)
            (.seq (.region [⟨some 69, none, .load true 3 (.t 2)⟩,
              ⟨none, none, .store 3 (.t 4) (.t 69)⟩,
              ⟨some 5, none, .mov (.c (.int .i64 15))⟩]
              [4, 5])
            .ret)
            .skip))
          (.seq (.seq (.region [⟨some 70, none, .load true 3 (.t 2)⟩,
            ⟨some 71, none, .fieldAddr 2 (.t 3)⟩,
            ⟨some 72, none, .load false 1 (.t 71)⟩,
            ⟨some 73, none, .call F.ref28_Members [.t 70, .t 72]⟩,
            ⟨some 74, none, .bin .geq (.t 73) (.c (.int .i64 32))⟩]
            [2, 3, 4, 7, 74])
          (.cond (.t 74)
            (.seq (.region [⟨some 75, none, .load true 3 (.t 2)⟩,
              ⟨none, none, .store 3 (.t 4) (.t 75)⟩,
              ⟨some 5, none, .mov (.c (.int .i64 13))⟩]
              [4, 5])
            .ret)
            .skip))
          (.region [⟨some 76, none, .fieldAddr 2 (.t 3)⟩,
            ⟨some 77, none, .load false 1 (.t 76)⟩,
            ⟨some 78, none, .fieldAddr 1 (.t 7)⟩,
            ⟨none, none, .store 1 (.t 78) (.t 77)⟩]
            [2, 4, 7]))))
          .skip)))))) [2, 4, 7]))
  (.seq (.region [⟨some 79, none, .load true 3 (.t 2)⟩,
    ⟨some 80, none, .load true 6 (.t 7)⟩,
    ⟨some 81, none, .call F.ref28_with [.t 79, .t 80]⟩,
    ⟨none, none, .store 3 (.t 4) (.t 81)⟩,
    ⟨some 5, none, .mov (.c (.int .i64 0))⟩]
    [4, 5])
  .ret)))))))⟩

def RB.ref28_Total_1 : RCode :=
  (.seq (.seq (.region [⟨some 21, none, .mov (.t 5)⟩,
    ⟨some 22, none, .fieldAddr 2 (.t 1)⟩,
    ⟨some 23, none, .load false 1 (.t 22)⟩,
    ⟨some 24, none, .len (.t 23)⟩,
    ⟨some 25, none, .bin .lss (.t 21) (.t 24)⟩]
    [1, 3, 5, 25])
  (.cond (.t 25)
    .skip
    (.exit 2)))
  (.seq (.block 3
    (.region [⟨some 28, none, .mov (.t 3)⟩,
      ⟨some 29, none, .fieldAddr 2 (.t 1)⟩,
      ⟨some 30, none, .load false 1 (.t 29)⟩,
      ⟨some 31, none, .mov (.t 5)⟩,
      ⟨some 32, none, .idxS 2 (.t 30) (.t 31)⟩,
      ⟨some 33, none, .fieldAddr 1 (.t 32)⟩,
      ⟨some 34, none, .load false 1 (.t 33)⟩,
      ⟨some 35, none, .bin .add (.t 28) (.t 34)⟩,
      ⟨some 3, none, .mov (.t 35)⟩]
      [1, 3, 5]) [1, 3, 5])
  (.region [⟨some 26, none, .mov (.t 5)⟩,
    ⟨some 27, none, .bin .add (.t 26) (.c (.int .i64 1))⟩,
    ⟨some 5, none, .mov (.t 27)⟩]
    [1, 3, 5])))
def RB.ref28_Total_2 : RCode :=
  (.seq (.seq (.region [⟨some 6, none, .mov (.t 4)⟩,
    ⟨some 7, none, .fieldAddr 1 (.t 1)⟩,
    ⟨some 8, none, .load false 1 (.t 7)⟩,
    ⟨some 9, none, .len (.t 8)⟩,
    ⟨some 10, none, .bin .lss (.t 6) (.t 9)⟩]
    [1, 3, 4, 10])
  (.cond (.t 10)
    .skip
    (.exit 0)))
  (.seq (.block 1
    (.region [⟨some 13, none, .mov (.t 3)⟩,
      ⟨some 14, none, .fieldAddr 1 (.t 1)⟩,
      ⟨some 15, none, .load false 1 (.t 14)⟩,
      ⟨some 16, none, .mov (.t 4)⟩,
      ⟨some 17, none, .idxS 6 (.t 15) (.t 16)⟩,
      ⟨some 18, none, .fieldAddr 2 (.t 17)⟩,
      ⟨some 19, none, .load false 1 (.t 18)⟩,
      ⟨some 20, none, .bin .add (.t 13) (.t 19)⟩,
      ⟨some 3, none, .mov (.t 20)⟩]
      [1, 3, 4]) [1, 3, 4])
  (.region [⟨some 11, none, .mov (.t 4)⟩,
    ⟨some 12, none, .bin .add (.t 11) (.c (.int .i64 1))⟩,
    ⟨some 4, none, .mov (.t 12)⟩]
    [1, 3, 4])))
def RC.ref28_Total : RFn := ⟨1, [.slot 2],
  (.seq (.region [⟨some 1, none, .box (.t 0)⟩,
    ⟨some 2, none, .mov (.c (.int .i64 0))⟩]
    [1])
  (.seq (.region [⟨some 3, none, .mov (.c (.int .i64 0))⟩]
    [1, 3])
  (.seq (.seq (.region [⟨some 4, none, .mov (.c (.int .i64 0))⟩]
    [1, 3, 4])
  (.block 0
    (.loop [1, 3, 4] RB.ref28_Total_2) [1, 3]))
  (.seq (.seq (.region [⟨some 5, none, .mov (.c (.int .i64 0))⟩]
    [1, 3, 5])
  (.block 2
    (.loop [1, 3, 5] RB.ref28_Total_1) [3]))
  (.seq (.region [⟨some 36, none, .mov (.t 3)⟩,
    ⟨some 2, none, .mov (.t 36)⟩]
    [2])
  .ret)))))⟩

def RC.ledger_list : RFn := ⟨2, [.slot 4],
  (.seq (.region [⟨some 3, none, .box (.t 1)⟩,
    ⟨some 4, none, .mov (.c (.int .i64 0))⟩]
    [0, 3])
  (.seq (.seq (.region [⟨some 5, none, .fieldAddr 0 (.t 3)⟩,
    ⟨some 6, none, .load false 1 (.t 5)⟩]
    [0, 3, 6])
  (.block 0
    (.seq (.region [⟨some 8, none, .bin .eql (.t 6) (.c (.int .i64 1))⟩,
      ⟨some 7, none, .mov (.t 8)⟩]
      [0, 3, 6, 7])
    (.cond (.t 7)
      (.seq (.region [⟨some 9, none, .mov (.t 0)⟩,
        ⟨some 10, none, .fieldAddr 1 (.t 3)⟩,
        ⟨some 11, none, .load false 1 (.t 10)⟩,
        ⟨some 12, none, .fieldAddr 3 (.t 3)⟩,
        ⟨some 13, none, .load false 1 (.t 12)⟩,
        ⟨some 14, none, .call F.roster_Roster_Arrive [.t 9, .t 11, .t 13]⟩,
        ⟨some 4, none, .mov (.t 14)⟩]
        [4])
      .ret)
      (.seq (.region [⟨some 16, none, .bin .eql (.t 6) (.c (.int .i64 2))⟩,
        ⟨some 15, none, .mov (.t 16)⟩]
        [0, 3, 6, 15])
      (.cond (.t 15)
        (.seq (.region [⟨some 17, none, .mov (.t 0)⟩,
          ⟨some 18, none, .fieldAddr 1 (.t 3)⟩,
          ⟨some 19, none, .load false 1 (.t 18)⟩,
          ⟨some 20, none, .call F.roster_Roster_Depart [.t 17, .t 19]⟩,
          ⟨some 4, none, .mov (.t 20)⟩]
          [4])
        .ret)
        (.seq (.region [⟨some 22, none, .bin .eql (.t 6) (.c (.int .i64 3))⟩,
          ⟨some 21, none, .mov (.t 22)⟩]
          [0, 3, 6, 21])
        (.cond (.t 21)
          (.seq (.region [⟨some 23, none, .mov (.t 0)⟩,
            ⟨some 24, none, .fieldAddr 1 (.t 3)⟩,
            ⟨some 25, none, .load false 1 (.t 24)⟩,
            ⟨some 26, none, .fieldAddr 3 (.t 3)⟩,
            ⟨some 27, none, .load false 1 (.t 26)⟩,
            ⟨some 28, none, .call F.roster_Roster_Reweight [.t 23, .t 25, .t 27]⟩,
            ⟨some 4, none, .mov (.t 28)⟩]
            [4])
          .ret)
          (.seq (.region [⟨some 30, none, .bin .eql (.t 6) (.c (.int .i64 4))⟩,
            ⟨some 29, none, .mov (.t 30)⟩]
            [0, 3, 6, 29])
          (.cond (.t 29)
            (.seq (.region [⟨some 31, none, .mov (.t 0)⟩,
              ⟨some 32, none, .fieldAddr 1 (.t 3)⟩,
              ⟨some 33, none, .load false 1 (.t 32)⟩,
              ⟨some 34, none, .call F.roster_Roster_Block [.t 31, .t 33]⟩,
              ⟨some 4, none, .mov (.t 34)⟩]
              [4])
            .ret)
            (.seq (.region [⟨some 36, none, .bin .eql (.t 6) (.c (.int .i64 5))⟩,
              ⟨some 35, none, .mov (.t 36)⟩]
              [0, 3, 6, 35])
            (.cond (.t 35)
              (.seq (.region [⟨some 37, none, .mov (.t 0)⟩,
                ⟨some 38, none, .fieldAddr 1 (.t 3)⟩,
                ⟨some 39, none, .load false 1 (.t 38)⟩,
                ⟨some 40, none, .call F.roster_Roster_Wake [.t 37, .t 39]⟩,
                ⟨some 4, none, .mov (.t 40)⟩]
                [4])
              .ret)
              (.seq (.region [⟨some 42, none, .bin .eql (.t 6) (.c (.int .i64 6))⟩,
                ⟨some 41, none, .mov (.t 42)⟩]
                [0, 3, 6, 41])
              (.cond (.t 41)
                (.seq (.region [⟨some 43, none, .mov (.t 0)⟩,
                  ⟨some 44, none, .fieldAddr 2 (.t 3)⟩,
                  ⟨some 45, none, .load false 1 (.t 44)⟩,
                  ⟨some 46, none, .fieldAddr 3 (.t 3)⟩,
                  ⟨some 47, none, .load false 1 (.t 46)⟩,
                  ⟨some 48, none, .call F.roster_Roster_Found [.t 43, .t 45, .t 47]⟩,
                  ⟨some 4, none, .mov (.t 48)⟩]
                  [4])
                .ret)
                (.seq (.region [⟨some 50, none, .bin .eql (.t 6) (.c (.int .i64 7))⟩,
                  ⟨some 49, none, .mov (.t 50)⟩]
                  [0, 3, 6, 49])
                (.cond (.t 49)
                  (.seq (.region [⟨some 51, none, .mov (.t 0)⟩,
                    ⟨some 52, none, .fieldAddr 2 (.t 3)⟩,
                    ⟨some 53, none, .load false 1 (.t 52)⟩,
                    ⟨some 54, none, .fieldAddr 3 (.t 3)⟩,
                    ⟨some 55, none, .load false 1 (.t 54)⟩,
                    ⟨some 56, none, .call F.roster_Roster_Fund [.t 51, .t 53, .t 55]⟩,
                    ⟨some 4, none, .mov (.t 56)⟩]
                    [4])
                  .ret)
                  (.seq (.region [⟨some 58, none, .bin .eql (.t 6) (.c (.int .i64 8))⟩,
                    ⟨some 57, none, .mov (.t 58)⟩]
                    [0, 3, 6, 57])
                  (.cond (.t 57)
                    (.seq (.region [⟨some 59, none, .mov (.t 0)⟩,
                      ⟨some 60, none, .fieldAddr 2 (.t 3)⟩,
                      ⟨some 61, none, .load false 1 (.t 60)⟩,
                      ⟨some 62, none, .call F.roster_Roster_Disband [.t 59, .t 61]⟩,
                      ⟨some 4, none, .mov (.t 62)⟩]
                      [4])
                    .ret)
                    (.seq (.region [⟨some 64, none, .bin .eql (.t 6) (.c (.int .i64 9))⟩,
                      ⟨some 63, none, .mov (.t 64)⟩]
                      [0, 3, 6, 63])
                    (.cond (.t 63)
                      (.seq (.region [⟨some 65, none, .mov (.t 0)⟩,
                        ⟨some 66, none, .fieldAddr 1 (.t 3)⟩,
                        ⟨some 67, none, .load false 1 (.t 66)⟩,
                        ⟨some 68, none, .fieldAddr 2 (.t 3)⟩,
                        ⟨some 69, none, .load false 1 (.t 68)⟩,
                        ⟨some 70, none, .fieldAddr 4 (.t 3)⟩,
                        ⟨some 71, none, .load false 1 (.t 70)⟩,
                        ⟨some 72, none, .fieldAddr 5 (.t 3)⟩,
                        ⟨some 73, none, .load false 1 (.t 72)⟩,
                        ⟨some 74, none, .call F.roster_Roster_Enter [.t 65, .t 67, .t 69, .t 71, .t 73]⟩,
                        ⟨some 4, none, .mov (.t 74)⟩]
                        [4])
                      .ret)
                      (.seq (.region [⟨some 76, none, .bin .eql (.t 6) (.c (.int .i64 10))⟩,
                        ⟨some 75, none, .mov (.t 76)⟩]
                        [0, 3, 6, 75])
                      (.cond (.t 75)
                        (.seq (.region [⟨some 77, none, .mov (.t 0)⟩,
                          ⟨some 78, none, .fieldAddr 1 (.t 3)⟩,
                          ⟨some 79, none, .load false 1 (.t 78)⟩,
                          ⟨some 80, none, .fieldAddr 4 (.t 3)⟩,
                          ⟨some 81, none, .load false 1 (.t 80)⟩,
                          ⟨some 82, none, .call F.roster_Roster_Weigh [.t 77, .t 79, .t 81]⟩,
                          ⟨some 4, none, .mov (.t 82)⟩]
                          [4])
                        .ret)
                        (.seq (.region [⟨some 84, none, .bin .eql (.t 6) (.c (.int .i64 11))⟩,
                          ⟨some 83, none, .mov (.t 84)⟩]
                          [0, 3, 83])
                        (.cond (.t 83)
                          (.seq (.region [⟨some 85, none, .mov (.t 0)⟩,
                            ⟨some 86, none, .fieldAddr 1 (.t 3)⟩,
                            ⟨some 87, none, .load false 1 (.t 86)⟩,
                            ⟨some 88, none, .fieldAddr 5 (.t 3)⟩,
                            ⟨some 89, none, .load false 1 (.t 88)⟩,
                            ⟨some 90, none, .call F.roster_Roster_Limit [.t 85, .t 87, .t 89]⟩,
                            ⟨some 4, none, .mov (.t 90)⟩]
                            [4])
                          .ret)
                          .skip)))))))))))))))))))))) [0, 3]))
  (.seq (.region [⟨some 91, none, .mov (.t 0)⟩,
    ⟨some 92, none, .fieldAddr 1 (.t 3)⟩,
    ⟨some 93, none, .load false 1 (.t 92)⟩,
    ⟨some 94, none, .fieldAddr 2 (.t 3)⟩,
    ⟨some 95, none, .load false 1 (.t 94)⟩,
    ⟨some 96, none, .call F.roster_Roster_Move [.t 91, .t 93, .t 95]⟩,
    ⟨some 4, none, .mov (.t 96)⟩]
    [4])
  .ret)))⟩

def RC.ledger_Ledger_room : RFn := ⟨3, [.slot 6],
  (.seq (.region [⟨some 6, none, .mov (.c (.bool false))⟩]
    [0, 1, 2])
  (.seq (.drawn [⟨some 7, none, .mov (.t 1)⟩,
    ⟨some 8, none, .call F.roster_Roster_Total [.t 7]⟩,
    ⟨some 9, none, .mov (.t 0)⟩,
    ⟨some 10, none, .nilchk (.t 9)⟩,
    ⟨some 11, none, .fieldAddr 0 (.t 10)⟩,
    ⟨some 12, none, .fieldAddr 0 (.t 11)⟩,
    ⟨some 13, none, .load false 1 (.t 12)⟩,
    ⟨some 14, none, .mov (.t 2)⟩,
    ⟨some 15, none, .bslice [(.int .i64 0)] [(0, 1, .c (.int .i64 1))] 1 1⟩,
    ⟨some 16, none, .call F.cores_Set_Count [.t 14, .t 15]⟩,
    ⟨some 17, none, .bin .mul (.t 13) (.t 16)⟩,
    ⟨some 18, none, .bin .leq (.t 8) (.t 17)⟩,
    ⟨some 6, none, .mov (.t 18)⟩]
    [[], [0], [], [2], [3], [4], [5], [], [], [7, 8, 1], [6, 9], [1, 10], [11, 9, 0, 1, 2, 3, 4, 5, 6, 7, 8, 9, 10, 11]]
    [(0, []), (2, []), (3, []), (4, []), (5, []), (7, []), (6, []), (1, [12]), (8, []), (9, [12]), (10, []), (11, []), (12, [])]
    [[], [0], [], [2], [2, 3], [2, 3, 4], [2, 3, 4, 5], [], [], [0, 1, 7, 8], [0, 1, 2, 3, 4, 5, 6, 7, 8, 9], [0, 1, 2, 3, 4, 5, 6, 7, 8, 9, 10], [0, 1, 2, 3, 4, 5, 6, 7, 8, 9, 10, 11]]
    [6])
  .ret))⟩

def RC.cores_Set_Plug : RFn := ⟨2, [.slot 4],
  (.seq (.region [⟨some 4, none, .mov (.c (.int .i64 0))⟩]
    [0, 1])
  (.seq (.region [⟨some 5, none, .mov (.t 0)⟩,
    ⟨some 6, none, .mov (.t 1)⟩,
    ⟨some 7, none, .call F.cores_Set_change [.t 5, .t 6, .c (.int .i64 0), .c (.int .i64 4)]⟩,
    ⟨some 4, none, .mov (.t 7)⟩]
    [4])
  .ret))⟩

def RC.cores_Set_Unplug : RFn := ⟨2, [.slot 4],
  (.seq (.region [⟨some 4, none, .mov (.c (.int .i64 0))⟩]
    [0, 1])
  (.seq (.region [⟨some 5, none, .mov (.t 0)⟩,
    ⟨some 6, none, .mov (.t 1)⟩,
    ⟨some 7, none, .call F.cores_Set_change [.t 5, .t 6, .c (.int .i64 1), .c (.int .i64 2)]⟩,
    ⟨some 4, none, .mov (.t 7)⟩]
    [4])
  .ret))⟩

def RB.roster_Roster_Tasks_1 : RCode :=
  (.seq (.region [⟨some 16, none, .bin .lss (.t 15) (.t 14)⟩]
    [0, 3, 13, 14, 15, 16])
  (.seq (.cond (.t 16)
    .skip
    (.exit 0))
  (.seq (.block 1
    (.seq (.region [⟨some 17, none, .idxS 1 (.t 13) (.t 15)⟩,
      ⟨some 18, none, .load false 1 (.t 17)⟩,
      ⟨some 5, none, .mov (.t 18)⟩]
      [0, 3, 5, 13, 14, 15])
    (.region [⟨some 19, none, .mov (.t 3)⟩,
      ⟨some 20, none, .mov (.t 0)⟩,
      ⟨some 21, none, .nilchk (.t 20)⟩,
      ⟨some 22, none, .fieldAddr 1 (.t 21)⟩,
      ⟨some 23, none, .load false 1 (.t 22)⟩,
      ⟨some 24, none, .mov (.t 5)⟩,
      ⟨some 25, none, .look .int (.agg #[(.int .i64 0), (.int .i64 0), (.int .i64 0), (.int .i64 0), (.int .i64 0), (.bool false)]) false (.t 23) (.t 24)⟩,
      ⟨some 26, none, .bslice [(.int .i64 0), (.int .i64 0), (.int .i64 0), (.int .i64 0), (.int .i64 0), (.bool false)] [(0, 6, .t 25)] 1 6⟩,
      ⟨some 27, none, .app 6 48 (.t 19) (.t 26)⟩,
      ⟨some 3, none, .mov (.t 27)⟩]
      [0, 3, 13, 14, 15])) [0, 3, 13, 14, 15])
  (.region [⟨some 28, none, .bin .add (.t 15) (.c (.int .i64 1))⟩,
    ⟨some 15, none, .mov (.t 28)⟩]
    [0, 3, 13, 14, 15]))))
def RC.roster_Roster_Tasks : RFn := ⟨1, [.slot 2],
  (.seq (.region [⟨some 2, none, .mov (.c (.slice none 0 0))⟩]
    [0])
  (.seq (.seq (.region [⟨some 6, none, .mov (.t 0)⟩,
    ⟨some 7, none, .call F.roster_Roster_none [.t 6]⟩]
    [0, 7])
  (.cond (.t 7)
    (.seq (.region [⟨some 2, none, .mov (.c (.slice none 0 0))⟩]
      [2])
    .ret)
    .skip))
  (.seq (.region [⟨some 3, none, .mov (.c (.slice none 0 0))⟩]
    [0, 3])
  (.seq (.seq (.region [⟨some 8, none, .mov (.t 0)⟩,
    ⟨some 9, none, .nilchk (.t 8)⟩,
    ⟨some 10, none, .fieldAddr 1 (.t 9)⟩,
    ⟨some 11, none, .load false 1 (.t 10)⟩,
    ⟨some 12, none, .call F.maps_Keys_map_int_roster_Task_int_roster_Task [.t 11]⟩,
    ⟨some 13, none, .call F.slices_Sorted_int [.t 12]⟩,
    ⟨some 14, none, .len (.t 13)⟩,
    ⟨some 15, none, .mov (.c (.int .i64 0))⟩]
    [0, 3, 13, 14, 15])
  (.block 0
    (.loop [0, 3, 13, 14, 15] RB.roster_Roster_Tasks_1) [3]))
  (.seq (.region [⟨some 29, none, .mov (.t 3)⟩,
    ⟨some 2, none, .mov (.t 29)⟩]
    [2])
  .ret)))))⟩

def RB.roster_Roster_Groups_1 : RCode :=
  (.seq (.region [⟨some 16, none, .bin .lss (.t 15) (.t 14)⟩]
    [0, 3, 13, 14, 15, 16])
  (.seq (.cond (.t 16)
    .skip
    (.exit 0))
  (.seq (.block 1
    (.seq (.region [⟨some 17, none, .idxS 1 (.t 13) (.t 15)⟩,
      ⟨some 18, none, .load false 1 (.t 17)⟩,
      ⟨some 5, none, .mov (.t 18)⟩]
      [0, 3, 5, 13, 14, 15])
    (.region [⟨some 19, none, .mov (.t 3)⟩,
      ⟨some 20, none, .mov (.t 0)⟩,
      ⟨some 21, none, .nilchk (.t 20)⟩,
      ⟨some 22, none, .fieldAddr 2 (.t 21)⟩,
      ⟨some 23, none, .load false 1 (.t 22)⟩,
      ⟨some 24, none, .mov (.t 5)⟩,
      ⟨some 25, none, .look .int (.agg #[(.int .i64 0), (.int .i64 0), (.int .i64 0)]) false (.t 23) (.t 24)⟩,
      ⟨some 26, none, .bslice [(.int .i64 0), (.int .i64 0), (.int .i64 0)] [(0, 3, .t 25)] 1 3⟩,
      ⟨some 27, none, .app 3 24 (.t 19) (.t 26)⟩,
      ⟨some 3, none, .mov (.t 27)⟩]
      [0, 3, 13, 14, 15])) [0, 3, 13, 14, 15])
  (.region [⟨some 28, none, .bin .add (.t 15) (.c (.int .i64 1))⟩,
    ⟨some 15, none, .mov (.t 28)⟩]
    [0, 3, 13, 14, 15]))))
def RC.roster_Roster_Groups : RFn := ⟨1, [.slot 2],
  (.seq (.region [⟨some 2, none, .mov (.c (.slice none 0 0))⟩]
    [0])
  (.seq (.seq (.region [⟨some 6, none, .mov (.t 0)⟩,
    ⟨some 7, none, .call F.roster_Roster_none [.t 6]⟩]
    [0, 7])
  (.cond (.t 7)
    (.seq (.region [⟨some 2, none, .mov (.c (.slice none 0 0))⟩]
      [2])
    .ret)
    .skip))
  (.seq (.region [⟨some 3, none, .mov (.c (.slice none 0 0))⟩]
    [0, 3])
  (.seq (.seq (.region [⟨some 8, none, .mov (.t 0)⟩,
    ⟨some 9, none, .nilchk (.t 8)⟩,
    ⟨some 10, none, .fieldAddr 2 (.t 9)⟩,
    ⟨some 11, none, .load false 1 (.t 10)⟩,
    ⟨some 12, none, .call F.maps_Keys_map_int_roster_Group_int_roster_Group [.t 11]⟩,
    ⟨some 13, none, .call F.slices_Sorted_int [.t 12]⟩,
    ⟨some 14, none, .len (.t 13)⟩,
    ⟨some 15, none, .mov (.c (.int .i64 0))⟩]
    [0, 3, 13, 14, 15])
  (.block 0
    (.loop [0, 3, 13, 14, 15] RB.roster_Roster_Groups_1) [3]))
  (.seq (.region [⟨some 29, none, .mov (.t 3)⟩,
    ⟨some 2, none, .mov (.t 29)⟩]
    [2])
  .ret)))))⟩

def RB.ref08_Same_1 : RCode :=
  (.seq (.seq (.region [⟨some 11, none, .mov (.t 5)⟩,
    ⟨some 12, none, .mov (.t 0)⟩,
    ⟨some 13, none, .len (.t 12)⟩,
    ⟨some 14, none, .bin .lss (.t 11) (.t 13)⟩]
    [0, 1, 5, 14])
  (.cond (.t 14)
    .skip
    (.exit 0)))
  (.seq (.block 1
    (.seq (.drawn [⟨some 17, none, .mov (.t 0)⟩,
      ⟨some 18, none, .mov (.t 5)⟩,
      ⟨some 19, none, .idxS 2 (.t 17) (.t 18)⟩,
      ⟨some 20, none, .load true 2 (.t 19)⟩,
      ⟨some 21, none, .mov (.t 1)⟩,
      ⟨some 22, none, .mov (.t 5)⟩,
      ⟨some 23, none, .idxS 2 (.t 21) (.t 22)⟩,
      ⟨some 24, none, .load true 2 (.t 23)⟩,
      ⟨some 25, none, .eq true (.flat [.int, .int]) (.t 20) (.t 24)⟩]
      [[], [], [0, 1], [2], [], [], [4, 5], [6], [3, 7]]
      [(0, []), (1, []), (2, []), (4, []), (5, []), (6, []), (3, []), (7, []), (8, [])]
      [[], [], [0, 1], [0, 1, 2], [], [], [4, 5], [4, 5, 6], [0, 1, 2, 3, 4, 5, 6, 7]]
      [0, 1, 5, 25])
    (.cond (.t 25)
      (.seq (.region [⟨some 4, none, .mov (.c (.bool false))⟩]
        [4])
      .ret)
      .skip)) [0, 1, 5])
  (.region [⟨some 15, none, .mov (.t 5)⟩,
    ⟨some 16, none, .bin .add (.t 15) (.c (.int .i64 1))⟩,
    ⟨some 5, none, .mov (.t 16)⟩]
    [0, 1, 5])))
def RC.ref08_Same : RFn := ⟨2, [.slot 4],
  (.seq (.region [⟨some 4, none, .mov (.c (.bool false))⟩]
    [0, 1])
  (.seq (.seq (.region [⟨some 6, none, .mov (.t 0)⟩,
    ⟨some 7, none, .len (.t 6)⟩,
    ⟨some 8, none, .mov (.t 1)⟩,
    ⟨some 9, none, .len (.t 8)⟩,
    ⟨some 10, none, .bin .neq (.t 7) (.t 9)⟩]
    [0, 1, 10])
  (.cond (.t 10)
    (.seq (.region [⟨some 4, none, .mov (.c (.bool false))⟩]
      [4])
    .ret)
    .skip))
  (.seq (.seq (.region [⟨some 5, none, .mov (.c (.int .i64 0))⟩]
    [0, 1, 5])
  (.block 0
    (.loop [0, 1, 5] RB.ref08_Same_1) []))
  (.seq (.region [⟨some 4, none, .mov (.c (.bool true))⟩]
    [4])
  .ret))))⟩

def RB.roster_Roster_Units_1 : RCode :=
  (.seq (.region [⟨some 31, none, .bin .lss (.t 30) (.t 29)⟩]
    [3, 28, 29, 30, 31])
  (.seq (.cond (.t 31)
    .skip
    (.exit 2))
  (.seq (.block 3
    (.seq (.region [⟨some 32, none, .idxS 3 (.t 28) (.t 30)⟩,
      ⟨some 33, none, .load true 3 (.t 32)⟩,
      ⟨some 7, none, .alloc [(.int .i64 0), (.int .i64 0), (.int .i64 0)]⟩,
      ⟨none, none, .store 3 (.t 7) (.t 33)⟩]
      [3, 7, 28, 29, 30])
    (.region [⟨some 34, none, .mov (.t 3)⟩,
      ⟨some 35, none, .fieldAddr 0 (.t 7)⟩,
      ⟨some 36, none, .load false 1 (.t 35)⟩,
      ⟨some 37, none, .bin .add (.c (.int .i64 1000)) (.t 36)⟩,
      ⟨some 38, none, .fieldAddr 1 (.t 7)⟩,
      ⟨some 39, none, .load false 1 (.t 38)⟩,
      ⟨some 40, none, .build [(.int .i64 0), (.int .i64 0)] [(0, 1, .t 37), (1, 1, .t 39)]⟩,
      ⟨some 41, none, .bslice [(.int .i64 0), (.int .i64 0)] [(0, 2, .t 40)] 1 2⟩,
      ⟨some 42, none, .app 2 16 (.t 34) (.t 41)⟩,
      ⟨some 3, none, .mov (.t 42)⟩]
      [3, 28, 29, 30])) [3, 28, 29, 30])
  (.region [⟨some 43, none, .bin .add (.t 30) (.c (.int .i64 1))⟩,
    ⟨some 30, none, .mov (.t 43)⟩]
    [3, 28, 29, 30]))))
def RB.roster_Roster_Units_2 : RCode :=
  (.seq (.region [⟨some 12, none, .bin .lss (.t 11) (.t 10)⟩]
    [0, 3, 9, 10, 11, 12])
  (.seq (.cond (.t 12)
    .skip
    (.exit 0))
  (.seq (.block 1
    (.seq (.region [⟨some 13, none, .idxS 6 (.t 9) (.t 11)⟩,
      ⟨some 14, none, .load true 6 (.t 13)⟩,
      ⟨some 5, none, .alloc [(.int .i64 0), (.int .i64 0), (.int .i64 0), (.int .i64 0), (.int .i64 0), (.bool false)]⟩,
      ⟨none, none, .store 6 (.t 5) (.t 14)⟩]
      [0, 3, 5, 9, 10, 11])
    (.seq (.region [⟨some 15, none, .fieldAddr 1 (.t 5)⟩,
      ⟨some 16, none, .load false 1 (.t 15)⟩,
      ⟨some 17, none, .bin .eql (.t 16) (.c (.int .i64 0))⟩]
      [0, 3, 5, 9, 10, 11, 17])
    (.cond (.t 17)
      (.region [⟨some 18, none, .mov (.t 3)⟩,
        ⟨some 19, none, .fieldAddr 0 (.t 5)⟩,
        ⟨some 20, none, .load false 1 (.t 19)⟩,
        ⟨some 21, none, .fieldAddr 2 (.t 5)⟩,
        ⟨some 22, none, .load false 1 (.t 21)⟩,
        ⟨some 23, none, .build [(.int .i64 0), (.int .i64 0)] [(0, 1, .t 20), (1, 1, .t 22)]⟩,
        ⟨some 24, none, .bslice [(.int .i64 0), (.int .i64 0)] [(0, 2, .t 23)] 1 2⟩,
        ⟨some 25, none, .app 2 16 (.t 18) (.t 24)⟩,
        ⟨some 3, none, .mov (.t 25)⟩]
        [0, 3, 9, 10, 11])
      .skip))) [0, 3, 9, 10, 11])
  (.region [⟨some 26, none, .bin .add (.t 11) (.c (.int .i64 1))⟩,
    ⟨some 11, none, .mov (.t 26)⟩]
    [0, 3, 9, 10, 11]))))
def RC.roster_Roster_Units : RFn := ⟨1, [.slot 2],
  (.seq (.region [⟨some 2, none, .mov (.c (.slice none 0 0))⟩]
    [0])
  (.seq (.region [⟨some 3, none, .mov (.c (.slice none 0 0))⟩]
    [0, 3])
  (.seq (.seq (.region [⟨some 8, none, .mov (.t 0)⟩,
    ⟨some 9, none, .call F.roster_Roster_Tasks [.t 8]⟩,
    ⟨some 10, none, .len (.t 9)⟩,
    ⟨some 11, none, .mov (.c (.int .i64 0))⟩]
    [0, 3, 9, 10, 11])
  (.block 0
    (.loop [0, 3, 9, 10, 11] RB.roster_Roster_Units_2) [0, 3]))
  (.seq (.seq (.region [⟨some 27, none, .mov (.t 0)⟩,
    ⟨some 28, none, .call F.roster_Roster_Groups [.t 27]⟩,
    ⟨some 29, none, .len (.t 28)⟩,
    ⟨some 30, none, .mov (.c (.int .i64 0))⟩]
    [3, 28, 29, 30])
  (.block 2
    (.loop [3, 28, 29, 30] RB.roster_Roster_Units_1) [3]))
  (.seq (.region [⟨some 44, none, .mov (.t 3)⟩,
    ⟨some 2, none, .mov (.t 44)⟩]
    [2])
  .ret)))))⟩

def RB.ref28_Units_1 : RCode :=
  (.seq (.seq (.region [⟨some 33, none, .mov (.t 7)⟩,
    ⟨some 34, none, .bin .leq (.t 33) (.c (.int .i64 40))⟩]
    [1, 3, 7, 34])
  (.cond (.t 34)
    .skip
    (.exit 2)))
  (.seq (.block 3
    (.seq (.region [⟨some 37, none, .load true 3 (.t 1)⟩,
      ⟨some 38, none, .mov (.t 7)⟩,
      ⟨some 39, none, .call F.ref28_Group0 [.t 37, .t 38]⟩,
      ⟨some 8, none, .mov (.t 39)⟩]
      [1, 3, 7, 8])
    (.seq (.region [⟨some 40, none, .mov (.t 8)⟩,
      ⟨some 41, none, .bin .geq (.t 40) (.c (.int .i64 0))⟩]
      [1, 3, 7, 8, 41])
    (.cond (.t 41)
      (.region [⟨some 42, none, .mov (.t 3)⟩,
        ⟨some 43, none, .mov (.t 7)⟩,
        ⟨some 44, none, .bin .add (.c (.int .i64 1000)) (.t 43)⟩,
        ⟨some 45, none, .fieldAddr 2 (.t 1)⟩,
        ⟨some 46, none, .load false 1 (.t 45)⟩,
        ⟨some 47, none, .mov (.t 8)⟩,
        ⟨some 48, none, .idxS 2 (.t 46) (.t 47)⟩,
        ⟨some 49, none, .fieldAddr 1 (.t 48)⟩,
        ⟨some 50, none, .load false 1 (.t 49)⟩,
        ⟨some 51, none, .build [(.int .i64 0), (.int .i64 0)] [(0, 1, .t 44), (1, 1, .t 50)]⟩,
        ⟨some 52, none, .bslice [(.int .i64 0), (.int .i64 0)] [(0, 2, .t 51)] 1 2⟩,
        ⟨some 53, none, .app 2 16 (.t 42) (.t 52)⟩,
        ⟨some 3, none, .mov (.t 53)⟩]
        [1, 3, 7])
      .skip))) [1, 3, 7])
  (.region [⟨some 35, none, .mov (.t 7)⟩,
    ⟨some 36, none, .bin .add (.t 35) (.c (.int .i64 1))⟩,
    ⟨some 7, none, .mov (.t 36)⟩]
    [1, 3, 7])))
def RB.ref28_Units_2 : RCode :=
  (.seq (.seq (.region [⟨some 10, none, .mov (.t 4)⟩,
    ⟨some 11, none, .bin .leq (.t 10) (.c (.int .i64 200))⟩]
    [1, 3, 4, 11])
  (.cond (.t 11)
    .skip
    (.exit 0)))
  (.seq (.block 1
    (.seq (.region [⟨some 15, none, .load true 3 (.t 1)⟩,
      ⟨some 16, none, .mov (.t 4)⟩,
      ⟨some 17, none, .call F.ref28_Find [.t 15, .t 16]⟩,
      ⟨some 14, none, .mov (.t 17)⟩,
      ⟨some 18, none, .ext 0 (.t 14)⟩,
      ⟨some 19, none, .ext 1 (.t 14)⟩,
      ⟨some 5, none, .alloc [(.int .i64 0), (.int .i64 0), (.int .i64 0), (.int .i64 0), (.int .i64 0), (.bool false)]⟩,
      ⟨none, none, .store 6 (.t 5) (.t 18)⟩,
      ⟨some 6, none, .mov (.t 19)⟩]
      [1, 3, 4, 5, 6])
    (.seq (.region [⟨some 20, none, .mov (.t 6)⟩,
      ⟨some 21, none, .mov (.t 20)⟩,
      ⟨some 22, some (21, true), .fieldAddr 1 (.t 5)⟩,
      ⟨some 23, some (21, true), .load false 1 (.t 22)⟩,
      ⟨some 24, some (21, true), .bin .eql (.t 23) (.c (.int .i64 0))⟩,
      ⟨some 25, none, .pick (.t 21) (.t 24) (.c (.bool false))⟩]
      [1, 3, 4, 5, 25])
    (.cond (.t 25)
      (.region [⟨some 26, none, .mov (.t 3)⟩,
        ⟨some 27, none, .mov (.t 4)⟩,
        ⟨some 28, none, .fieldAddr 2 (.t 5)⟩,
        ⟨some 29, none, .load false 1 (.t 28)⟩,
        ⟨some 30, none, .build [(.int .i64 0), (.int .i64 0)] [(0, 1, .t 27), (1, 1, .t 29)]⟩,
        ⟨some 31, none, .bslice [(.int .i64 0), (.int .i64 0)] [(0, 2, .t 30)] 1 2⟩,
        ⟨some 32, none, .app 2 16 (.t 26) (.t 31)⟩,
        ⟨some 3, none, .mov (.t 32)⟩]
        [1, 3, 4])
      .skip))) [1, 3, 4])
  (.region [⟨some 12, none, .mov (.t 4)⟩,
    ⟨some 13, none, .bin .add (.t 12) (.c (.int .i64 1))⟩,
    ⟨some 4, none, .mov (.t 13)⟩]
    [1, 3, 4])))
def RC.ref28_Units : RFn := ⟨1, [.slot 2],
  (.seq (.region [⟨some 1, none, .box (.t 0)⟩,
    ⟨some 2, none, .mov (.c (.slice none 0 0))⟩]
    [1])
  (.seq (.region [⟨some 9, none, .bslice [] [] 0 2⟩,
    ⟨some 3, none, .mov (.t 9)⟩]
    [1, 3])
  (.seq (.seq (.region [⟨some 4, none, .mov (.c (.int .i64 1))⟩]
    [1, 3, 4])
  (.block 0
    (.loop [1, 3, 4] RB.ref28_Units_2) [1, 3]))
  (.seq (.seq (.region [⟨some 7, none, .mov (.c (.int .i64 1))⟩]
    [1, 3, 7])
  (.block 2
    (.loop [1, 3, 7] RB.ref28_Units_1) [3]))
  (.seq (.region [⟨some 54, none, .mov (.t 3)⟩,
    ⟨some 2, none, .mov (.t 54)⟩]
    [2])
  .ret)))))⟩

def RB.ref28_Group0_1 : RCode :=
  (.seq (.seq (.region [⟨some 6, none, .mov (.t 5)⟩,
    ⟨some 7, none, .fieldAddr 2 (.t 2)⟩,
    ⟨some 8, none, .load false 1 (.t 7)⟩,
    ⟨some 9, none, .len (.t 8)⟩,
    ⟨some 10, none, .bin .lss (.t 6) (.t 9)⟩]
    [1, 2, 5, 10])
  (.cond (.t 10)
    .skip
    (.exit 0)))
  (.seq (.block 1
    (.seq (.region [⟨some 13, none, .fieldAddr 2 (.t 2)⟩,
      ⟨some 14, none, .load false 1 (.t 13)⟩,
      ⟨some 15, none, .mov (.t 5)⟩,
      ⟨some 16, none, .idxS 2 (.t 14) (.t 15)⟩,
      ⟨some 17, none, .fieldAddr 0 (.t 16)⟩,
      ⟨some 18, none, .load false 1 (.t 17)⟩,
      ⟨some 19, none, .mov (.t 1)⟩,
      ⟨some 20, none, .bin .eql (.t 18) (.t 19)⟩]
      [1, 2, 5, 20])
    (.cond (.t 20)
      (.seq (.region [⟨some 21, none, .mov (.t 5)⟩,
        ⟨some 4, none, .mov (.t 21)⟩]
        [4])
      .ret)
      .skip)) [1, 2, 5])
  (.region [⟨some 11, none, .mov (.t 5)⟩,
    ⟨some 12, none, .bin .add (.t 11) (.c (.int .i64 1))⟩,
    ⟨some 5, none, .mov (.t 12)⟩]
    [1, 2, 5])))
def RC.ref28_Group0 : RFn := ⟨2, [.slot 4],
  (.seq (.region [⟨some 2, none, .box (.t 0)⟩,
    ⟨some 4, none, .mov (.c (.int .i64 0))⟩]
    [1, 2])
  (.seq (.seq (.region [⟨some 5, none, .mov (.c (.int .i64 0))⟩]
    [1, 2, 5])
  (.block 0
    (.loop [1, 2, 5] RB.ref28_Group0_1) []))
  (.seq (.region [⟨some 4, none, .mov (.c (.int .i64 (-1)))⟩]
    [4])
  .ret)))⟩

def RB.ref28_Members_1 : RCode :=
  (.seq (.seq (.region [⟨some 7, none, .mov (.t 6)⟩,
    ⟨some 8, none, .fieldAddr 1 (.t 2)⟩,
    ⟨some 9, none, .load false 1 (.t 8)⟩,
    ⟨some 10, none, .len (.t 9)⟩,
    ⟨some 11, none, .bin .lss (.t 7) (.t 10)⟩]
    [1, 2, 5, 6, 11])
  (.cond (.t 11)
    .skip
    (.exit 0)))
  (.seq (.block 1
    (.seq (.region [⟨some 14, none, .fieldAddr 1 (.t 2)⟩,
      ⟨some 15, none, .load false 1 (.t 14)⟩,
      ⟨some 16, none, .mov (.t 6)⟩,
      ⟨some 17, none, .idxS 6 (.t 15) (.t 16)⟩,
      ⟨some 18, none, .fieldAddr 1 (.t 17)⟩,
      ⟨some 19, none, .load false 1 (.t 18)⟩,
      ⟨some 20, none, .mov (.t 1)⟩,
      ⟨some 21, none, .bin .eql (.t 19) (.t 20)⟩]
      [1, 2, 5, 6, 21])
    (.cond (.t 21)
      (.region [⟨some 22, none, .mov (.t 5)⟩,
        ⟨some 23, none, .bin .add (.t 22) (.c (.int .i64 1))⟩,
        ⟨some 5, none, .mov (.t 23)⟩]
        [1, 2, 5, 6])
      .skip)) [1, 2, 5, 6])
  (.region [⟨some 12, none, .mov (.t 6)⟩,
    ⟨some 13, none, .bin .add (.t 12) (.c (.int .i64 1))⟩,
    ⟨some 6, none, .mov (.t 13)⟩]
    [1, 2, 5, 6])))
def RC.ref28_Members : RFn := ⟨2, [.slot 4],
  (.seq (.region [⟨some 2, none, .box (.t 0)⟩,
    ⟨some 4, none, .mov (.c (.int .i64 0))⟩]
    [1, 2])
  (.seq (.region [⟨some 5, none, .mov (.c (.int .i64 0))⟩]
    [1, 2, 5])
  (.seq (.seq (.region [⟨some 6, none, .mov (.c (.int .i64 0))⟩]
    [1, 2, 5, 6])
  (.block 0
    (.loop [1, 2, 5, 6] RB.ref28_Members_1) [5]))
  (.seq (.region [⟨some 24, none, .mov (.t 5)⟩,
    ⟨some 4, none, .mov (.t 24)⟩]
    [4])
  .ret))))⟩

def RC.roster_Roster_none : RFn := ⟨1, [.slot 2],
  (.seq (.region [⟨some 2, none, .mov (.c (.bool false))⟩]
    [0])
  (.seq (.region [⟨some 3, none, .mov (.t 0)⟩,
    ⟨some 4, none, .eq false .ptr (.t 3) (.c (.pointer none))⟩,
    ⟨some 5, none, .mov (.t 4)⟩,
    ⟨some 6, some (5, false), .mov (.t 0)⟩,
    ⟨some 7, some (5, false), .nilchk (.t 6)⟩,
    ⟨some 8, some (5, false), .fieldAddr 0 (.t 7)⟩,
    ⟨some 9, some (5, false), .load false 1 (.t 8)⟩,
    ⟨some 10, some (5, false), .bin .eql (.t 9) (.c (.int .i64 0))⟩,
    ⟨some 11, none, .pick (.t 5) (.c (.bool true)) (.t 10)⟩,
    ⟨some 2, none, .mov (.t 11)⟩]
    [2])
  .ret))⟩

def RC.slices_Clone_int_int : RFn := ⟨1, [.slot 2],
  (.seq (.region [⟨some 2, none, .mov (.c (.slice none 0 0))⟩]
    [0])
  (.seq (.seq (.region [⟨some 3, none, .mov (.t 0)⟩,
    ⟨some 4, none, .eq false .slice (.t 3) (.c (.slice none 0 0))⟩]
    [0, 4])
  (.cond (.t 4)
    (.seq (.region [⟨some 2, none, .mov (.c (.slice none 0 0))⟩]
      [2])
    .ret)
    .skip))
  (.seq (.region [⟨some 5, none, .bslice [] [] 0 1⟩,
    ⟨some 6, none, .mov (.t 0)⟩,
    ⟨some 7, none, .app 1 8 (.t 5) (.t 6)⟩,
    ⟨some 2, none, .mov (.t 7)⟩]
    [2])
  .ret)))⟩

def RC.math_bits_Mul : RFn := ⟨2, [.slot 4, .slot 5],
  (.seq (.region [⟨some 4, none, .mov (.c (u64 0#64))⟩,
    ⟨some 5, none, .mov (.c (u64 0#64))⟩]
    [0, 1])
  (.seq (.cond (.c (.bool false))
    (.seq (.region [⟨some 11, none, .mov (.t 0)⟩,
      ⟨some 12, none, .conv .u32 (.t 11)⟩,
      ⟨some 13, none, .mov (.t 1)⟩,
      ⟨some 14, none, .conv .u32 (.t 13)⟩,
      ⟨some 15, none, .call F.math_bits_Mul32 [.t 12, .t 14]⟩,
      ⟨some 10, none, .mov (.t 15)⟩,
      ⟨some 16, none, .ext 0 (.t 10)⟩,
      ⟨some 17, none, .ext 1 (.t 10)⟩,
      ⟨some 6, none, .mov (.t 16)⟩,
      ⟨some 7, none, .mov (.t 17)⟩]
      [6, 7])
    (.seq (.region [⟨some 18, none, .mov (.t 6)⟩,
      ⟨some 19, none, .conv .u64 (.t 18)⟩,
      ⟨some 20, none, .mov (.t 7)⟩,
      ⟨some 21, none, .conv .u64 (.t 20)⟩,
      ⟨some 4, none, .mov (.t 19)⟩,
      ⟨some 5, none, .mov (.t 21)⟩]
      [4, 5])
    .ret))
    .skip)
  (.seq (.region [⟨some 23, none, .mov (.t 0)⟩,
    ⟨some 24, none, .mov (.t 1)⟩,
    ⟨some 25, none, .call F.math_bits_Mul64 [.t 23, .t 24]⟩,
    ⟨some 22, none, .mov (.t 25)⟩,
    ⟨some 26, none, .ext 0 (.t 22)⟩,
    ⟨some 27, none, .ext 1 (.t 22)⟩,
    ⟨some 8, none, .mov (.t 26)⟩,
    ⟨some 9, none, .mov (.t 27)⟩]
    [8, 9])
  (.seq (.region [⟨some 28, none, .mov (.t 8)⟩,
    ⟨some 29, none, .mov (.t 9)⟩,
    ⟨some 4, none, .mov (.t 28)⟩,
    ⟨some 5, none, .mov (.t 29)⟩]
    [4, 5])
  .ret))))⟩

def RC.math_bits_OnesCount32 : RFn := ⟨1, [.slot 2],
  (.seq (.region [⟨some 2, none, .mov (.c (.int .i64 0))⟩]
    [0])
  (.seq (.drawn [⟨some 3, none, .mov (.t 0)⟩,
    ⟨some 4, none, .bin .shr (.t 3) (.c (u64 24#64))⟩,
    ⟨some 5, none, .idxStr (.c (.string ⟨#[0, 1, 1, 2, 1, 2, 2, 3, 1, 2, 2, 3, 2, 3, 3, 4, 1, 2, 2, 3, 2, 3, 3, 4, 2, 3, 3, 4, 3, 4, 4, 5, 1, 2, 2, 3, 2, 3, 3, 4, 2, 3, 3, 4, 3, 4, 4, 5, 2, 3, 3, 4, 3, 4, 4, 5, 3, 4, 4, 5, 4, 5, 5, 6, 1, 2, 2, 3, 2, 3, 3, 4, 2, 3, 3, 4, 3, 4, 4, 5, 2, 3, 3, 4, 3, 4, 4, 5, 3, 4, 4, 5, 4, 5, 5, 6, 2, 3, 3, 4, 3, 4, 4, 5, 3, 4, 4, 5, 4, 5, 5, 6, 3, 4, 4, 5, 4, 5, 5, 6, 4, 5, 5, 6, 5, 6, 6, 7, 1, 2, 2, 3, 2, 3, 3, 4, 2, 3, 3, 4, 3, 4, 4, 5, 2, 3, 3, 4, 3, 4, 4, 5, 3, 4, 4, 5, 4, 5, 5, 6, 2, 3, 3, 4, 3, 4, 4, 5, 3, 4, 4, 5, 4, 5, 5, 6, 3, 4, 4, 5, 4, 5, 5, 6, 4, 5, 5, 6, 5, 6, 6, 7, 2, 3, 3, 4, 3, 4, 4, 5, 3, 4, 4, 5, 4, 5, 5, 6, 3, 4, 4, 5, 4, 5, 5, 6, 4, 5, 5, 6, 5, 6, 6, 7, 3, 4, 4, 5, 4, 5, 5, 6, 4, 5, 5, 6, 5, 6, 6, 7, 4, 5, 5, 6, 5, 6, 6, 7, 5, 6, 6, 7, 6, 7, 7, 8]⟩)) (.t 4)⟩,
    ⟨some 6, none, .mov (.t 0)⟩,
    ⟨some 7, none, .bin .shr (.t 6) (.c (u64 16#64))⟩,
    ⟨some 8, none, .bin .and (.t 7) (.c (u32 255#32))⟩,
    ⟨some 9, none, .idxStr (.c (.string ⟨#[0, 1, 1, 2, 1, 2, 2, 3, 1, 2, 2, 3, 2, 3, 3, 4, 1, 2, 2, 3, 2, 3, 3, 4, 2, 3, 3, 4, 3, 4, 4, 5, 1, 2, 2, 3, 2, 3, 3, 4, 2, 3, 3, 4, 3, 4, 4, 5, 2, 3, 3, 4, 3, 4, 4, 5, 3, 4, 4, 5, 4, 5, 5, 6, 1, 2, 2, 3, 2, 3, 3, 4, 2, 3, 3, 4, 3, 4, 4, 5, 2, 3, 3, 4, 3, 4, 4, 5, 3, 4, 4, 5, 4, 5, 5, 6, 2, 3, 3, 4, 3, 4, 4, 5, 3, 4, 4, 5, 4, 5, 5, 6, 3, 4, 4, 5, 4, 5, 5, 6, 4, 5, 5, 6, 5, 6, 6, 7, 1, 2, 2, 3, 2, 3, 3, 4, 2, 3, 3, 4, 3, 4, 4, 5, 2, 3, 3, 4, 3, 4, 4, 5, 3, 4, 4, 5, 4, 5, 5, 6, 2, 3, 3, 4, 3, 4, 4, 5, 3, 4, 4, 5, 4, 5, 5, 6, 3, 4, 4, 5, 4, 5, 5, 6, 4, 5, 5, 6, 5, 6, 6, 7, 2, 3, 3, 4, 3, 4, 4, 5, 3, 4, 4, 5, 4, 5, 5, 6, 3, 4, 4, 5, 4, 5, 5, 6, 4, 5, 5, 6, 5, 6, 6, 7, 3, 4, 4, 5, 4, 5, 5, 6, 4, 5, 5, 6, 5, 6, 6, 7, 4, 5, 5, 6, 5, 6, 6, 7, 5, 6, 6, 7, 6, 7, 7, 8]⟩)) (.t 8)⟩,
    ⟨some 10, none, .bin .add (.t 5) (.t 9)⟩,
    ⟨some 11, none, .mov (.t 0)⟩,
    ⟨some 12, none, .bin .shr (.t 11) (.c (u64 8#64))⟩,
    ⟨some 13, none, .bin .and (.t 12) (.c (u32 255#32))⟩,
    ⟨some 14, none, .idxStr (.c (.string ⟨#[0, 1, 1, 2, 1, 2, 2, 3, 1, 2, 2, 3, 2, 3, 3, 4, 1, 2, 2, 3, 2, 3, 3, 4, 2, 3, 3, 4, 3, 4, 4, 5, 1, 2, 2, 3, 2, 3, 3, 4, 2, 3, 3, 4, 3, 4, 4, 5, 2, 3, 3, 4, 3, 4, 4, 5, 3, 4, 4, 5, 4, 5, 5, 6, 1, 2, 2, 3, 2, 3, 3, 4, 2, 3, 3, 4, 3, 4, 4, 5, 2, 3, 3, 4, 3, 4, 4, 5, 3, 4, 4, 5, 4, 5, 5, 6, 2, 3, 3, 4, 3, 4, 4, 5, 3, 4, 4, 5, 4, 5, 5, 6, 3, 4, 4, 5, 4, 5, 5, 6, 4, 5, 5, 6, 5, 6, 6, 7, 1, 2, 2, 3, 2, 3, 3, 4, 2, 3, 3, 4, 3, 4, 4, 5, 2, 3, 3, 4, 3, 4, 4, 5, 3, 4, 4, 5, 4, 5, 5, 6, 2, 3, 3, 4, 3, 4, 4, 5, 3, 4, 4, 5, 4, 5, 5, 6, 3, 4, 4, 5, 4, 5, 5, 6, 4, 5, 5, 6, 5, 6, 6, 7, 2, 3, 3, 4, 3, 4, 4, 5, 3, 4, 4, 5, 4, 5, 5, 6, 3, 4, 4, 5, 4, 5, 5, 6, 4, 5, 5, 6, 5, 6, 6, 7, 3, 4, 4, 5, 4, 5, 5, 6, 4, 5, 5, 6, 5, 6, 6, 7, 4, 5, 5, 6, 5, 6, 6, 7, 5, 6, 6, 7, 6, 7, 7, 8]⟩)) (.t 13)⟩,
    ⟨some 15, none, .bin .add (.t 10) (.t 14)⟩,
    ⟨some 16, none, .mov (.t 0)⟩,
    ⟨some 17, none, .bin .and (.t 16) (.c (u32 255#32))⟩,
    ⟨some 18, none, .idxStr (.c (.string ⟨#[0, 1, 1, 2, 1, 2, 2, 3, 1, 2, 2, 3, 2, 3, 3, 4, 1, 2, 2, 3, 2, 3, 3, 4, 2, 3, 3, 4, 3, 4, 4, 5, 1, 2, 2, 3, 2, 3, 3, 4, 2, 3, 3, 4, 3, 4, 4, 5, 2, 3, 3, 4, 3, 4, 4, 5, 3, 4, 4, 5, 4, 5, 5, 6, 1, 2, 2, 3, 2, 3, 3, 4, 2, 3, 3, 4, 3, 4, 4, 5, 2, 3, 3, 4, 3, 4, 4, 5, 3, 4, 4, 5, 4, 5, 5, 6, 2, 3, 3, 4, 3, 4, 4, 5, 3, 4, 4, 5, 4, 5, 5, 6, 3, 4, 4, 5, 4, 5, 5, 6, 4, 5, 5, 6, 5, 6, 6, 7, 1, 2, 2, 3, 2, 3, 3, 4, 2, 3, 3, 4, 3, 4, 4, 5, 2, 3, 3, 4, 3, 4, 4, 5, 3, 4, 4, 5, 4, 5, 5, 6, 2, 3, 3, 4, 3, 4, 4, 5, 3, 4, 4, 5, 4, 5, 5, 6, 3, 4, 4, 5, 4, 5, 5, 6, 4, 5, 5, 6, 5, 6, 6, 7, 2, 3, 3, 4, 3, 4, 4, 5, 3, 4, 4, 5, 4, 5, 5, 6, 3, 4, 4, 5, 4, 5, 5, 6, 4, 5, 5, 6, 5, 6, 6, 7, 3, 4, 4, 5, 4, 5, 5, 6, 4, 5, 5, 6, 5, 6, 6, 7, 4, 5, 5, 6, 5, 6, 6, 7, 5, 6, 6, 7, 6, 7, 7, 8]⟩)) (.t 17)⟩,
    ⟨some 19, none, .bin .add (.t 15) (.t 18)⟩,
    ⟨some 20, none, .conv .i64 (.t 19)⟩,
    ⟨some 2, none, .mov (.t 20)⟩]
    [[], [0], [1], [], [3], [4], [5], [2, 6], [], [8], [9], [10], [7, 11], [], [13], [14], [12, 15], [16], [17, 0, 1, 2, 3, 4, 5, 6, 7, 8, 9, 10, 11, 12, 13, 14, 15, 16, 17]]
    [(0, []), (1, []), (2, []), (3, []), (4, []), (5, []), (6, []), (7, []), (8, []), (9, []), (10, []), (11, []), (12, []), (13, []), (14, []), (15, []), (16, []), (17, []), (18, [])]
    [[], [0], [0, 1], [], [3], [3, 4], [3, 4, 5], [0, 1, 2, 3, 4, 5, 6], [], [8], [8, 9], [8, 9, 10], [0, 1, 2, 3, 4, 5, 6, 7, 8, 9, 10, 11], [], [13], [13, 14], [0, 1, 2, 3, 4, 5, 6, 7, 8, 9, 10, 11, 12, 13, 14, 15], [0, 1, 2, 3, 4, 5, 6, 7, 8, 9, 10, 11, 12, 13, 14, 15, 16], [0, 1, 2, 3, 4, 5, 6, 7, 8, 9, 10, 11, 12, 13, 14, 15, 16, 17]]
    [2])
  .ret))⟩

def RB.cores_Set_In_1 : RCode :=
  (.seq (.region [⟨some 10, none, .bin .lss (.t 9) (.t 8)⟩]
    [0, 1, 5, 8, 9, 10])
  (.seq (.cond (.t 10)
    .skip
    (.exit 0))
  (.seq (.block 1
    (.seq (.region [⟨some 11, none, .mov (.t 9)⟩,
      ⟨some 6, none, .mov (.t 11)⟩]
      [0, 1, 5, 6, 8, 9])
    (.seq (.region [⟨some 12, none, .mov (.t 1)⟩,
      ⟨some 13, none, .mov (.t 0)⟩,
      ⟨some 14, none, .nilchk (.t 13)⟩,
      ⟨some 15, none, .fieldAddr 0 (.t 14)⟩,
      ⟨some 16, none, .load false 1 (.t 15)⟩,
      ⟨some 17, none, .mov (.t 6)⟩,
      ⟨some 18, none, .idxS 1 (.t 16) (.t 17)⟩,
      ⟨some 19, none, .load false 1 (.t 18)⟩,
      ⟨some 20, none, .call F.slices_Contains_int_int [.t 12, .t 19]⟩]
      [0, 1, 5, 6, 8, 9, 20])
    (.cond (.t 20)
      (.region [⟨some 21, none, .mov (.t 5)⟩,
        ⟨some 22, none, .mov (.t 6)⟩,
        ⟨some 23, none, .bin .shl (.c (u32 1#32)) (.t 22)⟩,
        ⟨some 24, none, .bin .or (.t 21) (.t 23)⟩,
        ⟨some 5, none, .mov (.t 24)⟩]
        [0, 1, 5, 8, 9])
      .skip))) [0, 1, 5, 8, 9])
  (.region [⟨some 25, none, .bin .add (.t 9) (.c (.int .i64 1))⟩,
    ⟨some 9, none, .mov (.t 25)⟩]
    [0, 1, 5, 8, 9]))))
def RC.cores_Set_In : RFn := ⟨2, [.slot 4],
  (.seq (.region [⟨some 4, none, .mov (.c (u32 0#32))⟩]
    [0, 1])
  (.seq (.region [⟨some 5, none, .mov (.c (u32 0#32))⟩]
    [0, 1, 5])
  (.seq (.seq (.region [⟨some 7, none, .mov (.t 0)⟩,
    ⟨some 8, none, .call F.cores_Set_Len [.t 7]⟩,
    ⟨some 9, none, .mov (.c (.int .i64 0))⟩]
    [0, 1, 5, 8, 9])
  (.block 0
    (.loop [0, 1, 5, 8, 9] RB.cores_Set_In_1) [5]))
  (.seq (.region [⟨some 26, none, .mov (.t 5)⟩,
    ⟨some 4, none, .mov (.t 26)⟩]
    [4])
  .ret))))⟩

def RB.order_Total_1 : RCode :=
  (.seq (.region [⟨some 12, none, .bin .lss (.t 11) (.t 10)⟩]
    [4, 9, 10, 11, 12])
  (.seq (.cond (.t 12)
    .skip
    (.exit 0))
  (.seq (.block 1
    (.seq (.region [⟨some 13, none, .idxS 2 (.t 9) (.t 11)⟩,
      ⟨some 14, none, .load true 2 (.t 13)⟩,
      ⟨some 6, none, .alloc [(.int .i64 0), (.int .i64 0)]⟩,
      ⟨none, none, .store 2 (.t 6) (.t 14)⟩]
      [4, 6, 9, 10, 11])
    (.seq (.region [⟨some 16, none, .mov (.t 4)⟩,
      ⟨some 17, none, .fieldAddr 1 (.t 6)⟩,
      ⟨some 18, none, .load false 1 (.t 17)⟩,
      ⟨some 19, none, .call F.fixq_Add [.t 16, .t 18]⟩,
      ⟨some 15, none, .mov (.t 19)⟩,
      ⟨some 20, none, .ext 0 (.t 15)⟩,
      ⟨some 21, none, .ext 1 (.t 15)⟩,
      ⟨some 7, none, .mov (.t 20)⟩,
      ⟨some 8, none, .mov (.t 21)⟩]
      [7, 8, 9, 10, 11])
    (.seq (.seq (.region [⟨some 22, none, .mov (.t 8)⟩,
      ⟨some 23, none, .bin .neq (.t 22) (.c (.int .i64 0))⟩]
      [7, 8, 9, 10, 11, 23])
    (.cond (.t 23)
      (.seq (.region [⟨some 24, none, .mov (.t 8)⟩,
        ⟨some 2, none, .mov (.c (.int .i64 0))⟩,
        ⟨some 3, none, .mov (.t 24)⟩]
        [2, 3])
      .ret)
      .skip))
    (.region [⟨some 25, none, .mov (.t 7)⟩,
      ⟨some 4, none, .mov (.t 25)⟩]
      [4, 9, 10, 11])))) [4, 9, 10, 11])
  (.region [⟨some 26, none, .bin .add (.t 11) (.c (.int .i64 1))⟩,
    ⟨some 11, none, .mov (.t 26)⟩]
    [4, 9, 10, 11]))))
def RC.order_Total : RFn := ⟨1, [.slot 2, .slot 3],
  (.seq (.region [⟨some 2, none, .mov (.c (.int .i64 0))⟩,
    ⟨some 3, none, .mov (.c (.int .i64 0))⟩]
    [0])
  (.seq (.region [⟨some 4, none, .mov (.c (.int .i64 0))⟩]
    [0, 4])
  (.seq (.seq (.region [⟨some 9, none, .mov (.t 0)⟩,
    ⟨some 10, none, .len (.t 9)⟩,
    ⟨some 11, none, .mov (.c (.int .i64 0))⟩]
    [4, 9, 10, 11])
  (.block 0
    (.loop [4, 9, 10, 11] RB.order_Total_1) [4]))
  (.seq (.region [⟨some 27, none, .mov (.t 4)⟩,
    ⟨some 2, none, .mov (.t 27)⟩,
    ⟨some 3, none, .mov (.c (.int .i64 0))⟩]
    [2, 3])
  .ret))))⟩

def RC.ref28_share : RFn := ⟨2, [.slot 4],
  (.seq (.region [⟨some 2, none, .box (.t 0)⟩,
    ⟨some 4, none, .mov (.c (.bool false))⟩]
    [1, 2])
  (.seq (.region [⟨some 5, none, .mov (.t 1)⟩,
    ⟨some 6, none, .bin .geq (.t 5) (.c (.int .i64 1))⟩,
    ⟨some 7, none, .mov (.t 6)⟩,
    ⟨some 8, some (7, true), .mov (.t 1)⟩,
    ⟨some 9, some (7, true), .fieldAddr 0 (.t 2)⟩,
    ⟨some 10, some (7, true), .load false 1 (.t 9)⟩,
    ⟨some 11, some (7, true), .bin .leq (.t 8) (.t 10)⟩,
    ⟨some 12, none, .pick (.t 7) (.t 11) (.c (.bool false))⟩,
    ⟨some 4, none, .mov (.t 12)⟩]
    [4])
  .ret))⟩

def RB.ref28_with_1 : RCode :=
  (.seq (.seq (.region [⟨some 8, none, .mov (.t 6)⟩,
    ⟨some 9, none, .fieldAddr 1 (.t 2)⟩,
    ⟨some 10, none, .load false 1 (.t 9)⟩,
    ⟨some 11, none, .len (.t 10)⟩,
    ⟨some 12, none, .bin .lss (.t 8) (.t 11)⟩]
    [2, 3, 4, 5, 6, 12])
  (.cond (.t 12)
    .skip
    (.exit 0)))
  (.seq (.block 1
    (.seq (.drawn [⟨some 15, none, .fieldAddr 1 (.t 2)⟩,
      ⟨some 16, none, .load false 1 (.t 15)⟩,
      ⟨some 17, none, .mov (.t 6)⟩,
      ⟨some 18, none, .idxS 6 (.t 16) (.t 17)⟩,
      ⟨some 19, none, .fieldAddr 0 (.t 18)⟩,
      ⟨some 20, none, .load false 1 (.t 19)⟩,
      ⟨some 21, none, .fieldAddr 0 (.t 3)⟩,
      ⟨some 22, none, .load false 1 (.t 21)⟩,
      ⟨some 23, none, .bin .neq (.t 20) (.t 22)⟩]
      [[], [0], [], [1, 2], [3], [4], [], [6], [5, 7]]
      [(0, []), (2, []), (6, []), (1, []), (3, []), (4, []), (5, []), (7, []), (8, [])]
      [[], [0], [], [0, 1, 2], [0, 1, 2, 3], [0, 1, 2, 3, 4], [], [6], [0, 1, 2, 3, 4, 5, 6, 7]]
      [2, 3, 4, 5, 6, 23])
    (.cond (.t 23)
      (.region [⟨some 24, none, .mov (.t 5)⟩,
        ⟨some 25, none, .fieldAddr 1 (.t 2)⟩,
        ⟨some 26, none, .load false 1 (.t 25)⟩,
        ⟨some 27, none, .mov (.t 6)⟩,
        ⟨some 28, none, .idxS 6 (.t 26) (.t 27)⟩,
        ⟨some 29, none, .load true 6 (.t 28)⟩,
        ⟨some 30, none, .bslice [(.int .i64 0), (.int .i64 0), (.int .i64 0), (.int .i64 0), (.int .i64 0), (.bool false)] [(0, 6, .t 29)] 1 6⟩,
        ⟨some 31, none, .app 6 48 (.t 24) (.t 30)⟩,
        ⟨some 5, none, .mov (.t 31)⟩]
        [2, 3, 4, 5, 6])
      .skip)) [2, 3, 4, 5, 6])
  (.region [⟨some 13, none, .mov (.t 6)⟩,
    ⟨some 14, none, .bin .add (.t 13) (.c (.int .i64 1))⟩,
    ⟨some 6, none, .mov (.t 14)⟩]
    [2, 3, 4, 5, 6])))
def RC.ref28_with : RFn := ⟨2, [.cell 4 true 3],
  (.seq (.region [⟨some 2, none, .box (.t 0)⟩,
    ⟨some 3, none, .box (.t 1)⟩,
    ⟨some 4, none, .alloc [(.int .i64 0), (.slice none 0 0), (.slice none 0 0)]⟩]
    [2, 3, 4])
  (.seq (.region [⟨some 7, none, .bslice [] [] 0 6⟩,
    ⟨some 5, none, .mov (.t 7)⟩]
    [2, 3, 4, 5])
  (.seq (.seq (.region [⟨some 6, none, .mov (.c (.int .i64 0))⟩]
    [2, 3, 4, 5, 6])
  (.block 0
    (.loop [2, 3, 4, 5, 6] RB.ref28_with_1) [2, 3, 4, 5]))
  (.seq (.region [⟨some 32, none, .mov (.t 5)⟩,
    ⟨some 33, none, .load true 6 (.t 3)⟩,
    ⟨some 34, none, .bslice [(.int .i64 0), (.int .i64 0), (.int .i64 0), (.int .i64 0), (.int .i64 0), (.bool false)] [(0, 6, .t 33)] 1 6⟩,
    ⟨some 35, none, .app 6 48 (.t 32) (.t 34)⟩,
    ⟨some 36, none, .fieldAddr 1 (.t 2)⟩,
    ⟨none, none, .store 1 (.t 36) (.t 35)⟩]
    [2, 4])
  (.seq (.region [⟨some 37, none, .load true 3 (.t 2)⟩,
    ⟨none, none, .store 3 (.t 4) (.t 37)⟩]
    [4])
  .ret)))))⟩

def RB.ref28_without_1 : RCode :=
  (.seq (.seq (.region [⟨some 8, none, .mov (.t 6)⟩,
    ⟨some 9, none, .fieldAddr 1 (.t 2)⟩,
    ⟨some 10, none, .load false 1 (.t 9)⟩,
    ⟨some 11, none, .len (.t 10)⟩,
    ⟨some 12, none, .bin .lss (.t 8) (.t 11)⟩]
    [1, 2, 4, 5, 6, 12])
  (.cond (.t 12)
    .skip
    (.exit 0)))
  (.seq (.block 1
    (.seq (.region [⟨some 15, none, .fieldAddr 1 (.t 2)⟩,
      ⟨some 16, none, .load false 1 (.t 15)⟩,
      ⟨some 17, none, .mov (.t 6)⟩,
      ⟨some 18, none, .idxS 6 (.t 16) (.t 17)⟩,
      ⟨some 19, none, .fieldAddr 0 (.t 18)⟩,
      ⟨some 20, none, .load false 1 (.t 19)⟩,
      ⟨some 21, none, .mov (.t 1)⟩,
      ⟨some 22, none, .bin .neq (.t 20) (.t 21)⟩]
      [1, 2, 4, 5, 6, 22])
    (.cond (.t 22)
      (.region [⟨some 23, none, .mov (.t 5)⟩,
        ⟨some 24, none, .fieldAddr 1 (.t 2)⟩,
        ⟨some 25, none, .load false 1 (.t 24)⟩,
        ⟨some 26, none, .mov (.t 6)⟩,
        ⟨some 27, none, .idxS 6 (.t 25) (.t 26)⟩,
        ⟨some 28, none, .load true 6 (.t 27)⟩,
        ⟨some 29, none, .bslice [(.int .i64 0), (.int .i64 0), (.int .i64 0), (.int .i64 0), (.int .i64 0), (.bool false)] [(0, 6, .t 28)] 1 6⟩,
        ⟨some 30, none, .app 6 48 (.t 23) (.t 29)⟩,
        ⟨some 5, none, .mov (.t 30)⟩]
        [1, 2, 4, 5, 6])
      .skip)) [1, 2, 4, 5, 6])
  (.region [⟨some 13, none, .mov (.t 6)⟩,
    ⟨some 14, none, .bin .add (.t 13) (.c (.int .i64 1))⟩,
    ⟨some 6, none, .mov (.t 14)⟩]
    [1, 2, 4, 5, 6])))
def RC.ref28_without : RFn := ⟨2, [.cell 4 true 3],
  (.seq (.region [⟨some 2, none, .box (.t 0)⟩,
    ⟨some 4, none, .alloc [(.int .i64 0), (.slice none 0 0), (.slice none 0 0)]⟩]
    [1, 2, 4])
  (.seq (.region [⟨some 7, none, .bslice [] [] 0 6⟩,
    ⟨some 5, none, .mov (.t 7)⟩]
    [1, 2, 4, 5])
  (.seq (.seq (.region [⟨some 6, none, .mov (.c (.int .i64 0))⟩]
    [1, 2, 4, 5, 6])
  (.block 0
    (.loop [1, 2, 4, 5, 6] RB.ref28_without_1) [2, 4, 5]))
  (.seq (.region [⟨some 31, none, .mov (.t 5)⟩,
    ⟨some 32, none, .fieldAddr 1 (.t 2)⟩,
    ⟨none, none, .store 1 (.t 32) (.t 31)⟩]
    [2, 4])
  (.seq (.region [⟨some 33, none, .load true 3 (.t 2)⟩,
    ⟨none, none, .store 3 (.t 4) (.t 33)⟩]
    [4])
  .ret)))))⟩

def RB.ref28_groupWith_1 : RCode :=
  (.seq (.seq (.region [⟨some 10, none, .mov (.t 8)⟩,
    ⟨some 11, none, .fieldAddr 2 (.t 3)⟩,
    ⟨some 12, none, .load false 1 (.t 11)⟩,
    ⟨some 13, none, .len (.t 12)⟩,
    ⟨some 14, none, .bin .lss (.t 10) (.t 13)⟩]
    [2, 3, 4, 6, 7, 8, 14])
  (.cond (.t 14)
    .skip
    (.exit 0)))
  (.seq (.block 1
    (.seq (.drawn [⟨some 17, none, .fieldAddr 2 (.t 3)⟩,
      ⟨some 18, none, .load false 1 (.t 17)⟩,
      ⟨some 19, none, .mov (.t 8)⟩,
      ⟨some 20, none, .idxS 2 (.t 18) (.t 19)⟩,
      ⟨some 21, none, .fieldAddr 0 (.t 20)⟩,
      ⟨some 22, none, .load false 1 (.t 21)⟩,
      ⟨some 23, none, .fieldAddr 0 (.t 4)⟩,
      ⟨some 24, none, .load false 1 (.t 23)⟩,
      ⟨some 25, none, .bin .neq (.t 22) (.t 24)⟩]
      [[], [0], [], [1, 2], [3], [4], [], [6], [5, 7]]
      [(0, []), (2, []), (6, []), (1, []), (3, []), (4, []), (5, []), (7, []), (8, [])]
      [[], [0], [], [0, 1, 2], [0, 1, 2, 3], [0, 1, 2, 3, 4], [], [6], [0, 1, 2, 3, 4, 5, 6, 7]]
      [2, 3, 4, 6, 7, 8, 25])
    (.cond (.t 25)
      (.region [⟨some 26, none, .mov (.t 7)⟩,
        ⟨some 27, none, .fieldAddr 2 (.t 3)⟩,
        ⟨some 28, none, .load false 1 (.t 27)⟩,
        ⟨some 29, none, .mov (.t 8)⟩,
        ⟨some 30, none, .idxS 2 (.t 28) (.t 29)⟩,
        ⟨some 31, none, .load true 2 (.t 30)⟩,
        ⟨some 32, none, .bslice [(.int .i64 0), (.int .i64 0)] [(0, 2, .t 31)] 1 2⟩,
        ⟨some 33, none, .app 2 16 (.t 26) (.t 32)⟩,
        ⟨some 7, none, .mov (.t 33)⟩]
        [2, 3, 4, 6, 7, 8])
      .skip)) [2, 3, 4, 6, 7, 8])
  (.region [⟨some 15, none, .mov (.t 8)⟩,
    ⟨some 16, none, .bin .add (.t 15) (.c (.int .i64 1))⟩,
    ⟨some 8, none, .mov (.t 16)⟩]
    [2, 3, 4, 6, 7, 8])))
def RC.ref28_groupWith : RFn := ⟨3, [.cell 6 true 3],
  (.seq (.region [⟨some 3, none, .box (.t 0)⟩,
    ⟨some 4, none, .box (.t 1)⟩,
    ⟨some 6, none, .alloc [(.int .i64 0), (.slice none 0 0), (.slice none 0 0)]⟩]
    [2, 3, 4, 6])
  (.seq (.region [⟨some 9, none, .bslice [] [] 0 2⟩,
    ⟨some 7, none, .mov (.t 9)⟩]
    [2, 3, 4, 6, 7])
  (.seq (.seq (.region [⟨some 8, none, .mov (.c (.int .i64 0))⟩]
    [2, 3, 4, 6, 7, 8])
  (.block 0
    (.loop [2, 3, 4, 6, 7, 8] RB.ref28_groupWith_1) [2, 3, 4, 6, 7]))
  (.seq (.seq (.region [⟨some 34, none, .mov (.t 2)⟩]
    [3, 4, 6, 7, 34])
  (.cond (.t 34)
    (.region [⟨some 35, none, .mov (.t 7)⟩,
      ⟨some 36, none, .load true 2 (.t 4)⟩,
      ⟨some 37, none, .bslice [(.int .i64 0), (.int .i64 0)] [(0, 2, .t 36)] 1 2⟩,
      ⟨some 38, none, .app 2 16 (.t 35) (.t 37)⟩,
      ⟨some 7, none, .mov (.t 38)⟩]
      [3, 6, 7])
    .skip))
  (.seq (.region [⟨some 39, none, .mov (.t 7)⟩,
    ⟨some 40, none, .fieldAddr 2 (.t 3)⟩,
    ⟨none, none, .store 1 (.t 40) (.t 39)⟩]
    [3, 6])
  (.seq (.region [⟨some 41, none, .load true 3 (.t 3)⟩,
    ⟨none, none, .store 3 (.t 6) (.t 41)⟩]
    [6])
  .ret))))))⟩

def RC.roster_Roster_Arrive : RFn := ⟨3, [.slot 6],
  (.seq (.region [⟨some 6, none, .mov (.c (.int .i64 0))⟩]
    [0, 1, 2])
  (.seq (.seq (.region [⟨some 8, none, .mov (.t 0)⟩,
    ⟨some 9, none, .mov (.t 1)⟩,
    ⟨some 10, none, .call F.roster_Roster_fresh [.t 8, .t 9]⟩,
    ⟨some 7, none, .mov (.t 10)⟩]
    [0, 1, 2, 7])
  (.seq (.region [⟨some 11, none, .mov (.t 7)⟩,
    ⟨some 12, none, .bin .neq (.t 11) (.c (.int .i64 0))⟩]
    [0, 1, 2, 7, 12])
  (.cond (.t 12)
    (.seq (.region [⟨some 13, none, .mov (.t 7)⟩,
      ⟨some 6, none, .mov (.t 13)⟩]
      [6])
    .ret)
    .skip)))
  (.seq (.block 0
    (.seq (.region [⟨some 15, none, .mov (.t 0)⟩,
      ⟨some 16, none, .mov (.t 2)⟩,
      ⟨some 17, none, .call F.roster_Roster_share [.t 15, .t 16]⟩,
      ⟨some 18, none, .un .not (.t 17)⟩,
      ⟨some 14, none, .mov (.t 18)⟩]
      [0, 1, 2, 14])
    (.cond (.t 14)
      (.seq (.region [⟨some 6, none, .mov (.c (.int .i64 21))⟩]
        [6])
      .ret)
      (.seq (.region [⟨some 20, none, .mov (.t 0)⟩,
        ⟨some 21, none, .nilchk (.t 20)⟩,
        ⟨some 22, none, .fieldAddr 1 (.t 21)⟩,
        ⟨some 23, none, .load false 1 (.t 22)⟩,
        ⟨some 24, none, .lenM (.t 23)⟩,
        ⟨some 25, none, .bin .geq (.t 24) (.c (.int .i64 96))⟩,
        ⟨some 19, none, .mov (.t 25)⟩]
        [0, 1, 2, 19])
      (.cond (.t 19)
        (.seq (.region [⟨some 6, none, .mov (.c (.int .i64 13))⟩]
          [6])
        .ret)
        .skip)))) [0, 1, 2])
  (.seq (.region [⟨some 26, none, .mov (.t 0)⟩,
    ⟨some 27, none, .nilchk (.t 26)⟩,
    ⟨some 28, none, .fieldAddr 1 (.t 27)⟩,
    ⟨some 29, none, .load false 1 (.t 28)⟩,
    ⟨some 30, none, .mov (.t 1)⟩,
    ⟨some 31, none, .mov (.t 1)⟩,
    ⟨some 32, none, .mov (.t 2)⟩,
    ⟨some 33, none, .build [(.int .i64 0), (.int .i64 0), (.int .i64 0), (.int .i64 0), (.int .i64 0), (.bool false)] [(0, 1, .t 31), (2, 1, .t 32)]⟩,
    ⟨none, none, .upd .int (.t 29) (.t 30) (.t 33)⟩]
    [])
  (.seq (.region [⟨some 6, none, .mov (.c (.int .i64 0))⟩]
    [6])
  .ret)))))⟩

def RC.roster_Roster_Reweight : RFn := ⟨3, [.slot 6],
  (.seq (.region [⟨some 6, none, .mov (.c (.int .i64 0))⟩]
    [0, 1, 2])
  (.seq (.region [⟨some 10, none, .mov (.t 0)⟩,
    ⟨some 11, none, .mov (.t 1)⟩,
    ⟨some 12, none, .call F.roster_Roster_member [.t 10, .t 11, .c (.bool false)]⟩,
    ⟨some 9, none, .mov (.t 12)⟩,
    ⟨some 13, none, .ext 0 (.t 9)⟩,
    ⟨some 14, none, .ext 1 (.t 9)⟩,
    ⟨some 7, none, .alloc [(.int .i64 0), (.int .i64 0), (.int .i64 0), (.int .i64 0), (.int .i64 0), (.bool false)]⟩,
    ⟨none, none, .store 6 (.t 7) (.t 13)⟩,
    ⟨some 8, none, .mov (.t 14)⟩]
    [0, 1, 2, 7, 8])
  (.seq (.block 0
    (.seq (.region [⟨some 16, none, .mov (.t 8)⟩,
      ⟨some 17, none, .bin .neq (.t 16) (.c (.int .i64 0))⟩,
      ⟨some 15, none, .mov (.t 17)⟩]
      [0, 1, 2, 7, 8, 15])
    (.cond (.t 15)
      (.seq (.region [⟨some 18, none, .mov (.t 8)⟩,
        ⟨some 6, none, .mov (.t 18)⟩]
        [6])
      .ret)
      (.seq (.region [⟨some 20, none, .mov (.t 0)⟩,
        ⟨some 21, none, .mov (.t 2)⟩,
        ⟨some 22, none, .call F.roster_Roster_share [.t 20, .t 21]⟩,
        ⟨some 23, none, .un .not (.t 22)⟩,
        ⟨some 19, none, .mov (.t 23)⟩]
        [0, 1, 2, 7, 19])
      (.cond (.t 19)
        (.seq (.region [⟨some 6, none, .mov (.c (.int .i64 21))⟩]
          [6])
        .ret)
        .skip)))) [0, 1, 2, 7])
  (.seq (.region [⟨some 24, none, .mov (.t 2)⟩,
    ⟨some 25, none, .fieldAddr 2 (.t 7)⟩,
    ⟨none, none, .store 1 (.t 25) (.t 24)⟩]
    [0, 1, 7])
  (.seq (.drawn [⟨some 26, none, .mov (.t 0)⟩,
    ⟨some 27, none, .nilchk (.t 26)⟩,
    ⟨some 28, none, .fieldAddr 1 (.t 27)⟩,
    ⟨some 29, none, .load false 1 (.t 28)⟩,
    ⟨some 30, none, .mov (.t 1)⟩,
    ⟨some 31, none, .load true 6 (.t 7)⟩,
    ⟨none, none, .upd .int (.t 29) (.t 30) (.t 31)⟩]
    [[], [0], [1], [2], [], [], [3, 4, 5, 0, 1, 2, 3, 4, 5]]
    [(0, []), (1, []), (2, []), (4, []), (3, []), (5, []), (6, [])]
    [[], [0], [0, 1], [0, 1, 2], [], [], [0, 1, 2, 3, 4, 5]]
    [])
  (.seq (.region [⟨some 6, none, .mov (.c (.int .i64 0))⟩]
    [6])
  .ret))))))⟩

def RC.roster_Roster_Block : RFn := ⟨2, [.slot 4],
  (.seq (.region [⟨some 4, none, .mov (.c (.int .i64 0))⟩]
    [0, 1])
  (.seq (.region [⟨some 5, none, .mov (.t 0)⟩,
    ⟨some 6, none, .mov (.t 1)⟩,
    ⟨some 7, none, .call F.roster_Roster_off [.t 5, .t 6, .c (.bool true)]⟩,
    ⟨some 4, none, .mov (.t 7)⟩]
    [4])
  .ret))⟩

def RC.roster_Roster_Wake : RFn := ⟨2, [.slot 4],
  (.seq (.region [⟨some 4, none, .mov (.c (.int .i64 0))⟩]
    [0, 1])
  (.seq (.region [⟨some 5, none, .mov (.t 0)⟩,
    ⟨some 6, none, .mov (.t 1)⟩,
    ⟨some 7, none, .call F.roster_Roster_off [.t 5, .t 6, .c (.bool false)]⟩,
    ⟨some 4, none, .mov (.t 7)⟩]
    [4])
  .ret))⟩

def RC.roster_Roster_Found : RFn := ⟨3, [.slot 6],
  (.seq (.region [⟨some 6, none, .mov (.c (.int .i64 0))⟩]
    [0, 1, 2])
  (.seq (.seq (.region [⟨some 11, none, .mov (.t 0)⟩,
    ⟨some 12, none, .call F.roster_Roster_none [.t 11]⟩]
    [0, 1, 2, 12])
  (.cond (.t 12)
    (.seq (.region [⟨some 6, none, .mov (.c (.int .i64 2))⟩]
      [6])
    .ret)
    .skip))
  (.seq (.seq (.region [⟨some 14, none, .mov (.t 1)⟩,
    ⟨some 15, none, .call F.order_Unit [.t 14, .c (.bool true)]⟩,
    ⟨some 13, none, .mov (.t 15)⟩,
    ⟨some 16, none, .ext 0 (.t 13)⟩,
    ⟨some 17, none, .ext 1 (.t 13)⟩,
    ⟨some 7, none, .mov (.t 16)⟩,
    ⟨some 8, none, .mov (.t 17)⟩]
    [0, 1, 2, 8])
  (.seq (.region [⟨some 18, none, .mov (.t 8)⟩,
    ⟨some 19, none, .bin .neq (.t 18) (.c (.int .i64 0))⟩]
    [0, 1, 2, 19])
  (.cond (.t 19)
    (.seq (.region [⟨some 6, none, .mov (.c (.int .i64 25))⟩]
      [6])
    .ret)
    .skip)))
  (.seq (.seq (.region [⟨some 21, none, .mov (.t 0)⟩,
    ⟨some 22, none, .nilchk (.t 21)⟩,
    ⟨some 23, none, .fieldAddr 2 (.t 22)⟩,
    ⟨some 24, none, .load false 1 (.t 23)⟩,
    ⟨some 25, none, .mov (.t 1)⟩,
    ⟨some 26, none, .look .int (.agg #[(.int .i64 0), (.int .i64 0), (.int .i64 0)]) true (.t 24) (.t 25)⟩,
    ⟨some 20, none, .mov (.t 26)⟩,
    ⟨some 27, none, .ext 0 (.t 20)⟩,
    ⟨some 28, none, .ext 1 (.t 20)⟩,
    ⟨some 9, none, .alloc [(.int .i64 0), (.int .i64 0), (.int .i64 0)]⟩,
    ⟨none, none, .store 3 (.t 9) (.t 27)⟩,
    ⟨some 10, none, .mov (.t 28)⟩]
    [0, 1, 2, 10])
  (.seq (.region [⟨some 29, none, .mov (.t 10)⟩]
    [0, 1, 2, 29])
  (.cond (.t 29)
    (.seq (.region [⟨some 6, none, .mov (.c (.int .i64 11))⟩]
      [6])
    .ret)
    .skip)))
  (.seq (.seq (.region [⟨some 30, none, .mov (.t 0)⟩,
    ⟨some 31, none, .mov (.t 2)⟩,
    ⟨some 32, none, .call F.roster_Roster_share [.t 30, .t 31]⟩,
    ⟨some 33, none, .un .not (.t 32)⟩]
    [0, 1, 2, 33])
  (.cond (.t 33)
    (.seq (.region [⟨some 6, none, .mov (.c (.int .i64 21))⟩]
      [6])
    .ret)
    .skip))
  (.seq (.region [⟨some 34, none, .mov (.t 0)⟩,
    ⟨some 35, none, .nilchk (.t 34)⟩,
    ⟨some 36, none, .fieldAddr 2 (.t 35)⟩,
    ⟨some 37, none, .load false 1 (.t 36)⟩,
    ⟨some 38, none, .mov (.t 1)⟩,
    ⟨some 39, none, .mov (.t 1)⟩,
    ⟨some 40, none, .mov (.t 2)⟩,
    ⟨some 41, none, .build [(.int .i64 0), (.int .i64 0), (.int .i64 0)] [(0, 1, .t 39), (1, 1, .t 40)]⟩,
    ⟨none, none, .upd .int (.t 37) (.t 38) (.t 41)⟩]
    [])
  (.seq (.region [⟨some 6, none, .mov (.c (.int .i64 0))⟩]
    [6])
  .ret)))))))⟩

def RC.roster_Roster_Fund : RFn := ⟨3, [.slot 6],
  (.seq (.region [⟨some 6, none, .mov (.c (.int .i64 0))⟩]
    [0, 1, 2])
  (.seq (.region [⟨some 10, none, .mov (.t 0)⟩,
    ⟨some 11, none, .mov (.t 1)⟩,
    ⟨some 12, none, .call F.roster_Roster_group [.t 10, .t 11]⟩,
    ⟨some 9, none, .mov (.t 12)⟩,
    ⟨some 13, none, .ext 0 (.t 9)⟩,
    ⟨some 14, none, .ext 1 (.t 9)⟩,
    ⟨some 7, none, .alloc [(.int .i64 0), (.int .i64 0), (.int .i64 0)]⟩,
    ⟨none, none, .store 3 (.t 7) (.t 13)⟩,
    ⟨some 8, none, .mov (.t 14)⟩]
    [0, 1, 2, 7, 8])
  (.seq (.block 0
    (.seq (.region [⟨some 16, none, .mov (.t 8)⟩,
      ⟨some 17, none, .bin .neq (.t 16) (.c (.int .i64 0))⟩,
      ⟨some 15, none, .mov (.t 17)⟩]
      [0, 1, 2, 7, 8, 15])
    (.cond (.t 15)
      (.seq (.region [⟨some 18, none, .mov (.t 8)⟩,
        ⟨some 6, none, .mov (.t 18)⟩]
        [6])
      .ret)
      (.seq (.region [⟨some 20, none, .mov (.t 0)⟩,
        ⟨some 21, none, .mov (.t 2)⟩,
        ⟨some 22, none, .call F.roster_Roster_share [.t 20, .t 21]⟩,
        ⟨some 23, none, .un .not (.t 22)⟩,
        ⟨some 19, none, .mov (.t 23)⟩]
        [0, 1, 2, 7, 19])
      (.cond (.t 19)
        (.seq (.region [⟨some 6, none, .mov (.c (.int .i64 21))⟩]
          [6])
        .ret)
        .skip)))) [0, 1, 2, 7])
  (.seq (.region [⟨some 24, none, .mov (.t 2)⟩,
    ⟨some 25, none, .fieldAddr 1 (.t 7)⟩,
    ⟨none, none, .store 1 (.t 25) (.t 24)⟩]
    [0, 1, 7])
  (.seq (.drawn [⟨some 26, none, .mov (.t 0)⟩,
    ⟨some 27, none, .nilchk (.t 26)⟩,
    ⟨some 28, none, .fieldAddr 2 (.t 27)⟩,
    ⟨some 29, none, .load false 1 (.t 28)⟩,
    ⟨some 30, none, .mov (.t 1)⟩,
    ⟨some 31, none, .load true 3 (.t 7)⟩,
    ⟨none, none, .upd .int (.t 29) (.t 30) (.t 31)⟩]
    [[], [0], [1], [2], [], [], [3, 4, 5, 0, 1, 2, 3, 4, 5]]
    [(0, []), (1, []), (2, []), (4, []), (3, []), (5, []), (6, [])]
    [[], [0], [0, 1], [0, 1, 2], [], [], [0, 1, 2, 3, 4, 5]]
    [])
  (.seq (.region [⟨some 6, none, .mov (.c (.int .i64 0))⟩]
    [6])
  .ret))))))⟩

def RC.roster_Roster_Disband : RFn := ⟨2, [.slot 4],
  (.seq (.region [⟨some 4, none, .mov (.c (.int .i64 0))⟩]
    [0, 1])
  (.seq (.region [⟨some 8, none, .mov (.t 0)⟩,
    ⟨some 9, none, .mov (.t 1)⟩,
    ⟨some 10, none, .call F.roster_Roster_group [.t 8, .t 9]⟩,
    ⟨some 7, none, .mov (.t 10)⟩,
    ⟨some 11, none, .ext 0 (.t 7)⟩,
    ⟨some 12, none, .ext 1 (.t 7)⟩,
    ⟨some 5, none, .alloc [(.int .i64 0), (.int .i64 0), (.int .i64 0)]⟩,
    ⟨none, none, .store 3 (.t 5) (.t 11)⟩,
    ⟨some 6, none, .mov (.t 12)⟩]
    [0, 1, 5, 6])
  (.seq (.block 0
    (.seq (.region [⟨some 14, none, .mov (.t 6)⟩,
      ⟨some 15, none, .bin .neq (.t 14) (.c (.int .i64 0))⟩,
      ⟨some 13, none, .mov (.t 15)⟩]
      [0, 1, 5, 6, 13])
    (.cond (.t 13)
      (.seq (.region [⟨some 16, none, .mov (.t 6)⟩,
        ⟨some 4, none, .mov (.t 16)⟩]
        [4])
      .ret)
      (.seq (.region [⟨some 18, none, .fieldAddr 2 (.t 5)⟩,
        ⟨some 19, none, .load false 1 (.t 18)⟩,
        ⟨some 20, none, .bin .gtr (.t 19) (.c (.int .i64 0))⟩,
        ⟨some 17, none, .mov (.t 20)⟩]
        [0, 1, 17])
      (.cond (.t 17)
        (.seq (.region [⟨some 4, none, .mov (.c (.int .i64 16))⟩]
          [4])
        .ret)
        .skip)))) [0, 1])
  (.seq (.region [⟨some 21, none, .mov (.t 0)⟩,
    ⟨some 22, none, .nilchk (.t 21)⟩,
    ⟨some 23, none, .fieldAddr 2 (.t 22)⟩,
    ⟨some 24, none, .load false 1 (.t 23)⟩,
    ⟨some 25, none, .mov (.t 1)⟩,
    ⟨none, none, .del .int (.t 24) (.t 25)⟩]
    [])
  (.seq (.region [⟨some 4, none, .mov (.c (.int .i64 0))⟩]
    [4])
  .ret)))))⟩

def RC.roster_Roster_Enter : RFn := ⟨5, [.slot 10],
  (.seq (.region [⟨some 10, none, .mov (.c (.int .i64 0))⟩]
    [0, 1, 2, 3, 4])
  (.seq (.seq (.region [⟨some 14, none, .mov (.t 0)⟩,
    ⟨some 15, none, .mov (.t 1)⟩,
    ⟨some 16, none, .call F.roster_Roster_fresh [.t 14, .t 15]⟩,
    ⟨some 11, none, .mov (.t 16)⟩]
    [0, 1, 2, 3, 4, 11])
  (.seq (.region [⟨some 17, none, .mov (.t 11)⟩,
    ⟨some 18, none, .bin .neq (.t 17) (.c (.int .i64 0))⟩]
    [0, 1, 2, 3, 4, 11, 18])
  (.cond (.t 18)
    (.seq (.region [⟨some 19, none, .mov (.t 11)⟩,
      ⟨some 10, none, .mov (.t 19)⟩]
      [10])
    .ret)
    .skip)))
  (.seq (.region [⟨some 21, none, .mov (.t 0)⟩,
    ⟨some 22, none, .mov (.t 2)⟩,
    ⟨some 23, none, .call F.roster_Roster_group [.t 21, .t 22]⟩,
    ⟨some 20, none, .mov (.t 23)⟩,
    ⟨some 24, none, .ext 0 (.t 20)⟩,
    ⟨some 25, none, .ext 1 (.t 20)⟩,
    ⟨some 12, none, .alloc [(.int .i64 0), (.int .i64 0), (.int .i64 0)]⟩,
    ⟨none, none, .store 3 (.t 12) (.t 24)⟩,
    ⟨some 13, none, .mov (.t 25)⟩]
    [0, 1, 2, 3, 4, 12, 13])
  (.seq (.block 0
    (.seq (.region [⟨some 27, none, .mov (.t 13)⟩,
      ⟨some 28, none, .bin .neq (.t 27) (.c (.int .i64 0))⟩,
      ⟨some 26, none, .mov (.t 28)⟩]
      [0, 1, 2, 3, 4, 12, 13, 26])
    (.cond (.t 26)
      (.seq (.region [⟨some 29, none, .mov (.t 13)⟩,
        ⟨some 10, none, .mov (.t 29)⟩]
        [10])
      .ret)
      (.seq (.region [⟨some 31, none, .mov (.t 3)⟩,
        ⟨some 32, none, .call F.roster_weight [.t 31]⟩,
        ⟨some 33, none, .un .not (.t 32)⟩,
        ⟨some 30, none, .mov (.t 33)⟩]
        [0, 1, 2, 3, 4, 12, 30])
      (.cond (.t 30)
        (.seq (.region [⟨some 10, none, .mov (.c (.int .i64 22))⟩]
          [10])
        .ret)
        (.seq (.region [⟨some 35, none, .mov (.t 4)⟩,
          ⟨some 36, none, .bin .lss (.t 35) (.c (.int .i64 0))⟩,
          ⟨some 37, none, .mov (.t 36)⟩,
          ⟨some 38, some (37, false), .mov (.t 4)⟩,
          ⟨some 39, some (37, false), .mov (.t 0)⟩,
          ⟨some 40, some (37, false), .nilchk (.t 39)⟩,
          ⟨some 41, some (37, false), .fieldAddr 0 (.t 40)⟩,
          ⟨some 42, some (37, false), .load false 1 (.t 41)⟩,
          ⟨some 43, some (37, false), .bin .gtr (.t 38) (.t 42)⟩,
          ⟨some 44, none, .pick (.t 37) (.c (.bool true)) (.t 43)⟩,
          ⟨some 34, none, .mov (.t 44)⟩]
          [0, 1, 2, 3, 4, 12, 34])
        (.cond (.t 34)
          (.seq (.region [⟨some 10, none, .mov (.c (.int .i64 23))⟩]
            [10])
          .ret)
          (.seq (.region [⟨some 46, none, .mov (.t 0)⟩,
            ⟨some 47, none, .nilchk (.t 46)⟩,
            ⟨some 48, none, .fieldAddr 1 (.t 47)⟩,
            ⟨some 49, none, .load false 1 (.t 48)⟩,
            ⟨some 50, none, .lenM (.t 49)⟩,
            ⟨some 51, none, .bin .geq (.t 50) (.c (.int .i64 96))⟩,
            ⟨some 52, none, .mov (.t 51)⟩,
            ⟨some 53, some (52, false), .fieldAddr 2 (.t 12)⟩,
            ⟨some 54, some (52, false), .load false 1 (.t 53)⟩,
            ⟨some 55, some (52, false), .bin .geq (.t 54) (.c (.int .i64 32))⟩,
            ⟨some 56, none, .pick (.t 52) (.c (.bool true)) (.t 55)⟩,
            ⟨some 45, none, .mov (.t 56)⟩]
            [0, 1, 2, 3, 4, 45])
          (.cond (.t 45)
            (.seq (.region [⟨some 10, none, .mov (.c (.int .i64 13))⟩]
              [10])
            .ret)
            .skip)))))))) [0, 1, 2, 3, 4])
  (.seq (.region [⟨some 57, none, .mov (.t 0)⟩,
    ⟨some 58, none, .nilchk (.t 57)⟩,
    ⟨some 59, none, .fieldAddr 1 (.t 58)⟩,
    ⟨some 60, none, .load false 1 (.t 59)⟩,
    ⟨some 61, none, .mov (.t 1)⟩,
    ⟨some 62, none, .mov (.t 1)⟩,
    ⟨some 63, none, .mov (.t 2)⟩,
    ⟨some 64, none, .mov (.t 3)⟩,
    ⟨some 65, none, .mov (.t 4)⟩,
    ⟨some 66, none, .build [(.int .i64 0), (.int .i64 0), (.int .i64 0), (.int .i64 0), (.int .i64 0), (.bool false)] [(0, 1, .t 62), (1, 1, .t 63), (3, 1, .t 64), (4, 1, .t 65)]⟩,
    ⟨none, none, .upd .int (.t 60) (.t 61) (.t 66)⟩]
    [0, 2])
  (.seq (.region [⟨some 67, none, .mov (.t 0)⟩,
    ⟨some 68, none, .mov (.t 2)⟩,
    ⟨some 69, none, .call F.roster_Roster_count [.t 67, .t 68, .c (.int .i64 1)]⟩]
    [])
  (.seq (.region [⟨some 10, none, .mov (.c (.int .i64 0))⟩]
    [10])
  .ret)))))))⟩

def RC.roster_Roster_Weigh : RFn := ⟨3, [.slot 6],
  (.seq (.region [⟨some 6, none, .mov (.c (.int .i64 0))⟩]
    [0, 1, 2])
  (.seq (.region [⟨some 10, none, .mov (.t 0)⟩,
    ⟨some 11, none, .mov (.t 1)⟩,
    ⟨some 12, none, .call F.roster_Roster_member [.t 10, .t 11, .c (.bool true)]⟩,
    ⟨some 9, none, .mov (.t 12)⟩,
    ⟨some 13, none, .ext 0 (.t 9)⟩,
    ⟨some 14, none, .ext 1 (.t 9)⟩,
    ⟨some 7, none, .alloc [(.int .i64 0), (.int .i64 0), (.int .i64 0), (.int .i64 0), (.int .i64 0), (.bool false)]⟩,
    ⟨none, none, .store 6 (.t 7) (.t 13)⟩,
    ⟨some 8, none, .mov (.t 14)⟩]
    [0, 1, 2, 7, 8])
  (.seq (.block 0
    (.seq (.region [⟨some 16, none, .mov (.t 8)⟩,
      ⟨some 17, none, .bin .neq (.t 16) (.c (.int .i64 0))⟩,
      ⟨some 15, none, .mov (.t 17)⟩]
      [0, 1, 2, 7, 8, 15])
    (.cond (.t 15)
      (.seq (.region [⟨some 18, none, .mov (.t 8)⟩,
        ⟨some 6, none, .mov (.t 18)⟩]
        [6])
      .ret)
      (.seq (.region [⟨some 20, none, .mov (.t 2)⟩,
        ⟨some 21, none, .call F.roster_weight [.t 20]⟩,
        ⟨some 22, none, .un .not (.t 21)⟩,
        ⟨some 19, none, .mov (.t 22)⟩]
        [0, 1, 2, 7, 19])
      (.cond (.t 19)
        (.seq (.region [⟨some 6, none, .mov (.c (.int .i64 22))⟩]
          [6])
        .ret)
        .skip)))) [0, 1, 2, 7])
  (.seq (.region [⟨some 23, none, .mov (.t 2)⟩,
    ⟨some 24, none, .fieldAddr 3 (.t 7)⟩,
    ⟨none, none, .store 1 (.t 24) (.t 23)⟩]
    [0, 1, 7])
  (.seq (.drawn [⟨some 25, none, .mov (.t 0)⟩,
    ⟨some 26, none, .nilchk (.t 25)⟩,
    ⟨some 27, none, .fieldAddr 1 (.t 26)⟩,
    ⟨some 28, none, .load false 1 (.t 27)⟩,
    ⟨some 29, none, .mov (.t 1)⟩,
    ⟨some 30, none, .load true 6 (.t 7)⟩,
    ⟨none, none, .upd .int (.t 28) (.t 29) (.t 30)⟩]
    [[], [0], [1], [2], [], [], [3, 4, 5, 0, 1, 2, 3, 4, 5]]
    [(0, []), (1, []), (2, []), (4, []), (3, []), (5, []), (6, [])]
    [[], [0], [0, 1], [0, 1, 2], [], [], [0, 1, 2, 3, 4, 5]]
    [])
  (.seq (.region [⟨some 6, none, .mov (.c (.int .i64 0))⟩]
    [6])
  .ret))))))⟩

def RC.roster_Roster_Limit : RFn := ⟨3, [.slot 6],
  (.seq (.region [⟨some 6, none, .mov (.c (.int .i64 0))⟩]
    [0, 1, 2])
  (.seq (.region [⟨some 10, none, .mov (.t 0)⟩,
    ⟨some 11, none, .mov (.t 1)⟩,
    ⟨some 12, none, .call F.roster_Roster_member [.t 10, .t 11, .c (.bool true)]⟩,
    ⟨some 9, none, .mov (.t 12)⟩,
    ⟨some 13, none, .ext 0 (.t 9)⟩,
    ⟨some 14, none, .ext 1 (.t 9)⟩,
    ⟨some 7, none, .alloc [(.int .i64 0), (.int .i64 0), (.int .i64 0), (.int .i64 0), (.int .i64 0), (.bool false)]⟩,
    ⟨none, none, .store 6 (.t 7) (.t 13)⟩,
    ⟨some 8, none, .mov (.t 14)⟩]
    [0, 1, 2, 7, 8])
  (.seq (.block 0
    (.seq (.region [⟨some 16, none, .mov (.t 8)⟩,
      ⟨some 17, none, .bin .neq (.t 16) (.c (.int .i64 0))⟩,
      ⟨some 15, none, .mov (.t 17)⟩]
      [0, 1, 2, 7, 8, 15])
    (.cond (.t 15)
      (.seq (.region [⟨some 18, none, .mov (.t 8)⟩,
        ⟨some 6, none, .mov (.t 18)⟩]
        [6])
      .ret)
      (.seq (.region [⟨some 20, none, .mov (.t 2)⟩,
        ⟨some 21, none, .bin .lss (.t 20) (.c (.int .i64 0))⟩,
        ⟨some 22, none, .mov (.t 21)⟩,
        ⟨some 23, some (22, false), .mov (.t 2)⟩,
        ⟨some 24, some (22, false), .mov (.t 0)⟩,
        ⟨some 25, some (22, false), .nilchk (.t 24)⟩,
        ⟨some 26, some (22, false), .fieldAddr 0 (.t 25)⟩,
        ⟨some 27, some (22, false), .load false 1 (.t 26)⟩,
        ⟨some 28, some (22, false), .bin .gtr (.t 23) (.t 27)⟩,
        ⟨some 29, none, .pick (.t 22) (.c (.bool true)) (.t 28)⟩,
        ⟨some 19, none, .mov (.t 29)⟩]
        [0, 1, 2, 7, 19])
      (.cond (.t 19)
        (.seq (.region [⟨some 6, none, .mov (.c (.int .i64 23))⟩]
          [6])
        .ret)
        .skip)))) [0, 1, 2, 7])
  (.seq (.region [⟨some 30, none, .mov (.t 2)⟩,
    ⟨some 31, none, .fieldAddr 4 (.t 7)⟩,
    ⟨none, none, .store 1 (.t 31) (.t 30)⟩]
    [0, 1, 7])
  (.seq (.drawn [⟨some 32, none, .mov (.t 0)⟩,
    ⟨some 33, none, .nilchk (.t 32)⟩,
    ⟨some 34, none, .fieldAddr 1 (.t 33)⟩,
    ⟨some 35, none, .load false 1 (.t 34)⟩,
    ⟨some 36, none, .mov (.t 1)⟩,
    ⟨some 37, none, .load true 6 (.t 7)⟩,
    ⟨none, none, .upd .int (.t 35) (.t 36) (.t 37)⟩]
    [[], [0], [1], [2], [], [], [3, 4, 5, 0, 1, 2, 3, 4, 5]]
    [(0, []), (1, []), (2, []), (4, []), (3, []), (5, []), (6, [])]
    [[], [0], [0, 1], [0, 1, 2], [], [], [0, 1, 2, 3, 4, 5]]
    [])
  (.seq (.region [⟨some 6, none, .mov (.c (.int .i64 0))⟩]
    [6])
  .ret))))))⟩

def RC.roster_Roster_Move : RFn := ⟨3, [.slot 6],
  (.seq (.region [⟨some 6, none, .mov (.c (.int .i64 0))⟩]
    [0, 1, 2])
  (.seq (.region [⟨some 11, none, .mov (.t 0)⟩,
    ⟨some 12, none, .mov (.t 1)⟩,
    ⟨some 13, none, .call F.roster_Roster_member [.t 11, .t 12, .c (.bool true)]⟩,
    ⟨some 10, none, .mov (.t 13)⟩,
    ⟨some 14, none, .ext 0 (.t 10)⟩,
    ⟨some 15, none, .ext 1 (.t 10)⟩,
    ⟨some 7, none, .alloc [(.int .i64 0), (.int .i64 0), (.int .i64 0), (.int .i64 0), (.int .i64 0), (.bool false)]⟩,
    ⟨none, none, .store 6 (.t 7) (.t 14)⟩,
    ⟨some 8, none, .mov (.t 15)⟩]
    [0, 1, 2, 7, 8])
  (.seq (.seq (.region [⟨some 16, none, .mov (.t 8)⟩,
    ⟨some 17, none, .bin .neq (.t 16) (.c (.int .i64 0))⟩]
    [0, 1, 2, 7, 8, 17])
  (.cond (.t 17)
    (.seq (.region [⟨some 18, none, .mov (.t 8)⟩,
      ⟨some 6, none, .mov (.t 18)⟩]
      [6])
    .ret)
    .skip))
  (.seq (.region [⟨some 20, none, .mov (.t 0)⟩,
    ⟨some 21, none, .mov (.t 2)⟩,
    ⟨some 22, none, .call F.roster_Roster_group [.t 20, .t 21]⟩,
    ⟨some 19, none, .mov (.t 22)⟩,
    ⟨some 23, none, .ext 0 (.t 19)⟩,
    ⟨some 24, none, .ext 1 (.t 19)⟩,
    ⟨some 9, none, .alloc [(.int .i64 0), (.int .i64 0), (.int .i64 0)]⟩,
    ⟨none, none, .store 3 (.t 9) (.t 23)⟩,
    ⟨some 8, none, .mov (.t 24)⟩]
    [0, 1, 2, 7, 8, 9])
  (.seq (.block 0
    (.seq (.region [⟨some 26, none, .mov (.t 8)⟩,
      ⟨some 27, none, .bin .neq (.t 26) (.c (.int .i64 0))⟩,
      ⟨some 25, none, .mov (.t 27)⟩]
      [0, 1, 2, 7, 8, 9, 25])
    (.cond (.t 25)
      (.seq (.region [⟨some 28, none, .mov (.t 8)⟩,
        ⟨some 6, none, .mov (.t 28)⟩]
        [6])
      .ret)
      (.seq (.region [⟨some 30, none, .fieldAddr 1 (.t 7)⟩,
        ⟨some 31, none, .load false 1 (.t 30)⟩,
        ⟨some 32, none, .mov (.t 2)⟩,
        ⟨some 33, none, .bin .eql (.t 31) (.t 32)⟩,
        ⟨some 29, none, .mov (.t 33)⟩]
        [0, 1, 2, 7, 9, 29])
      (.cond (.t 29)
        (.seq (.region [⟨some 6, none, .mov (.c (.int .i64 15))⟩]
          [6])
        .ret)
        (.seq (.region [⟨some 35, none, .fieldAddr 2 (.t 9)⟩,
          ⟨some 36, none, .load false 1 (.t 35)⟩,
          ⟨some 37, none, .bin .geq (.t 36) (.c (.int .i64 32))⟩,
          ⟨some 34, none, .mov (.t 37)⟩]
          [0, 1, 2, 7, 34])
        (.cond (.t 34)
          (.seq (.region [⟨some 6, none, .mov (.c (.int .i64 13))⟩]
            [6])
          .ret)
          .skip)))))) [0, 1, 2, 7])
  (.seq (.region [⟨some 38, none, .mov (.t 0)⟩,
    ⟨some 39, none, .fieldAddr 1 (.t 7)⟩,
    ⟨some 40, none, .load false 1 (.t 39)⟩,
    ⟨some 41, none, .call F.roster_Roster_count [.t 38, .t 40, .c (.int .i64 (-1))]⟩]
    [0, 1, 2, 7])
  (.seq (.region [⟨some 42, none, .mov (.t 0)⟩,
    ⟨some 43, none, .mov (.t 2)⟩,
    ⟨some 44, none, .call F.roster_Roster_count [.t 42, .t 43, .c (.int .i64 1)]⟩]
    [0, 1, 2, 7])
  (.seq (.region [⟨some 45, none, .mov (.t 2)⟩,
    ⟨some 46, none, .fieldAddr 1 (.t 7)⟩,
    ⟨none, none, .store 1 (.t 46) (.t 45)⟩]
    [0, 1, 7])
  (.seq (.drawn [⟨some 47, none, .mov (.t 0)⟩,
    ⟨some 48, none, .nilchk (.t 47)⟩,
    ⟨some 49, none, .fieldAddr 1 (.t 48)⟩,
    ⟨some 50, none, .load false 1 (.t 49)⟩,
    ⟨some 51, none, .mov (.t 1)⟩,
    ⟨some 52, none, .load true 6 (.t 7)⟩,
    ⟨none, none, .upd .int (.t 50) (.t 51) (.t 52)⟩]
    [[], [0], [1], [2], [], [], [3, 4, 5, 0, 1, 2, 3, 4, 5]]
    [(0, []), (1, []), (2, []), (4, []), (3, []), (5, []), (6, [])]
    [[], [0], [0, 1], [0, 1, 2], [], [], [0, 1, 2, 3, 4, 5]]
    [])
  (.seq (.region [⟨some 6, none, .mov (.c (.int .i64 0))⟩]
    [6])
  .ret))))))))))⟩

def RC.cores_Set_change : RFn := ⟨4, [.slot 8],
  (.seq (.region [⟨some 8, none, .mov (.c (.int .i64 0))⟩]
    [0, 1, 2, 3])
  (.seq (.seq (.region [⟨some 11, none, .mov (.t 0)⟩,
    ⟨some 12, none, .call F.cores_Set_Len [.t 11]⟩,
    ⟨some 13, none, .bin .eql (.t 12) (.c (.int .i64 0))⟩]
    [0, 1, 2, 3, 13])
  (.cond (.t 13)
    (.seq (.region [⟨some 8, none, .mov (.c (.int .i64 2))⟩]
      [8])
    .ret)
    .skip))
  (.seq (.seq (.region [⟨some 15, none, .mov (.t 0)⟩,
    ⟨some 16, none, .mov (.t 1)⟩,
    ⟨some 17, none, .call F.cores_Set_State [.t 15, .t 16]⟩,
    ⟨some 14, none, .mov (.t 17)⟩,
    ⟨some 18, none, .ext 0 (.t 14)⟩,
    ⟨some 19, none, .ext 1 (.t 14)⟩,
    ⟨some 9, none, .mov (.t 18)⟩,
    ⟨some 10, none, .mov (.t 19)⟩]
    [0, 1, 2, 3, 9, 10])
  (.block 0
    (.seq (.region [⟨some 21, none, .mov (.t 10)⟩,
      ⟨some 22, none, .un .not (.t 21)⟩,
      ⟨some 20, none, .mov (.t 22)⟩]
      [0, 1, 2, 3, 9, 20])
    (.cond (.t 20)
      (.seq (.region [⟨some 8, none, .mov (.c (.int .i64 24))⟩]
        [8])
      .ret)
      (.seq (.region [⟨some 24, none, .mov (.t 9)⟩,
        ⟨some 25, none, .mov (.t 2)⟩,
        ⟨some 26, none, .bin .neq (.t 24) (.t 25)⟩,
        ⟨some 23, none, .mov (.t 26)⟩]
        [0, 1, 3, 23])
      (.cond (.t 23)
        (.seq (.region [⟨some 8, none, .mov (.c (.int .i64 15))⟩]
          [8])
        .ret)
        (.seq (.region [⟨some 28, none, .mov (.t 3)⟩,
          ⟨some 29, none, .bin .eql (.t 28) (.c (.int .i64 2))⟩,
          ⟨some 30, none, .mov (.t 29)⟩,
          ⟨some 31, some (30, true), .mov (.t 0)⟩,
          ⟨some 32, some (30, true), .bslice [(.int .i64 0)] [(0, 1, .c (.int .i64 1))] 1 1⟩,
          ⟨some 33, some (30, true), .call F.cores_Set_Count [.t 31, .t 32]⟩,
          ⟨some 34, some (30, true), .bin .eql (.t 33) (.c (.int .i64 1))⟩,
          ⟨some 35, none, .pick (.t 30) (.t 34) (.c (.bool false))⟩,
          ⟨some 27, none, .mov (.t 35)⟩]
          [0, 1, 3, 27])
        (.cond (.t 27)
          (.seq (.region [⟨some 8, none, .mov (.c (.int .i64 17))⟩]
            [8])
          .ret)
          .skip)))))) [0, 1, 3]))
  (.seq (.region [⟨some 36, none, .mov (.t 0)⟩,
    ⟨some 37, none, .nilchk (.t 36)⟩,
    ⟨some 38, none, .fieldAddr 0 (.t 37)⟩,
    ⟨some 39, none, .load false 1 (.t 38)⟩,
    ⟨some 40, none, .mov (.t 1)⟩,
    ⟨some 41, none, .mov (.t 3)⟩,
    ⟨some 42, none, .idxS 1 (.t 39) (.t 40)⟩,
    ⟨none, none, .store 1 (.t 42) (.t 41)⟩]
    [])
  (.seq (.region [⟨some 8, none, .mov (.c (.int .i64 0))⟩]
    [8])
  .ret)))))⟩

def RC.maps_Keys_map_int_roster_Task_int_roster_Task : RFn := ⟨1, [.slot 2],
  (.seq (.region [⟨some 1, none, .box (.t 0)⟩,
    ⟨some 2, none, .mov (.c .nilFunc)⟩]
    [1])
  (.seq (.region [⟨some 3, none, .mkfn (.func F.maps_Keys_map_int_roster_Task_int_roster_Task_1) [] [.t 1]⟩,
    ⟨some 2, none, .mov (.t 3)⟩]
    [2])
  .ret))⟩

def RC.maps_Keys_map_int_roster_Group_int_roster_Group : RFn := ⟨1, [.slot 2],
  (.seq (.region [⟨some 1, none, .box (.t 0)⟩,
    ⟨some 2, none, .mov (.c .nilFunc)⟩]
    [1])
  (.seq (.region [⟨some 3, none, .mkfn (.func F.maps_Keys_map_int_roster_Group_int_roster_Group_1) [] [.t 1]⟩,
    ⟨some 2, none, .mov (.t 3)⟩]
    [2])
  .ret))⟩

def RC.math_bits_Mul32 : RFn := ⟨2, [.slot 4, .slot 5],
  (.seq (.region [⟨some 4, none, .mov (.c (u32 0#32))⟩,
    ⟨some 5, none, .mov (.c (u32 0#32))⟩]
    [0, 1])
  (.seq (.region [⟨some 7, none, .mov (.t 0)⟩,
    ⟨some 8, none, .conv .u64 (.t 7)⟩,
    ⟨some 9, none, .mov (.t 1)⟩,
    ⟨some 10, none, .conv .u64 (.t 9)⟩,
    ⟨some 11, none, .bin .mul (.t 8) (.t 10)⟩,
    ⟨some 6, none, .mov (.t 11)⟩]
    [6])
  (.seq (.region [⟨some 12, none, .mov (.t 6)⟩,
    ⟨some 13, none, .bin .shr (.t 12) (.c (u64 32#64))⟩,
    ⟨some 14, none, .conv .u32 (.t 13)⟩,
    ⟨some 15, none, .mov (.t 6)⟩,
    ⟨some 16, none, .conv .u32 (.t 15)⟩,
    ⟨some 4, none, .mov (.t 14)⟩,
    ⟨some 5, none, .mov (.t 16)⟩]
    [4, 5])
  .ret)))⟩

def RC.math_bits_Mul64 : RFn := ⟨2, [.slot 4, .slot 5],
  (.seq (.region [⟨some 4, none, .mov (.c (u64 0#64))⟩,
    ⟨some 5, none, .mov (.c (u64 0#64))⟩]
    [0, 1])
  (.seq (.region [⟨some 14, none, .mov (.t 0)⟩,
    ⟨some 15, none, .bin .and (.t 14) (.c (u64 4294967295#64))⟩,
    ⟨some 6, none, .mov (.t 15)⟩]
    [0, 1, 6])
  (.seq (.region [⟨some 16, none, .mov (.t 0)⟩,
    ⟨some 17, none, .bin .shr (.t 16) (.c (u64 32#64))⟩,
    ⟨some 7, none, .mov (.t 17)⟩]
    [0, 1, 6, 7])
  (.seq (.region [⟨some 18, none, .mov (.t 1)⟩,
    ⟨some 19, none, .bin .and (.t 18) (.c (u64 4294967295#64))⟩,
    ⟨some 8, none, .mov (.t 19)⟩]
    [0, 1, 6, 7, 8])
  (.seq (.region [⟨some 20, none, .mov (.t 1)⟩,
    ⟨some 21, none, .bin .shr (.t 20) (.c (u64 32#64))⟩,
    ⟨some 9, none, .mov (.t 21)⟩]
    [0, 1, 6, 7, 8, 9])
  (.seq (.region [⟨some 22, none, .mov (.t 6)⟩,
    ⟨some 23, none, .mov (.t 8)⟩,
    ⟨some 24, none, .bin .mul (.t 22) (.t 23)⟩,
    ⟨some 10, none, .mov (.t 24)⟩]
    [0, 1, 6, 7, 8, 9, 10])
  (.seq (.region [⟨some 25, none, .mov (.t 7)⟩,
    ⟨some 26, none, .mov (.t 8)⟩,
    ⟨some 27, none, .bin .mul (.t 25) (.t 26)⟩,
    ⟨some 28, none, .mov (.t 10)⟩,
    ⟨some 29, none, .bin .shr (.t 28) (.c (u64 32#64))⟩,
    ⟨some 30, none, .bin .add (.t 27) (.t 29)⟩,
    ⟨some 11, none, .mov (.t 30)⟩]
    [0, 1, 6, 7, 9, 11])
  (.seq (.region [⟨some 31, none, .mov (.t 11)⟩,
    ⟨some 32, none, .bin .and (.t 31) (.c (u64 4294967295#64))⟩,
    ⟨some 12, none, .mov (.t 32)⟩]
    [0, 1, 6, 7, 9, 11, 12])
  (.seq (.region [⟨some 33, none, .mov (.t 11)⟩,
    ⟨some 34, none, .bin .shr (.t 33) (.c (u64 32#64))⟩,
    ⟨some 13, none, .mov (.t 34)⟩]
    [0, 1, 6, 7, 9, 12, 13])
  (.seq (.region [⟨some 35, none, .mov (.t 12)⟩,
    ⟨some 36, none, .mov (.t 6)⟩,
    ⟨some 37, none, .mov (.t 9)⟩,
    ⟨some 38, none, .bin .mul (.t 36) (.t 37)⟩,
    ⟨some 39, none, .bin .add (.t 35) (.t 38)⟩,
    ⟨some 12, none, .mov (.t 39)⟩]
    [0, 1, 7, 9, 12, 13])
  (.seq (.region [⟨some 40, none, .mov (.t 7)⟩,
    ⟨some 41, none, .mov (.t 9)⟩,
    ⟨some 42, none, .bin .mul (.t 40) (.t 41)⟩,
    ⟨some 43, none, .mov (.t 13)⟩,
    ⟨some 44, none, .bin .add (.t 42) (.t 43)⟩,
    ⟨some 45, none, .mov (.t 12)⟩,
    ⟨some 46, none, .bin .shr (.t 45) (.c (u64 32#64))⟩,
    ⟨some 47, none, .bin .add (.t 44) (.t 46)⟩,
    ⟨some 4, none, .mov (.t 47)⟩]
    [0, 1, 4])
  (.seq (.region [⟨some 48, none, .mov (.t 0)⟩,
    ⟨some 49, none, .mov (.t 1)⟩,
    ⟨some 50, none, .bin .mul (.t 48) (.t 49)⟩,
    ⟨some 5, none, .mov (.t 50)⟩]
    [4, 5])
  .ret))))))))))))⟩

def RC.slices_Contains_int_int : RFn := ⟨2, [.slot 4],
  (.seq (.region [⟨some 4, none, .mov (.c (.bool false))⟩]
    [0, 1])
  (.seq (.region [⟨some 5, none, .mov (.t 0)⟩,
    ⟨some 6, none, .mov (.t 1)⟩,
    ⟨some 7, none, .call F.slices_Index_int_int [.t 5, .t 6]⟩,
    ⟨some 8, none, .bin .geq (.t 7) (.c (.int .i64 0))⟩,
    ⟨some 4, none, .mov (.t 8)⟩]
    [4])
  .ret))⟩

def RC.fixq_Add : RFn := ⟨2, [.slot 4, .slot 5],
  (.seq (.region [⟨some 4, none, .mov (.c (.int .i64 0))⟩,
    ⟨some 5, none, .mov (.c (.int .i64 0))⟩]
    [0, 1])
  (.seq (.region [⟨some 7, none, .mov (.t 0)⟩,
    ⟨some 8, none, .mov (.t 1)⟩,
    ⟨some 9, none, .bin .add (.t 7) (.t 8)⟩,
    ⟨some 6, none, .mov (.t 9)⟩]
    [0, 1, 6])
  (.seq (.seq (.region [⟨some 10, none, .mov (.t 0)⟩,
    ⟨some 11, none, .bin .geq (.t 10) (.c (.int .i64 0))⟩,
    ⟨some 12, none, .mov (.t 1)⟩,
    ⟨some 13, none, .bin .geq (.t 12) (.c (.int .i64 0))⟩,
    ⟨some 14, none, .eq false .bool (.t 11) (.t 13)⟩,
    ⟨some 15, none, .mov (.t 14)⟩,
    ⟨some 16, some (15, true), .mov (.t 6)⟩,
    ⟨some 17, some (15, true), .bin .geq (.t 16) (.c (.int .i64 0))⟩,
    ⟨some 18, some (15, true), .mov (.t 0)⟩,
    ⟨some 19, some (15, true), .bin .geq (.t 18) (.c (.int .i64 0))⟩,
    ⟨some 20, some (15, true), .eq true .bool (.t 17) (.t 19)⟩,
    ⟨some 21, none, .pick (.t 15) (.t 20) (.c (.bool false))⟩]
    [6, 21])
  (.cond (.t 21)
    (.seq (.region [⟨some 4, none, .mov (.c (.int .i64 0))⟩,
      ⟨some 5, none, .mov (.c (.int .i64 5))⟩]
      [4, 5])
    .ret)
    .skip))
  (.seq (.region [⟨some 22, none, .mov (.t 6)⟩,
    ⟨some 4, none, .mov (.t 22)⟩,
    ⟨some 5, none, .mov (.c (.int .i64 0))⟩]
    [4, 5])
  .ret))))⟩

def RC.roster_Roster_fresh : RFn := ⟨2, [.slot 4],
  (.seq (.region [⟨some 4, none, .mov (.c (.int .i64 0))⟩]
    [0, 1])
  (.seq (.seq (.region [⟨some 9, none, .mov (.t 0)⟩,
    ⟨some 10, none, .call F.roster_Roster_none [.t 9]⟩]
    [0, 1, 10])
  (.cond (.t 10)
    (.seq (.region [⟨some 4, none, .mov (.c (.int .i64 2))⟩]
      [4])
    .ret)
    .skip))
  (.seq (.seq (.region [⟨some 12, none, .mov (.t 1)⟩,
    ⟨some 13, none, .call F.order_Unit [.t 12, .c (.bool false)]⟩,
    ⟨some 11, none, .mov (.t 13)⟩,
    ⟨some 14, none, .ext 0 (.t 11)⟩,
    ⟨some 15, none, .ext 1 (.t 11)⟩,
    ⟨some 5, none, .mov (.t 14)⟩,
    ⟨some 6, none, .mov (.t 15)⟩]
    [0, 1, 6])
  (.seq (.region [⟨some 16, none, .mov (.t 6)⟩,
    ⟨some 17, none, .bin .neq (.t 16) (.c (.int .i64 0))⟩]
    [0, 1, 6, 17])
  (.cond (.t 17)
    (.seq (.region [⟨some 18, none, .mov (.t 6)⟩,
      ⟨some 4, none, .mov (.t 18)⟩]
      [4])
    .ret)
    .skip)))
  (.seq (.seq (.region [⟨some 20, none, .mov (.t 0)⟩,
    ⟨some 21, none, .nilchk (.t 20)⟩,
    ⟨some 22, none, .fieldAddr 1 (.t 21)⟩,
    ⟨some 23, none, .load false 1 (.t 22)⟩,
    ⟨some 24, none, .mov (.t 1)⟩,
    ⟨some 25, none, .look .int (.agg #[(.int .i64 0), (.int .i64 0), (.int .i64 0), (.int .i64 0), (.int .i64 0), (.bool false)]) true (.t 23) (.t 24)⟩,
    ⟨some 19, none, .mov (.t 25)⟩,
    ⟨some 26, none, .ext 0 (.t 19)⟩,
    ⟨some 27, none, .ext 1 (.t 19)⟩,
    ⟨some 7, none, .alloc [(.int .i64 0), (.int .i64 0), (.int .i64 0), (.int .i64 0), (.int .i64 0), (.bool false)]⟩,
    ⟨none, none, .store 6 (.t 7) (.t 26)⟩,
    ⟨some 8, none, .mov (.t 27)⟩]
    [8])
  (.seq (.region [⟨some 28, none, .mov (.t 8)⟩]
    [28])
  (.cond (.t 28)
    (.seq (.region [⟨some 4, none, .mov (.c (.int .i64 11))⟩]
      [4])
    .ret)
    .skip)))
  (.seq (.region [⟨some 4, none, .mov (.c (.int .i64 0))⟩]
    [4])
  .ret)))))⟩

def RC.roster_Roster_share : RFn := ⟨2, [.slot 4],
  (.seq (.region [⟨some 4, none, .mov (.c (.bool false))⟩]
    [0, 1])
  (.seq (.region [⟨some 5, none, .mov (.t 1)⟩,
    ⟨some 6, none, .bin .geq (.t 5) (.c (.int .i64 1))⟩,
    ⟨some 7, none, .mov (.t 6)⟩,
    ⟨some 8, some (7, true), .mov (.t 1)⟩,
    ⟨some 9, some (7, true), .mov (.t 0)⟩,
    ⟨some 10, some (7, true), .nilchk (.t 9)⟩,
    ⟨some 11, some (7, true), .fieldAddr 0 (.t 10)⟩,
    ⟨some 12, some (7, true), .load false 1 (.t 11)⟩,
    ⟨some 13, some (7, true), .bin .leq (.t 8) (.t 12)⟩,
    ⟨some 14, none, .pick (.t 7) (.t 13) (.c (.bool false))⟩,
    ⟨some 4, none, .mov (.t 14)⟩]
    [4])
  .ret))⟩

def RC.roster_Roster_member : RFn := ⟨3, [.cell 6 true 6, .slot 7],
  (.seq (.region [⟨some 6, none, .alloc [(.int .i64 0), (.int .i64 0), (.int .i64 0), (.int .i64 0), (.int .i64 0), (.bool false)]⟩,
    ⟨some 7, none, .mov (.c (.int .i64 0))⟩]
    [0, 1, 2, 6])
  (.seq (.region [⟨some 11, none, .mov (.t 0)⟩,
    ⟨some 12, none, .mov (.t 1)⟩,
    ⟨some 13, none, .call F.roster_Roster_one [.t 11, .t 12]⟩,
    ⟨some 10, none, .mov (.t 13)⟩,
    ⟨some 14, none, .ext 0 (.t 10)⟩,
    ⟨some 15, none, .ext 1 (.t 10)⟩,
    ⟨some 8, none, .alloc [(.int .i64 0), (.int .i64 0), (.int .i64 0), (.int .i64 0), (.int .i64 0), (.bool false)]⟩,
    ⟨none, none, .store 6 (.t 8) (.t 14)⟩,
    ⟨some 9, none, .mov (.t 15)⟩]
    [2, 6, 8, 9])
  (.seq (.seq (.region [⟨some 16, none, .mov (.t 9)⟩,
    ⟨some 17, none, .bin .eql (.t 16) (.c (.int .i64 0))⟩,
    ⟨some 18, none, .mov (.t 17)⟩,
    ⟨some 19, some (18, true), .fieldAddr 1 (.t 8)⟩,
    ⟨some 20, some (18, true), .load false 1 (.t 19)⟩,
    ⟨some 21, some (18, true), .bin .neq (.t 20) (.c (.int .i64 0))⟩,
    ⟨some 22, some (18, true), .mov (.t 2)⟩,
    ⟨some 23, some (18, true), .eq true .bool (.t 21) (.t 22)⟩,
    ⟨some 24, none, .pick (.t 18) (.t 23) (.c (.bool false))⟩]
    [6, 8, 9, 24])
  (.cond (.t 24)
    (.seq (.region [⟨some 25, none, .build [(.int .i64 0), (.int .i64 0), (.int .i64 0), (.int .i64 0), (.int .i64 0), (.bool false)] []⟩,
      ⟨none, none, .store 6 (.t 6) (.t 25)⟩,
      ⟨some 7, none, .mov (.c (.int .i64 14))⟩]
      [6, 7])
    .ret)
    .skip))
  (.seq (.region [⟨some 26, none, .load true 6 (.t 8)⟩,
    ⟨some 27, none, .mov (.t 9)⟩,
    ⟨none, none, .store 6 (.t 6) (.t 26)⟩,
    ⟨some 7, none, .mov (.t 27)⟩]
    [6, 7])
  .ret))))⟩

def RC.roster_Roster_off : RFn := ⟨3, [.slot 6],
  (.seq (.region [⟨some 6, none, .mov (.c (.int .i64 0))⟩]
    [0, 1, 2])
  (.seq (.region [⟨some 10, none, .mov (.t 0)⟩,
    ⟨some 11, none, .mov (.t 1)⟩,
    ⟨some 12, none, .call F.roster_Roster_one [.t 10, .t 11]⟩,
    ⟨some 9, none, .mov (.t 12)⟩,
    ⟨some 13, none, .ext 0 (.t 9)⟩,
    ⟨some 14, none, .ext 1 (.t 9)⟩,
    ⟨some 7, none, .alloc [(.int .i64 0), (.int .i64 0), (.int .i64 0), (.int .i64 0), (.int .i64 0), (.bool false)]⟩,
    ⟨none, none, .store 6 (.t 7) (.t 13)⟩,
    ⟨some 8, none, .mov (.t 14)⟩]
    [0, 1, 2, 7, 8])
  (.seq (.block 0
    (.seq (.region [⟨some 16, none, .mov (.t 8)⟩,
      ⟨some 17, none, .bin .neq (.t 16) (.c (.int .i64 0))⟩,
      ⟨some 15, none, .mov (.t 17)⟩]
      [0, 1, 2, 7, 8, 15])
    (.cond (.t 15)
      (.seq (.region [⟨some 18, none, .mov (.t 8)⟩,
        ⟨some 6, none, .mov (.t 18)⟩]
        [6])
      .ret)
      (.seq (.region [⟨some 20, none, .fieldAddr 5 (.t 7)⟩,
        ⟨some 21, none, .load false 1 (.t 20)⟩,
        ⟨some 22, none, .mov (.t 2)⟩,
        ⟨some 23, none, .eq false .bool (.t 21) (.t 22)⟩,
        ⟨some 19, none, .mov (.t 23)⟩]
        [0, 1, 2, 7, 19])
      (.cond (.t 19)
        (.seq (.region [⟨some 6, none, .mov (.c (.int .i64 15))⟩]
          [6])
        .ret)
        .skip)))) [0, 1, 2, 7])
  (.seq (.region [⟨some 24, none, .mov (.t 2)⟩,
    ⟨some 25, none, .fieldAddr 5 (.t 7)⟩,
    ⟨none, none, .store 1 (.t 25) (.t 24)⟩]
    [0, 1, 7])
  (.seq (.drawn [⟨some 26, none, .mov (.t 0)⟩,
    ⟨some 27, none, .nilchk (.t 26)⟩,
    ⟨some 28, none, .fieldAddr 1 (.t 27)⟩,
    ⟨some 29, none, .load false 1 (.t 28)⟩,
    ⟨some 30, none, .mov (.t 1)⟩,
    ⟨some 31, none, .load true 6 (.t 7)⟩,
    ⟨none, none, .upd .int (.t 29) (.t 30) (.t 31)⟩]
    [[], [0], [1], [2], [], [], [3, 4, 5, 0, 1, 2, 3, 4, 5]]
    [(0, []), (1, []), (2, []), (4, []), (3, []), (5, []), (6, [])]
    [[], [0], [0, 1], [0, 1, 2], [], [], [0, 1, 2, 3, 4, 5]]
    [])
  (.seq (.region [⟨some 6, none, .mov (.c (.int .i64 0))⟩]
    [6])
  .ret))))))⟩

def RC.order_Unit : RFn := ⟨2, [.slot 4, .slot 5],
  (.seq (.region [⟨some 4, none, .mov (.c (.int .i64 0))⟩,
    ⟨some 5, none, .mov (.c (.int .i64 0))⟩]
    [0, 1])
  (.seq (.block 0
    (.seq (.region [⟨some 7, none, .mov (.t 0)⟩,
      ⟨some 8, none, .bin .lss (.t 7) (.c (.int .i64 1))⟩,
      ⟨some 9, none, .mov (.t 8)⟩,
      ⟨some 10, some (9, false), .mov (.t 1)⟩,
      ⟨some 11, some (9, false), .un .not (.t 10)⟩,
      ⟨some 12, some (9, false), .mov (.t 11)⟩,
      ⟨some 13, some (12, true), .mov (.t 0)⟩,
      ⟨some 14, some (12, true), .bin .gtr (.t 13) (.c (.int .i64 200))⟩,
      ⟨some 15, some (9, false), .pick (.t 12) (.t 14) (.c (.bool false))⟩,
      ⟨some 16, none, .pick (.t 9) (.c (.bool true)) (.t 15)⟩,
      ⟨some 17, none, .mov (.t 16)⟩,
      ⟨some 18, some (17, false), .mov (.t 1)⟩,
      ⟨some 19, some (17, false), .mov (.t 18)⟩,
      ⟨some 20, some (19, true), .mov (.t 0)⟩,
      ⟨some 21, some (19, true), .bin .gtr (.t 20) (.c (.int .i64 40))⟩,
      ⟨some 22, some (17, false), .pick (.t 19) (.t 21) (.c (.bool false))⟩,
      ⟨some 23, none, .pick (.t 17) (.c (.bool true)) (.t 22)⟩,
      ⟨some 6, none, .mov (.t 23)⟩]
      [0, 1, 6])
    (.cond (.t 6)
      (.seq (.region [⟨some 4, none, .mov (.c (.int .i64 0))⟩,
        ⟨some 5, none, .mov (.c (.int .i64 20))⟩]
        [4, 5])
      .ret)
      (.seq (.region [⟨some 25, none, .mov (.t 1)⟩,
        ⟨some 24, none, .mov (.t 25)⟩]
        [0, 24])
      (.cond (.t 24)
        (.seq (.region [⟨some 26, none, .mov (.t 0)⟩,
          ⟨some 27, none, .bin .add (.c (.int .i64 1000)) (.t 26)⟩,
          ⟨some 4, none, .mov (.t 27)⟩,
          ⟨some 5, none, .mov (.c (.int .i64 0))⟩]
          [4, 5])
        .ret)
        .skip)))) [0])
  (.seq (.region [⟨some 28, none, .mov (.t 0)⟩,
    ⟨some 4, none, .mov (.t 28)⟩,
    ⟨some 5, none, .mov (.c (.int .i64 0))⟩]
    [4, 5])
  .ret)))⟩

def RC.roster_Roster_group : RFn := ⟨2, [.cell 4 true 3, .slot 5],
  (.seq (.region [⟨some 4, none, .alloc [(.int .i64 0), (.int .i64 0), (.int .i64 0)]⟩,
    ⟨some 5, none, .mov (.c (.int .i64 0))⟩]
    [0, 1, 4])
  (.seq (.seq (.region [⟨some 8, none, .mov (.t 0)⟩,
    ⟨some 9, none, .call F.roster_Roster_none [.t 8]⟩]
    [0, 1, 4, 9])
  (.cond (.t 9)
    (.seq (.region [⟨some 10, none, .build [(.int .i64 0), (.int .i64 0), (.int .i64 0)] []⟩,
      ⟨none, none, .store 3 (.t 4) (.t 10)⟩,
      ⟨some 5, none, .mov (.c (.int .i64 2))⟩]
      [4, 5])
    .ret)
    .skip))
  (.seq (.region [⟨some 12, none, .mov (.t 0)⟩,
    ⟨some 13, none, .nilchk (.t 12)⟩,
    ⟨some 14, none, .fieldAddr 2 (.t 13)⟩,
    ⟨some 15, none, .load false 1 (.t 14)⟩,
    ⟨some 16, none, .mov (.t 1)⟩,
    ⟨some 17, none, .look .int (.agg #[(.int .i64 0), (.int .i64 0), (.int .i64 0)]) true (.t 15) (.t 16)⟩,
    ⟨some 11, none, .mov (.t 17)⟩,
    ⟨some 18, none, .ext 0 (.t 11)⟩,
    ⟨some 19, none, .ext 1 (.t 11)⟩,
    ⟨some 6, none, .alloc [(.int .i64 0), (.int .i64 0), (.int .i64 0)]⟩,
    ⟨none, none, .store 3 (.t 6) (.t 18)⟩,
    ⟨some 7, none, .mov (.t 19)⟩]
    [4, 6, 7])
  (.seq (.seq (.region [⟨some 20, none, .mov (.t 7)⟩,
    ⟨some 21, none, .un .not (.t 20)⟩]
    [4, 6, 21])
  (.cond (.t 21)
    (.seq (.region [⟨some 22, none, .build [(.int .i64 0), (.int .i64 0), (.int .i64 0)] []⟩,
      ⟨none, none, .store 3 (.t 4) (.t 22)⟩,
      ⟨some 5, none, .mov (.c (.int .i64 25))⟩]
      [4, 5])
    .ret)
    .skip))
  (.seq (.region [⟨some 23, none, .load true 3 (.t 6)⟩,
    ⟨none, none, .store 3 (.t 4) (.t 23)⟩,
    ⟨some 5, none, .mov (.c (.int .i64 0))⟩]
    [4, 5])
  .ret)))))⟩

def RC.roster_weight : RFn := ⟨1, [.slot 2],
  (.seq (.region [⟨some 2, none, .mov (.c (.bool false))⟩]
    [0])
  (.seq (.region [⟨some 3, none, .mov (.t 0)⟩,
    ⟨some 4, none, .bin .geq (.t 3) (.c (.int .i64 1))⟩,
    ⟨some 5, none, .mov (.t 4)⟩,
    ⟨some 6, some (5, true), .mov (.t 0)⟩,
    ⟨some 7, some (5, true), .bin .leq (.t 6) (.c (.int .i64 1000))⟩,
    ⟨some 8, none, .pick (.t 5) (.t 7) (.c (.bool false))⟩,
    ⟨some 2, none, .mov (.t 8)⟩]
    [2])
  .ret))⟩

def RB.maps_Keys_map_int_roster_Task_int_roster_Task_1_1 : RCode :=
  (.seq (.region [⟨some 6, none, .stop⟩,
    ⟨some 7, none, .ext 0 (.t 6)⟩]
    [0, 7])
  (.seq (.cond (.t 7)
    .skip
    (.exit 0))
  (.block 1
    (.seq (.region [⟨some 8, none, .stop⟩,
      ⟨some 9, none, .ext 0 (.t 8)⟩,
      ⟨some 3, none, .mov (.t 9)⟩]
      [0, 3])
    (.seq (.region [⟨some 10, none, .mov (.t 0)⟩,
      ⟨some 11, none, .mov (.t 3)⟩,
      ⟨some 12, none, .callv (.t 10) [.t 11]⟩,
      ⟨some 13, none, .un .not (.t 12)⟩]
      [0, 13])
    (.cond (.t 13)
      .ret
      .skip))) [0])))
def RC.maps_Keys_map_int_roster_Task_int_roster_Task_1 : RFn := ⟨2, [],
  (.seq (.region [⟨some 4, none, .load false 1 (.t 1)⟩,
    ⟨some 5, none, .stop⟩]
    [0])
  (.block 0
    (.loop [0] RB.maps_Keys_map_int_roster_Task_int_roster_Task_1_1) []))⟩

def RB.maps_Keys_map_int_roster_Group_int_roster_Group_1_1 : RCode :=
  (.seq (.region [⟨some 6, none, .stop⟩,
    ⟨some 7, none, .ext 0 (.t 6)⟩]
    [0, 7])
  (.seq (.cond (.t 7)
    .skip
    (.exit 0))
  (.block 1
    (.seq (.region [⟨some 8, none, .stop⟩,
      ⟨some 9, none, .ext 0 (.t 8)⟩,
      ⟨some 3, none, .mov (.t 9)⟩]
      [0, 3])
    (.seq (.region [⟨some 10, none, .mov (.t 0)⟩,
      ⟨some 11, none, .mov (.t 3)⟩,
      ⟨some 12, none, .callv (.t 10) [.t 11]⟩,
      ⟨some 13, none, .un .not (.t 12)⟩]
      [0, 13])
    (.cond (.t 13)
      .ret
      .skip))) [0])))
def RC.maps_Keys_map_int_roster_Group_int_roster_Group_1 : RFn := ⟨2, [],
  (.seq (.region [⟨some 4, none, .load false 1 (.t 1)⟩,
    ⟨some 5, none, .stop⟩]
    [0])
  (.block 0
    (.loop [0] RB.maps_Keys_map_int_roster_Group_int_roster_Group_1_1) []))⟩

def RB.slices_Index_int_int_1 : RCode :=
  (.seq (.region [⟨some 9, none, .bin .lss (.t 8) (.t 7)⟩]
    [0, 1, 7, 8, 9])
  (.seq (.cond (.t 9)
    .skip
    (.exit 0))
  (.seq (.block 1
    (.seq (.region [⟨some 10, none, .mov (.t 8)⟩,
      ⟨some 5, none, .mov (.t 10)⟩]
      [0, 1, 5, 7, 8])
    (.seq (.region [⟨some 11, none, .mov (.t 1)⟩,
      ⟨some 12, none, .mov (.t 0)⟩,
      ⟨some 13, none, .mov (.t 5)⟩,
      ⟨some 14, none, .idxS 1 (.t 12) (.t 13)⟩,
      ⟨some 15, none, .load false 1 (.t 14)⟩,
      ⟨some 16, none, .bin .eql (.t 11) (.t 15)⟩]
      [0, 1, 5, 7, 8, 16])
    (.cond (.t 16)
      (.seq (.region [⟨some 17, none, .mov (.t 5)⟩,
        ⟨some 4, none, .mov (.t 17)⟩]
        [4])
      .ret)
      .skip))) [0, 1, 7, 8])
  (.region [⟨some 18, none, .bin .add (.t 8) (.c (.int .i64 1))⟩,
    ⟨some 8, none, .mov (.t 18)⟩]
    [0, 1, 7, 8]))))
def RC.slices_Index_int_int : RFn := ⟨2, [.slot 4],
  (.seq (.region [⟨some 4, none, .mov (.c (.int .i64 0))⟩]
    [0, 1])
  (.seq (.seq (.region [⟨some 6, none, .mov (.t 0)⟩,
    ⟨some 7, none, .len (.t 6)⟩,
    ⟨some 8, none, .mov (.c (.int .i64 0))⟩]
    [0, 1, 7, 8])
  (.block 0
    (.loop [0, 1, 7, 8] RB.slices_Index_int_int_1) []))
  (.seq (.region [⟨some 4, none, .mov (.c (.int .i64 (-1)))⟩]
    [4])
  .ret)))⟩

def tab0 : List (Nat × FEnt) := [(F.law29_LedgerPlays, .rc RC.law29_LedgerPlays),
  (F.law29_LedgerFork, .rc RC.law29_LedgerFork),
  (F.ledger_New, .rc RC.ledger_New),
  (F.ledger_Check, .rc RC.ledger_Check),
  (F.ref29_Right, .rc RC.ref29_Right),
  (F.law29_awake, .rc RC.law29_awake),
  (F.ref29_New, .rc RC.ref29_New),
  (F.ref29_Do, .rc RC.ref29_Do),
  (F.ledger_Ledger_Do, .rc RC.ledger_Ledger_Do),
  (F.law29_Alike, .rc RC.law29_Alike),
  (F.ledger_Ledger_Fork, .rc RC.ledger_Ledger_Fork),
  (F.ledger_Ledger_Roster, .rc RC.ledger_Ledger_Roster),
  (F.roster_Roster_Depart, .rc RC.roster_Roster_Depart),
  (F.ledger_Ledger_Cores, .rc RC.ledger_Ledger_Cores),
  (F.cores_Set_Turn, .rc RC.cores_Set_Turn),
  (F.ref27_Turn, .rc RC.ref27_Turn),
  (F.roster_New, .rc RC.roster_New),
  (F.cores_New, .rc RC.cores_New),
  (F.law29_Fit, .rc RC.law29_Fit),
  (F.ledger_Ledger_Free, .rc RC.ledger_Ledger_Free),
  (F.ref27_New, .rc RC.ref27_New),
  (F.ref27_Plug, .rc RC.ref27_Plug),
  (F.ref27_Unplug, .rc RC.ref27_Unplug),
  (F.ref29_tick, .rc RC.ref29_tick),
  (F.ref28_Find, .rc RC.ref28_Find),
  (F.ref28_Do, .rc RC.ref28_Do),
  (F.ref29_Free, .rc RC.ref29_Free),
  (F.ledger_Ledger_none, .rc RC.ledger_Ledger_none),
  (F.ledger_Ledger_tasks, .rc RC.ledger_Ledger_tasks),
  (F.ledger_Ledger_plug, .rc RC.ledger_Ledger_plug),
  (F.ledger_Ledger_ticks, .rc RC.ledger_Ledger_ticks),
  (F.roster_Roster_Task, .rc RC.roster_Roster_Task),
  (F.ledger_Ledger_Clock, .rc RC.ledger_Ledger_Clock),
  (F.law28_Alike, .rc RC.law28_Alike),
  (F.cores_Set_Len, .rc RC.cores_Set_Len),
  (F.cores_Set_State, .rc RC.cores_Set_State),
  (F.roster_Roster_Fork, .rc RC.roster_Roster_Fork),
  (F.cores_Set_Fork, .rc RC.cores_Set_Fork),
  (F.roster_Roster_one, .rc RC.roster_Roster_one),
  (F.roster_Roster_count, .rc RC.roster_Roster_count),
  (F.slices_Repeat_int_int, .rc RC.slices_Repeat_int_int),
  (F.cores_Set_Count, .rc RC.cores_Set_Count),
  (F.roster_Roster_Total, .rc RC.roster_Roster_Total),
  (F.ref27_with, .rc RC.ref27_with),
  (F.ref27_Count, .rc RC.ref27_Count),
  (F.ref28_find, .rc RC.ref28_find),
  (F.ref28_tasks, .rc RC.ref28_tasks),
  (F.ref28_groups, .rc RC.ref28_groups),
  (F.ref28_enter, .rc RC.ref28_enter),
  (F.ref28_members, .rc RC.ref28_members),
  (F.ref28_Total, .rc RC.ref28_Total),
  (F.ledger_list, .rc RC.ledger_list),
  (F.ledger_Ledger_room, .rc RC.ledger_Ledger_room),
  (F.cores_Set_Plug, .rc RC.cores_Set_Plug),
  (F.cores_Set_Unplug, .rc RC.cores_Set_Unplug),
  (F.roster_Roster_Tasks, .rc RC.roster_Roster_Tasks),
  (F.roster_Roster_Groups, .rc RC.roster_Roster_Groups),
  (F.ref08_Same, .rc RC.ref08_Same),
  (F.roster_Roster_Units, .rc RC.roster_Roster_Units),
  (F.ref28_Units, .rc RC.ref28_Units),
  (F.ref28_Group0, .rc RC.ref28_Group0),
  (F.ref28_Members, .rc RC.ref28_Members),
  (F.roster_Roster_none, .rc RC.roster_Roster_none),
  (F.slices_Clone_int_int, .rc RC.slices_Clone_int_int),
  (F.math_bits_Mul, .rc RC.math_bits_Mul),
  (F.math_bits_OnesCount32, .rc RC.math_bits_OnesCount32),
  (F.cores_Set_In, .rc RC.cores_Set_In),
  (F.order_Total, .rc RC.order_Total),
  (F.ref28_share, .rc RC.ref28_share),
  (F.ref28_with, .rc RC.ref28_with),
  (F.ref28_without, .rc RC.ref28_without),
  (F.ref28_groupWith, .rc RC.ref28_groupWith),
  (F.roster_Roster_Arrive, .rc RC.roster_Roster_Arrive),
  (F.roster_Roster_Reweight, .rc RC.roster_Roster_Reweight),
  (F.roster_Roster_Block, .rc RC.roster_Roster_Block),
  (F.roster_Roster_Wake, .rc RC.roster_Roster_Wake),
  (F.roster_Roster_Found, .rc RC.roster_Roster_Found),
  (F.roster_Roster_Fund, .rc RC.roster_Roster_Fund),
  (F.roster_Roster_Disband, .rc RC.roster_Roster_Disband),
  (F.roster_Roster_Enter, .rc RC.roster_Roster_Enter),
  (F.roster_Roster_Weigh, .rc RC.roster_Roster_Weigh),
  (F.roster_Roster_Limit, .rc RC.roster_Roster_Limit),
  (F.roster_Roster_Move, .rc RC.roster_Roster_Move),
  (F.cores_Set_change, .rc RC.cores_Set_change),
  (F.maps_Keys_map_int_roster_Task_int_roster_Task, .rc RC.maps_Keys_map_int_roster_Task_int_roster_Task),
  (F.maps_Keys_map_int_roster_Group_int_roster_Group, .rc RC.maps_Keys_map_int_roster_Group_int_roster_Group),
  (F.math_bits_Mul32, .rc RC.math_bits_Mul32),
  (F.math_bits_Mul64, .rc RC.math_bits_Mul64),
  (F.slices_Contains_int_int, .rc RC.slices_Contains_int_int),
  (F.fixq_Add, .rc RC.fixq_Add),
  (F.roster_Roster_fresh, .rc RC.roster_Roster_fresh),
  (F.roster_Roster_share, .rc RC.roster_Roster_share),
  (F.roster_Roster_member, .rc RC.roster_Roster_member),
  (F.roster_Roster_off, .rc RC.roster_Roster_off),
  (F.order_Unit, .rc RC.order_Unit),
  (F.roster_Roster_group, .rc RC.roster_Roster_group),
  (F.roster_weight, .rc RC.roster_weight),
  (F.maps_Keys_map_int_roster_Task_int_roster_Task_1, .rc RC.maps_Keys_map_int_roster_Task_int_roster_Task_1),
  (F.maps_Keys_map_int_roster_Group_int_roster_Group_1, .rc RC.maps_Keys_map_int_roster_Group_int_roster_Group_1),
  (F.slices_Index_int_int, .rc RC.slices_Index_int_int),
  (F.slices_Sorted_int, .ext X.sk),
  (F.maps_Clone_map_int_roster_Task_int_roster_Task, .ext X.mc66),
  (F.maps_Clone_map_int_roster_Group_int_roster_Group, .ext X.mc67)]
/-- What each number stands for. -/
def R0 : Nat → Option FEnt := lookF tab0
/-- The same, with the examples as known. -/
def tab : List (Nat × FEnt) := (F.law29_awake, .ext X.ok) :: tab0
def R : Nat → Option FEnt := lookF tab
theorem R.law29_awake : R F.law29_awake = some (.ext X.ok) := by with_unfolding_all rfl
theorem R.law29_LedgerPlays : R F.law29_LedgerPlays = some (.rc RC.law29_LedgerPlays) := by with_unfolding_all rfl
theorem R.law29_LedgerFork : R F.law29_LedgerFork = some (.rc RC.law29_LedgerFork) := by with_unfolding_all rfl
theorem R.ledger_New : R F.ledger_New = some (.rc RC.ledger_New) := by with_unfolding_all rfl
theorem R.ledger_Check : R F.ledger_Check = some (.rc RC.ledger_Check) := by with_unfolding_all rfl
theorem R.ref29_Right : R F.ref29_Right = some (.rc RC.ref29_Right) := by with_unfolding_all rfl
theorem R.ref29_New : R F.ref29_New = some (.rc RC.ref29_New) := by with_unfolding_all rfl
theorem R.ref29_Do : R F.ref29_Do = some (.rc RC.ref29_Do) := by with_unfolding_all rfl
theorem R.ledger_Ledger_Do : R F.ledger_Ledger_Do = some (.rc RC.ledger_Ledger_Do) := by with_unfolding_all rfl
theorem R.law29_Alike : R F.law29_Alike = some (.rc RC.law29_Alike) := by with_unfolding_all rfl
theorem R.ledger_Ledger_Fork : R F.ledger_Ledger_Fork = some (.rc RC.ledger_Ledger_Fork) := by with_unfolding_all rfl
theorem R.ledger_Ledger_Roster : R F.ledger_Ledger_Roster = some (.rc RC.ledger_Ledger_Roster) := by with_unfolding_all rfl
theorem R.roster_Roster_Depart : R F.roster_Roster_Depart = some (.rc RC.roster_Roster_Depart) := by with_unfolding_all rfl
theorem R.ledger_Ledger_Cores : R F.ledger_Ledger_Cores = some (.rc RC.ledger_Ledger_Cores) := by with_unfolding_all rfl
theorem R.cores_Set_Turn : R F.cores_Set_Turn = some (.rc RC.cores_Set_Turn) := by with_unfolding_all rfl
theorem R.ref27_Turn : R F.ref27_Turn = some (.rc RC.ref27_Turn) := by with_unfolding_all rfl
theorem R.roster_New : R F.roster_New = some (.rc RC.roster_New) := by with_unfolding_all rfl
theorem R.cores_New : R F.cores_New = some (.rc RC.cores_New) := by with_unfolding_all rfl
theorem R.law29_Fit : R F.law29_Fit = some (.rc RC.law29_Fit) := by with_unfolding_all rfl
theorem R.ledger_Ledger_Free : R F.ledger_Ledger_Free = some (.rc RC.ledger_Ledger_Free) := by with_unfolding_all rfl
theorem R.ref27_New : R F.ref27_New = some (.rc RC.ref27_New) := by with_unfolding_all rfl
theorem R.ref27_Plug : R F.ref27_Plug = some (.rc RC.ref27_Plug) := by with_unfolding_all rfl
theorem R.ref27_Unplug : R F.ref27_Unplug = some (.rc RC.ref27_Unplug) := by with_unfolding_all rfl
theorem R.ref29_tick : R F.ref29_tick = some (.rc RC.ref29_tick) := by with_unfolding_all rfl
theorem R.ref28_Find : R F.ref28_Find = some (.rc RC.ref28_Find) := by with_unfolding_all rfl
theorem R.ref28_Do : R F.ref28_Do = some (.rc RC.ref28_Do) := by with_unfolding_all rfl
theorem R.ref29_Free : R F.ref29_Free = some (.rc RC.ref29_Free) := by with_unfolding_all rfl
theorem R.ledger_Ledger_none : R F.ledger_Ledger_none = some (.rc RC.ledger_Ledger_none) := by with_unfolding_all rfl
theorem R.ledger_Ledger_tasks : R F.ledger_Ledger_tasks = some (.rc RC.ledger_Ledger_tasks) := by with_unfolding_all rfl
theorem R.ledger_Ledger_plug : R F.ledger_Ledger_plug = some (.rc RC.ledger_Ledger_plug) := by with_unfolding_all rfl
theorem R.ledger_Ledger_ticks : R F.ledger_Ledger_ticks = some (.rc RC.ledger_Ledger_ticks) := by with_unfolding_all rfl
theorem R.roster_Roster_Task : R F.roster_Roster_Task = some (.rc RC.roster_Roster_Task) := by with_unfolding_all rfl
theorem R.ledger_Ledger_Clock : R F.ledger_Ledger_Clock = some (.rc RC.ledger_Ledger_Clock) := by with_unfolding_all rfl
theorem R.law28_Alike : R F.law28_Alike = some (.rc RC.law28_Alike) := by with_unfolding_all rfl
theorem R.cores_Set_Len : R F.cores_Set_Len = some (.rc RC.cores_Set_Len) := by with_unfolding_all rfl
theorem R.cores_Set_State : R F.cores_Set_State = some (.rc RC.cores_Set_State) := by with_unfolding_all rfl
theorem R.roster_Roster_Fork : R F.roster_Roster_Fork = some (.rc RC.roster_Roster_Fork) := by with_unfolding_all rfl
theorem R.cores_Set_Fork : R F.cores_Set_Fork = some (.rc RC.cores_Set_Fork) := by with_unfolding_all rfl
theorem R.roster_Roster_one : R F.roster_Roster_one = some (.rc RC.roster_Roster_one) := by with_unfolding_all rfl
theorem R.roster_Roster_count : R F.roster_Roster_count = some (.rc RC.roster_Roster_count) := by with_unfolding_all rfl
theorem R.slices_Repeat_int_int : R F.slices_Repeat_int_int = some (.rc RC.slices_Repeat_int_int) := by with_unfolding_all rfl
theorem R.cores_Set_Count : R F.cores_Set_Count = some (.rc RC.cores_Set_Count) := by with_unfolding_all rfl
theorem R.roster_Roster_Total : R F.roster_Roster_Total = some (.rc RC.roster_Roster_Total) := by with_unfolding_all rfl
theorem R.ref27_with : R F.ref27_with = some (.rc RC.ref27_with) := by with_unfolding_all rfl
theorem R.ref27_Count : R F.ref27_Count = some (.rc RC.ref27_Count) := by with_unfolding_all rfl
theorem R.ref28_find : R F.ref28_find = some (.rc RC.ref28_find) := by with_unfolding_all rfl
theorem R.ref28_tasks : R F.ref28_tasks = some (.rc RC.ref28_tasks) := by with_unfolding_all rfl
theorem R.ref28_groups : R F.ref28_groups = some (.rc RC.ref28_groups) := by with_unfolding_all rfl
theorem R.ref28_enter : R F.ref28_enter = some (.rc RC.ref28_enter) := by with_unfolding_all rfl
theorem R.ref28_members : R F.ref28_members = some (.rc RC.ref28_members) := by with_unfolding_all rfl
theorem R.ref28_Total : R F.ref28_Total = some (.rc RC.ref28_Total) := by with_unfolding_all rfl
theorem R.ledger_list : R F.ledger_list = some (.rc RC.ledger_list) := by with_unfolding_all rfl
theorem R.ledger_Ledger_room : R F.ledger_Ledger_room = some (.rc RC.ledger_Ledger_room) := by with_unfolding_all rfl
theorem R.cores_Set_Plug : R F.cores_Set_Plug = some (.rc RC.cores_Set_Plug) := by with_unfolding_all rfl
theorem R.cores_Set_Unplug : R F.cores_Set_Unplug = some (.rc RC.cores_Set_Unplug) := by with_unfolding_all rfl
theorem R.roster_Roster_Tasks : R F.roster_Roster_Tasks = some (.rc RC.roster_Roster_Tasks) := by with_unfolding_all rfl
theorem R.roster_Roster_Groups : R F.roster_Roster_Groups = some (.rc RC.roster_Roster_Groups) := by with_unfolding_all rfl
theorem R.ref08_Same : R F.ref08_Same = some (.rc RC.ref08_Same) := by with_unfolding_all rfl
theorem R.roster_Roster_Units : R F.roster_Roster_Units = some (.rc RC.roster_Roster_Units) := by with_unfolding_all rfl
theorem R.ref28_Units : R F.ref28_Units = some (.rc RC.ref28_Units) := by with_unfolding_all rfl
theorem R.ref28_Group0 : R F.ref28_Group0 = some (.rc RC.ref28_Group0) := by with_unfolding_all rfl
theorem R.ref28_Members : R F.ref28_Members = some (.rc RC.ref28_Members) := by with_unfolding_all rfl
theorem R.roster_Roster_none : R F.roster_Roster_none = some (.rc RC.roster_Roster_none) := by with_unfolding_all rfl
theorem R.slices_Clone_int_int : R F.slices_Clone_int_int = some (.rc RC.slices_Clone_int_int) := by with_unfolding_all rfl
theorem R.math_bits_Mul : R F.math_bits_Mul = some (.rc RC.math_bits_Mul) := by with_unfolding_all rfl
theorem R.math_bits_OnesCount32 : R F.math_bits_OnesCount32 = some (.rc RC.math_bits_OnesCount32) := by with_unfolding_all rfl
theorem R.cores_Set_In : R F.cores_Set_In = some (.rc RC.cores_Set_In) := by with_unfolding_all rfl
theorem R.order_Total : R F.order_Total = some (.rc RC.order_Total) := by with_unfolding_all rfl
theorem R.ref28_share : R F.ref28_share = some (.rc RC.ref28_share) := by with_unfolding_all rfl
theorem R.ref28_with : R F.ref28_with = some (.rc RC.ref28_with) := by with_unfolding_all rfl
theorem R.ref28_without : R F.ref28_without = some (.rc RC.ref28_without) := by with_unfolding_all rfl
theorem R.ref28_groupWith : R F.ref28_groupWith = some (.rc RC.ref28_groupWith) := by with_unfolding_all rfl
theorem R.roster_Roster_Arrive : R F.roster_Roster_Arrive = some (.rc RC.roster_Roster_Arrive) := by with_unfolding_all rfl
theorem R.roster_Roster_Reweight : R F.roster_Roster_Reweight = some (.rc RC.roster_Roster_Reweight) := by with_unfolding_all rfl
theorem R.roster_Roster_Block : R F.roster_Roster_Block = some (.rc RC.roster_Roster_Block) := by with_unfolding_all rfl
theorem R.roster_Roster_Wake : R F.roster_Roster_Wake = some (.rc RC.roster_Roster_Wake) := by with_unfolding_all rfl
theorem R.roster_Roster_Found : R F.roster_Roster_Found = some (.rc RC.roster_Roster_Found) := by with_unfolding_all rfl
theorem R.roster_Roster_Fund : R F.roster_Roster_Fund = some (.rc RC.roster_Roster_Fund) := by with_unfolding_all rfl
theorem R.roster_Roster_Disband : R F.roster_Roster_Disband = some (.rc RC.roster_Roster_Disband) := by with_unfolding_all rfl
theorem R.roster_Roster_Enter : R F.roster_Roster_Enter = some (.rc RC.roster_Roster_Enter) := by with_unfolding_all rfl
theorem R.roster_Roster_Weigh : R F.roster_Roster_Weigh = some (.rc RC.roster_Roster_Weigh) := by with_unfolding_all rfl
theorem R.roster_Roster_Limit : R F.roster_Roster_Limit = some (.rc RC.roster_Roster_Limit) := by with_unfolding_all rfl
theorem R.roster_Roster_Move : R F.roster_Roster_Move = some (.rc RC.roster_Roster_Move) := by with_unfolding_all rfl
theorem R.cores_Set_change : R F.cores_Set_change = some (.rc RC.cores_Set_change) := by with_unfolding_all rfl
theorem R.maps_Keys_map_int_roster_Task_int_roster_Task : R F.maps_Keys_map_int_roster_Task_int_roster_Task = some (.rc RC.maps_Keys_map_int_roster_Task_int_roster_Task) := by with_unfolding_all rfl
theorem R.maps_Keys_map_int_roster_Group_int_roster_Group : R F.maps_Keys_map_int_roster_Group_int_roster_Group = some (.rc RC.maps_Keys_map_int_roster_Group_int_roster_Group) := by with_unfolding_all rfl
theorem R.math_bits_Mul32 : R F.math_bits_Mul32 = some (.rc RC.math_bits_Mul32) := by with_unfolding_all rfl
theorem R.math_bits_Mul64 : R F.math_bits_Mul64 = some (.rc RC.math_bits_Mul64) := by with_unfolding_all rfl
theorem R.slices_Contains_int_int : R F.slices_Contains_int_int = some (.rc RC.slices_Contains_int_int) := by with_unfolding_all rfl
theorem R.fixq_Add : R F.fixq_Add = some (.rc RC.fixq_Add) := by with_unfolding_all rfl
theorem R.roster_Roster_fresh : R F.roster_Roster_fresh = some (.rc RC.roster_Roster_fresh) := by with_unfolding_all rfl
theorem R.roster_Roster_share : R F.roster_Roster_share = some (.rc RC.roster_Roster_share) := by with_unfolding_all rfl
theorem R.roster_Roster_member : R F.roster_Roster_member = some (.rc RC.roster_Roster_member) := by with_unfolding_all rfl
theorem R.roster_Roster_off : R F.roster_Roster_off = some (.rc RC.roster_Roster_off) := by with_unfolding_all rfl
theorem R.order_Unit : R F.order_Unit = some (.rc RC.order_Unit) := by with_unfolding_all rfl
theorem R.roster_Roster_group : R F.roster_Roster_group = some (.rc RC.roster_Roster_group) := by with_unfolding_all rfl
theorem R.roster_weight : R F.roster_weight = some (.rc RC.roster_weight) := by with_unfolding_all rfl
theorem R.maps_Keys_map_int_roster_Task_int_roster_Task_1 : R F.maps_Keys_map_int_roster_Task_int_roster_Task_1 = some (.rc RC.maps_Keys_map_int_roster_Task_int_roster_Task_1) := by with_unfolding_all rfl
theorem R.maps_Keys_map_int_roster_Group_int_roster_Group_1 : R F.maps_Keys_map_int_roster_Group_int_roster_Group_1 = some (.rc RC.maps_Keys_map_int_roster_Group_int_roster_Group_1) := by with_unfolding_all rfl
theorem R.slices_Index_int_int : R F.slices_Index_int_int = some (.rc RC.slices_Index_int_int) := by with_unfolding_all rfl
theorem R.slices_Sorted_int : R F.slices_Sorted_int = some (.ext X.sk) := by with_unfolding_all rfl
theorem R.maps_Clone_map_int_roster_Task_int_roster_Task : R F.maps_Clone_map_int_roster_Task_int_roster_Task = some (.ext X.mc66) := by with_unfolding_all rfl
theorem R.maps_Clone_map_int_roster_Group_int_roster_Group : R F.maps_Clone_map_int_roster_Group_int_roster_Group = some (.ext X.mc67) := by with_unfolding_all rfl
end Go.Am
