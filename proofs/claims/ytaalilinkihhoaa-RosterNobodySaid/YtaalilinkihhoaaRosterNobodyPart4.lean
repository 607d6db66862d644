/- Parts of the proofs of the statements of this seat: AmTabRoster, RosterKeys, AmTieRoster, WRosterNobody. No conditions. -/
import Derived.Test.YtaalilinkihhoaaRosterNobodyPart3
import Derived.Test.YtaalilinkihhoaaProg
import Derived.Test.YtaalilinkihhoaaRows
set_option linter.unusedVariables false
set_option linter.unusedSimpArgs false

/- The functions of the layer roster in the form of the abstract machine. Printed by amgen.py. -/
set_option linter.unusedVariables false
namespace Go.Am

@[irreducible] def F.law28_RosterNobody : Nat := 7
@[irreducible] def F.roster_New : Nat := 8
@[irreducible] def F.roster_Roster_Found : Nat := 9
@[irreducible] def F.roster_Roster_Enter : Nat := 10
@[irreducible] def F.roster_Roster_Arrive : Nat := 11
@[irreducible] def F.roster_Roster_Tasks : Nat := 12
@[irreducible] def F.law28_awake : Nat := 13
@[irreducible] def F.law28_Do : Nat := 14
@[irreducible] def F.roster_Roster_Group : Nat := 15
@[irreducible] def F.roster_Roster_Groups : Nat := 16
@[irreducible] def F.roster_Roster_Task : Nat := 18
@[irreducible] def F.roster_Roster_Fork : Nat := 22
@[irreducible] def F.roster_Roster_Units : Nat := 23
@[irreducible] def F.roster_Roster_Total : Nat := 24
@[irreducible] def F.roster_Roster_none : Nat := 25
@[irreducible] def F.order_Unit : Nat := 26
@[irreducible] def F.roster_Roster_share : Nat := 27
@[irreducible] def F.roster_Roster_fresh : Nat := 28
@[irreducible] def F.roster_Roster_group : Nat := 29
@[irreducible] def F.roster_weight : Nat := 30
@[irreducible] def F.roster_Roster_count : Nat := 31
@[irreducible] def F.slices_Sorted_int : Nat := 32
@[irreducible] def F.maps_Keys_map_int_roster_Task_int_roster_Task : Nat := 33
@[irreducible] def F.roster_Roster_Disband : Nat := 34
@[irreducible] def F.roster_Roster_Reweight : Nat := 35
@[irreducible] def F.ref08_Same : Nat := 36
@[irreducible] def F.roster_Roster_Depart : Nat := 37
@[irreducible] def F.roster_Roster_Block : Nat := 38
@[irreducible] def F.roster_Roster_Wake : Nat := 39
@[irreducible] def F.roster_Roster_Fund : Nat := 40
@[irreducible] def F.roster_Roster_Weigh : Nat := 41
@[irreducible] def F.roster_Roster_Limit : Nat := 42
@[irreducible] def F.roster_Roster_Move : Nat := 43
@[irreducible] def F.maps_Keys_map_int_roster_Group_int_roster_Group : Nat := 44
@[irreducible] def F.roster_Roster_one : Nat := 49
@[irreducible] def F.maps_Clone_map_int_roster_Task_int_roster_Task : Nat := 54
@[irreducible] def F.maps_Clone_map_int_roster_Group_int_roster_Group : Nat := 55
@[irreducible] def F.order_Total : Nat := 56
@[irreducible] def F.maps_Keys_map_int_roster_Task_int_roster_Task_1 : Nat := 59
@[irreducible] def F.roster_Roster_member : Nat := 60
@[irreducible] def F.roster_Roster_off : Nat := 61
@[irreducible] def F.maps_Keys_map_int_roster_Group_int_roster_Group_1 : Nat := 62
@[irreducible] def F.maps_clone : Nat := 67
@[irreducible] def F.fixq_Add : Nat := 68

def RB.law28_RosterNobody_1 : RCode :=
  (.seq (.seq (.region [⟨some 40, none, .mov (.t 11)⟩,
    ⟨some 41, none, .bin .leq (.t 40) (.c (.int .i64 12))⟩]
    [1, 4, 5, 6, 8, 10, 11, 41])
  (.cond (.t 41)
    .skip
    (.exit 2)))
  (.seq (.block 3
    (.seq (.region [⟨some 44, none, .mov (.t 11)⟩,
      ⟨some 45, none, .fieldAddr 0 (.t 1)⟩,
      ⟨none, none, .store 1 (.t 45) (.t 44)⟩]
      [1, 4, 5, 6, 8, 10, 11])
    (.seq (.region [⟨some 46, none, .mov (.t 6)⟩,
      ⟨some 47, none, .load true 8 (.t 1)⟩,
      ⟨some 48, none, .call F.law28_Do [.t 46, .t 47]⟩,
      ⟨some 49, none, .bin .neq (.t 48) (.c (.int .i64 2))⟩]
      [1, 4, 5, 6, 8, 10, 11, 49])
    (.cond (.t 49)
      (.seq (.region [⟨some 2, none, .mov (.c (.bool false))⟩]
        [2])
      .ret)
      .skip))) [1, 4, 5, 6, 8, 10, 11])
  (.region [⟨some 42, none, .mov (.t 11)⟩,
    ⟨some 43, none, .bin .add (.t 42) (.c (.int .i64 1))⟩,
    ⟨some 11, none, .mov (.t 43)⟩]
    [1, 4, 5, 6, 8, 10, 11])))
def RB.law28_RosterNobody_2 : RCode :=
  (.seq (.seq (.region [⟨some 16, none, .mov (.t 5)⟩,
    ⟨some 17, none, .mov (.t 4)⟩,
    ⟨some 18, none, .len (.t 17)⟩,
    ⟨some 19, none, .bin .lss (.t 16) (.t 18)⟩]
    [1, 4, 5, 19])
  (.cond (.t 19)
    .skip
    (.exit 0)))
  (.seq (.block 1
    (.seq (.region [⟨some 22, none, .mov (.t 4)⟩,
      ⟨some 23, none, .mov (.t 5)⟩,
      ⟨some 24, none, .idxS 1 (.t 22) (.t 23)⟩,
      ⟨some 25, none, .load false 1 (.t 24)⟩,
      ⟨some 6, none, .mov (.t 25)⟩]
      [1, 4, 5, 6])
    (.seq (.region [⟨some 27, none, .mov (.t 6)⟩,
      ⟨some 28, none, .fieldAddr 1 (.t 1)⟩,
      ⟨some 29, none, .load false 1 (.t 28)⟩,
      ⟨some 30, none, .call F.roster_Roster_Task [.t 27, .t 29]⟩,
      ⟨some 26, none, .mov (.t 30)⟩,
      ⟨some 31, none, .ext 0 (.t 26)⟩,
      ⟨some 32, none, .ext 1 (.t 26)⟩,
      ⟨some 7, none, .alloc [(.int .i64 0), (.int .i64 0), (.int .i64 0), (.int .i64 0), (.int .i64 0), (.bool false)]⟩,
      ⟨none, none, .store 6 (.t 7) (.t 31)⟩,
      ⟨some 8, none, .mov (.t 32)⟩]
      [1, 4, 5, 6, 8])
    (.seq (.region [⟨some 34, none, .mov (.t 6)⟩,
      ⟨some 35, none, .fieldAddr 2 (.t 1)⟩,
      ⟨some 36, none, .load false 1 (.t 35)⟩,
      ⟨some 37, none, .call F.roster_Roster_Group [.t 34, .t 36]⟩,
      ⟨some 33, none, .mov (.t 37)⟩,
      ⟨some 38, none, .ext 0 (.t 33)⟩,
      ⟨some 39, none, .ext 1 (.t 33)⟩,
      ⟨some 9, none, .alloc [(.int .i64 0), (.int .i64 0), (.int .i64 0)]⟩,
      ⟨none, none, .store 3 (.t 9) (.t 38)⟩,
      ⟨some 10, none, .mov (.t 39)⟩]
      [1, 4, 5, 6, 8, 10])
    (.seq (.seq (.region [⟨some 11, none, .mov (.c (.int .i64 1))⟩]
      [1, 4, 5, 6, 8, 10, 11])
    (.block 2
      (.loop [1, 4, 5, 6, 8, 10, 11] RB.law28_RosterNobody_1) [1, 4, 5, 6, 8, 10]))
    (.seq (.region [⟨some 50, none, .mov (.t 8)⟩,
      ⟨some 51, none, .mov (.t 50)⟩,
      ⟨some 52, some (51, false), .mov (.t 10)⟩,
      ⟨some 53, none, .pick (.t 51) (.c (.bool true)) (.t 52)⟩,
      ⟨some 54, none, .mov (.t 53)⟩,
      ⟨some 55, some (54, false), .mov (.t 6)⟩,
      ⟨some 56, some (54, false), .call F.roster_Roster_Tasks [.t 55]⟩,
      ⟨some 57, some (54, false), .len (.t 56)⟩,
      ⟨some 58, some (54, false), .mov (.t 6)⟩,
      ⟨some 59, some (54, false), .call F.roster_Roster_Groups [.t 58]⟩,
      ⟨some 60, some (54, false), .len (.t 59)⟩,
      ⟨some 61, some (54, false), .bin .add (.t 57) (.t 60)⟩,
      ⟨some 62, some (54, false), .mov (.t 6)⟩,
      ⟨some 63, some (54, false), .call F.roster_Roster_Units [.t 62]⟩,
      ⟨some 64, some (54, false), .len (.t 63)⟩,
      ⟨some 65, some (54, false), .bin .add (.t 61) (.t 64)⟩,
      ⟨some 66, some (54, false), .mov (.t 6)⟩,
      ⟨some 67, some (54, false), .call F.roster_Roster_Total [.t 66]⟩,
      ⟨some 68, some (54, false), .bin .add (.t 65) (.t 67)⟩,
      ⟨some 69, some (54, false), .bin .neq (.t 68) (.c (.int .i64 0))⟩,
      ⟨some 70, none, .pick (.t 54) (.c (.bool true)) (.t 69)⟩,
      ⟨some 71, none, .mov (.t 70)⟩,
      ⟨some 72, some (71, false), .mov (.t 6)⟩,
      ⟨some 73, some (71, false), .call F.roster_Roster_Fork [.t 72]⟩,
      ⟨some 74, some (71, false), .eq true .ptr (.t 73) (.c (.pointer none))⟩,
      ⟨some 75, none, .pick (.t 71) (.c (.bool true)) (.t 74)⟩]
      [1, 4, 5, 75])
    (.cond (.t 75)
      (.seq (.region [⟨some 2, none, .mov (.c (.bool false))⟩]
        [2])
      .ret)
      .skip)))))) [1, 4, 5])
  (.region [⟨some 20, none, .mov (.t 5)⟩,
    ⟨some 21, none, .bin .add (.t 20) (.c (.int .i64 1))⟩,
    ⟨some 5, none, .mov (.t 21)⟩]
    [1, 4, 5])))
def RC.law28_RosterNobody : RFn := ⟨1, [.slot 2],
  (.seq (.region [⟨some 1, none, .box (.t 0)⟩,
    ⟨some 2, none, .mov (.c (.bool false))⟩]
    [1])
  (.seq (.region [⟨some 3, none, .mov (.c (.pointer none))⟩]
    [1, 3])
  (.seq (.region [⟨some 12, none, .mov (.t 3)⟩,
    ⟨some 13, none, .build [(.int .i64 0), (.map none), (.map none)] []⟩,
    ⟨some 14, none, .box (.t 13)⟩,
    ⟨some 15, none, .bslice [(.pointer none), (.pointer none)] [(0, 1, .t 12), (1, 1, .t 14)] 2 1⟩,
    ⟨some 4, none, .mov (.t 15)⟩]
    [1, 4])
  (.seq (.seq (.region [⟨some 5, none, .mov (.c (.int .i64 0))⟩]
    [1, 4, 5])
  (.block 0
    (.loop [1, 4, 5] RB.law28_RosterNobody_2) []))
  (.seq (.region [⟨some 76, none, .call F.law28_awake []⟩,
    ⟨some 2, none, .mov (.t 76)⟩]
    [2])
  .ret)))))⟩

def RC.roster_New : RFn := ⟨1, [.slot 2, .slot 3],
  (.seq (.region [⟨some 2, none, .mov (.c (.pointer none))⟩,
    ⟨some 3, none, .mov (.c (.int .i64 0))⟩]
    [0])
  (.seq (.seq (.region [⟨some 4, none, .mov (.t 0)⟩,
    ⟨some 5, none, .bin .lss (.t 4) (.c (.int .i64 2))⟩,
    ⟨some 6, none, .mov (.t 5)⟩,
    ⟨some 7, some (6, false), .mov (.t 0)⟩,
    ⟨some 8, some (6, false), .bin .gtr (.t 7) (.c (.int .i64 64))⟩,
    ⟨some 9, none, .pick (.t 6) (.c (.bool true)) (.t 8)⟩]
    [0, 9])
  (.cond (.t 9)
    (.seq (.region [⟨some 2, none, .mov (.c (.pointer none))⟩,
      ⟨some 3, none, .mov (.c (.int .i64 1))⟩]
      [2, 3])
    .ret)
    .skip))
  (.seq (.region [⟨some 10, none, .mov (.t 0)⟩,
    ⟨some 11, none, .mkmap⟩,
    ⟨some 12, none, .mkmap⟩,
    ⟨some 13, none, .build [(.int .i64 0), (.map none), (.map none)] [(0, 1, .t 10), (1, 1, .t 11), (2, 1, .t 12)]⟩,
    ⟨some 14, none, .box (.t 13)⟩,
    ⟨some 2, none, .mov (.t 14)⟩,
    ⟨some 3, none, .mov (.c (.int .i64 0))⟩]
    [2, 3])
  .ret)))⟩

def RC.roster_Roster_Found : RFn := ⟨3, [.slot 6],
  (.seq (.region [⟨some 6, none, .mov (.c (.int .i64 0))⟩]
    [0, 1, 2])
  (.seq (.seq (.region [⟨some 11, none, .mov (.t 0)⟩,
    ⟨some 12, none, .call F.roster_Roster_none [.t 11]⟩]
    [0, 1, 2, 12])
  (.cond (.t 12)
    (.seq (.region [⟨some 6, none, .mov (.c (.int .i64 2))⟩]
      [6])
    .ret)
    .skip))
  (.seq (.seq (.region [⟨some 14, none, .mov (.t 1)⟩,
    ⟨some 15, none, .call F.order_Unit [.t 14, .c (.bool true)]⟩,
    ⟨some 13, none, .mov (.t 15)⟩,
    ⟨some 16, none, .ext 0 (.t 13)⟩,
    ⟨some 17, none, .ext 1 (.t 13)⟩,
    ⟨some 7, none, .mov (.t 16)⟩,
    ⟨some 8, none, .mov (.t 17)⟩]
    [0, 1, 2, 8])
  (.seq (.region [⟨some 18, none, .mov (.t 8)⟩,
    ⟨some 19, none, .bin .neq (.t 18) (.c (.int .i64 0))⟩]
    [0, 1, 2, 19])
  (.cond (.t 19)
    (.seq (.region [⟨some 6, none, .mov (.c (.int .i64 25))⟩]
      [6])
    .ret)
    .skip)))
  (.seq (.seq (.region [⟨some 21, none, .mov (.t 0)⟩,
    ⟨some 22, none, .nilchk (.t 21)⟩,
    ⟨some 23, none, .fieldAddr 2 (.t 22)⟩,
    ⟨some 24, none, .load false 1 (.t 23)⟩,
    ⟨some 25, none, .mov (.t 1)⟩,
    ⟨some 26, none, .look .int (.agg #[(.int .i64 0), (.int .i64 0), (.int .i64 0)]) true (.t 24) (.t 25)⟩,
    ⟨some 20, none, .mov (.t 26)⟩,
    ⟨some 27, none, .ext 0 (.t 20)⟩,
    ⟨some 28, none, .ext 1 (.t 20)⟩,
    ⟨some 9, none, .alloc [(.int .i64 0), (.int .i64 0), (.int .i64 0)]⟩,
    ⟨none, none, .store 3 (.t 9) (.t 27)⟩,
    ⟨some 10, none, .mov (.t 28)⟩]
    [0, 1, 2, 10])
  (.seq (.region [⟨some 29, none, .mov (.t 10)⟩]
    [0, 1, 2, 29])
  (.cond (.t 29)
    (.seq (.region [⟨some 6, none, .mov (.c (.int .i64 11))⟩]
      [6])
    .ret)
    .skip)))
  (.seq (.seq (.region [⟨some 30, none, .mov (.t 0)⟩,
    ⟨some 31, none, .mov (.t 2)⟩,
    ⟨some 32, none, .call F.roster_Roster_share [.t 30, .t 31]⟩,
    ⟨some 33, none, .un .not (.t 32)⟩]
    [0, 1, 2, 33])
  (.cond (.t 33)
    (.seq (.region [⟨some 6, none, .mov (.c (.int .i64 21))⟩]
      [6])
    .ret)
    .skip))
  (.seq (.region [⟨some 34, none, .mov (.t 0)⟩,
    ⟨some 35, none, .nilchk (.t 34)⟩,
    ⟨some 36, none, .fieldAddr 2 (.t 35)⟩,
    ⟨some 37, none, .load false 1 (.t 36)⟩,
    ⟨some 38, none, .mov (.t 1)⟩,
    ⟨some 39, none, .mov (.t 1)⟩,
    ⟨some 40, none, .mov (.t 2)⟩,
    ⟨some 41, none, .build [(.int .i64 0), (.int .i64 0), (.int .i64 0)] [(0, 1, .t 39), (1, 1, .t 40)]⟩,
    ⟨none, none, .upd .int (.t 37) (.t 38) (.t 41)⟩]
    [])
  (.seq (.region [⟨some 6, none, .mov (.c (.int .i64 0))⟩]
    [6])
  .ret)))))))⟩

def RC.roster_Roster_Enter : RFn := ⟨5, [.slot 10],
  (.seq (.region [⟨some 10, none, .mov (.c (.int .i64 0))⟩]
    [0, 1, 2, 3, 4])
  (.seq (.seq (.region [⟨some 14, none, .mov (.t 0)⟩,
    ⟨some 15, none, .mov (.t 1)⟩,
    ⟨some 16, none, .call F.roster_Roster_fresh [.t 14, .t 15]⟩,
    ⟨some 11, none, .mov (.t 16)⟩]
    [0, 1, 2, 3, 4, 11])
  (.seq (.region [⟨some 17, none, .mov (.t 11)⟩,
    ⟨some 18, none, .bin .neq (.t 17) (.c (.int .i64 0))⟩]
    [0, 1, 2, 3, 4, 11, 18])
  (.cond (.t 18)
    (.seq (.region [⟨some 19, none, .mov (.t 11)⟩,
      ⟨some 10, none, .mov (.t 19)⟩]
      [10])
    .ret)
    .skip)))
  (.seq (.region [⟨some 21, none, .mov (.t 0)⟩,
    ⟨some 22, none, .mov (.t 2)⟩,
    ⟨some 23, none, .call F.roster_Roster_group [.t 21, .t 22]⟩,
    ⟨some 20, none, .mov (.t 23)⟩,
    ⟨some 24, none, .ext 0 (.t 20)⟩,
    ⟨some 25, none, .ext 1 (.t 20)⟩,
    ⟨some 12, none, .alloc [(.int .i64 0), (.int .i64 0), (.int .i64 0)]⟩,
    ⟨none, none, .store 3 (.t 12) (.t 24)⟩,
    ⟨some 13, none, .mov (.t 25)⟩]
    [0, 1, 2, 3, 4, 12, 13])
  (.seq (.block 0
    (.seq (.region [⟨some 27, none, .mov (.t 13)⟩,
      ⟨some 28, none, .bin .neq (.t 27) (.c (.int .i64 0))⟩,
      ⟨some 26, none, .mov (.t 28)⟩]
      [0, 1, 2, 3, 4, 12, 13, 26])
    (.cond (.t 26)
      (.seq (.region [⟨some 29, none, .mov (.t 13)⟩,
        ⟨some 10, none, .mov (.t 29)⟩]
        [10])
      .ret)
      (.seq (.region [⟨some 31, none, .mov (.t 3)⟩,
        ⟨some 32, none, .call F.roster_weight [.t 31]⟩,
        ⟨some 33, none, .un .not (.t 32)⟩,
        ⟨some 30, none, .mov (.t 33)⟩]
        [0, 1, 2, 3, 4, 12, 30])
      (.cond (.t 30)
        (.seq (.region [⟨some 10, none, .mov (.c (.int .i64 22))⟩]
          [10])
        .ret)
        (.seq (.region [⟨some 35, none, .mov (.t 4)⟩,
          ⟨some 36, none, .bin .lss (.t 35) (.c (.int .i64 0))⟩,
          ⟨some 37, none, .mov (.t 36)⟩,
          ⟨some 38, some (37, false), .mov (.t 4)⟩,
          ⟨some 39, some (37, false), .mov (.t 0)⟩,
          ⟨some 40, some (37, false), .nilchk (.t 39)⟩,
          ⟨some 41, some (37, false), .fieldAddr 0 (.t 40)⟩,
          ⟨some 42, some (37, false), .load false 1 (.t 41)⟩,
          ⟨some 43, some (37, false), .bin .gtr (.t 38) (.t 42)⟩,
          ⟨some 44, none, .pick (.t 37) (.c (.bool true)) (.t 43)⟩,
          ⟨some 34, none, .mov (.t 44)⟩]
          [0, 1, 2, 3, 4, 12, 34])
        (.cond (.t 34)
          (.seq (.region [⟨some 10, none, .mov (.c (.int .i64 23))⟩]
            [10])
          .ret)
          (.seq (.region [⟨some 46, none, .mov (.t 0)⟩,
            ⟨some 47, none, .nilchk (.t 46)⟩,
            ⟨some 48, none, .fieldAddr 1 (.t 47)⟩,
            ⟨some 49, none, .load false 1 (.t 48)⟩,
            ⟨some 50, none, .lenM (.t 49)⟩,
            ⟨some 51, none, .bin .geq (.t 50) (.c (.int .i64 96))⟩,
            ⟨some 52, none, .mov (.t 51)⟩,
            ⟨some 53, some (52, false), .fieldAddr 2 (.t 12)⟩,
            ⟨some 54, some (52, false), .load false 1 (.t 53)⟩,
            ⟨some 55, some (52, false), .bin .geq (.t 54) (.c (.int .i64 32))⟩,
            ⟨some 56, none, .pick (.t 52) (.c (.bool true)) (.t 55)⟩,
            ⟨some 45, none, .mov (.t 56)⟩]
            [0, 1, 2, 3, 4, 45])
          (.cond (.t 45)
            (.seq (.region [⟨some 10, none, .mov (.c (.int .i64 13))⟩]
              [10])
            .ret)
            .skip)))))))) [0, 1, 2, 3, 4])
  (.seq (.region [⟨some 57, none, .mov (.t 0)⟩,
    ⟨some 58, none, .nilchk (.t 57)⟩,
    ⟨some 59, none, .fieldAddr 1 (.t 58)⟩,
    ⟨some 60, none, .load false 1 (.t 59)⟩,
    ⟨some 61, none, .mov (.t 1)⟩,
    ⟨some 62, none, .mov (.t 1)⟩,
    ⟨some 63, none, .mov (.t 2)⟩,
    ⟨some 64, none, .mov (.t 3)⟩,
    ⟨some 65, none, .mov (.t 4)⟩,
    ⟨some 66, none, .build [(.int .i64 0), (.int .i64 0), (.int .i64 0), (.int .i64 0), (.int .i64 0), (.bool false)] [(0, 1, .t 62), (1, 1, .t 63), (3, 1, .t 64), (4, 1, .t 65)]⟩,
    ⟨none, none, .upd .int (.t 60) (.t 61) (.t 66)⟩]
    [0, 2])
  (.seq (.region [⟨some 67, none, .mov (.t 0)⟩,
    ⟨some 68, none, .mov (.t 2)⟩,
    ⟨some 69, none, .call F.roster_Roster_count [.t 67, .t 68, .c (.int .i64 1)]⟩]
    [])
  (.seq (.region [⟨some 10, none, .mov (.c (.int .i64 0))⟩]
    [10])
  .ret)))))))⟩

def RC.roster_Roster_Arrive : RFn := ⟨3, [.slot 6],
  (.seq (.region [⟨some 6, none, .mov (.c (.int .i64 0))⟩]
    [0, 1, 2])
  (.seq (.seq (.region [⟨some 8, none, .mov (.t 0)⟩,
    ⟨some 9, none, .mov (.t 1)⟩,
    ⟨some 10, none, .call F.roster_Roster_fresh [.t 8, .t 9]⟩,
    ⟨some 7, none, .mov (.t 10)⟩]
    [0, 1, 2, 7])
  (.seq (.region [⟨some 11, none, .mov (.t 7)⟩,
    ⟨some 12, none, .bin .neq (.t 11) (.c (.int .i64 0))⟩]
    [0, 1, 2, 7, 12])
  (.cond (.t 12)
    (.seq (.region [⟨some 13, none, .mov (.t 7)⟩,
      ⟨some 6, none, .mov (.t 13)⟩]
      [6])
    .ret)
    .skip)))
  (.seq (.block 0
    (.seq (.region [⟨some 15, none, .mov (.t 0)⟩,
      ⟨some 16, none, .mov (.t 2)⟩,
      ⟨some 17, none, .call F.roster_Roster_share [.t 15, .t 16]⟩,
      ⟨some 18, none, .un .not (.t 17)⟩,
      ⟨some 14, none, .mov (.t 18)⟩]
      [0, 1, 2, 14])
    (.cond (.t 14)
      (.seq (.region [⟨some 6, none, .mov (.c (.int .i64 21))⟩]
        [6])
      .ret)
      (.seq (.region [⟨some 20, none, .mov (.t 0)⟩,
        ⟨some 21, none, .nilchk (.t 20)⟩,
        ⟨some 22, none, .fieldAddr 1 (.t 21)⟩,
        ⟨some 23, none, .load false 1 (.t 22)⟩,
        ⟨some 24, none, .lenM (.t 23)⟩,
        ⟨some 25, none, .bin .geq (.t 24) (.c (.int .i64 96))⟩,
        ⟨some 19, none, .mov (.t 25)⟩]
        [0, 1, 2, 19])
      (.cond (.t 19)
        (.seq (.region [⟨some 6, none, .mov (.c (.int .i64 13))⟩]
          [6])
        .ret)
        .skip)))) [0, 1, 2])
  (.seq (.region [⟨some 26, none, .mov (.t 0)⟩,
    ⟨some 27, none, .nilchk (.t 26)⟩,
    ⟨some 28, none, .fieldAddr 1 (.t 27)⟩,
    ⟨some 29, none, .load false 1 (.t 28)⟩,
    ⟨some 30, none, .mov (.t 1)⟩,
    ⟨some 31, none, .mov (.t 1)⟩,
    ⟨some 32, none, .mov (.t 2)⟩,
    ⟨some 33, none, .build [(.int .i64 0), (.int .i64 0), (.int .i64 0), (.int .i64 0), (.int .i64 0), (.bool false)] [(0, 1, .t 31), (2, 1, .t 32)]⟩,
    ⟨none, none, .upd .int (.t 29) (.t 30) (.t 33)⟩]
    [])
  (.seq (.region [⟨some 6, none, .mov (.c (.int .i64 0))⟩]
    [6])
  .ret)))))⟩

def RB.roster_Roster_Tasks_1 : RCode :=
  (.seq (.region [⟨some 16, none, .bin .lss (.t 15) (.t 14)⟩]
    [0, 3, 13, 14, 15, 16])
  (.seq (.cond (.t 16)
    .skip
    (.exit 0))
  (.seq (.block 1
    (.seq (.region [⟨some 17, none, .idxS 1 (.t 13) (.t 15)⟩,
      ⟨some 18, none, .load false 1 (.t 17)⟩,
      ⟨some 5, none, .mov (.t 18)⟩]
      [0, 3, 5, 13, 14, 15])
    (.region [⟨some 19, none, .mov (.t 3)⟩,
      ⟨some 20, none, .mov (.t 0)⟩,
      ⟨some 21, none, .nilchk (.t 20)⟩,
      ⟨some 22, none, .fieldAddr 1 (.t 21)⟩,
      ⟨some 23, none, .load false 1 (.t 22)⟩,
      ⟨some 24, none, .mov (.t 5)⟩,
      ⟨some 25, none, .look .int (.agg #[(.int .i64 0), (.int .i64 0), (.int .i64 0), (.int .i64 0), (.int .i64 0), (.bool false)]) false (.t 23) (.t 24)⟩,
      ⟨some 26, none, .bslice [(.int .i64 0), (.int .i64 0), (.int .i64 0), (.int .i64 0), (.int .i64 0), (.bool false)] [(0, 6, .t 25)] 1 6⟩,
      ⟨some 27, none, .app 6 48 (.t 19) (.t 26)⟩,
      ⟨some 3, none, .mov (.t 27)⟩]
      [0, 3, 13, 14, 15])) [0, 3, 13, 14, 15])
  (.region [⟨some 28, none, .bin .add (.t 15) (.c (.int .i64 1))⟩,
    ⟨some 15, none, .mov (.t 28)⟩]
    [0, 3, 13, 14, 15]))))
def RC.roster_Roster_Tasks : RFn := ⟨1, [.slot 2],
  (.seq (.region [⟨some 2, none, .mov (.c (.slice none 0 0))⟩]
    [0])
  (.seq (.seq (.region [⟨some 6, none, .mov (.t 0)⟩,
    ⟨some 7, none, .call F.roster_Roster_none [.t 6]⟩]
    [0, 7])
  (.cond (.t 7)
    (.seq (.region [⟨some 2, none, .mov (.c (.slice none 0 0))⟩]
      [2])
    .ret)
    .skip))
  (.seq (.region [⟨some 3, none, .mov (.c (.slice none 0 0))⟩]
    [0, 3])
  (.seq (.seq (.region [⟨some 8, none, .mov (.t 0)⟩,
    ⟨some 9, none, .nilchk (.t 8)⟩,
    ⟨some 10, none, .fieldAddr 1 (.t 9)⟩,
    ⟨some 11, none, .load false 1 (.t 10)⟩,
    ⟨some 12, none, .call F.maps_Keys_map_int_roster_Task_int_roster_Task [.t 11]⟩,
    ⟨some 13, none, .call F.slices_Sorted_int [.t 12]⟩,
    ⟨some 14, none, .len (.t 13)⟩,
    ⟨some 15, none, .mov (.c (.int .i64 0))⟩]
    [0, 3, 13, 14, 15])
  (.block 0
    (.loop [0, 3, 13, 14, 15] RB.roster_Roster_Tasks_1) [3]))
  (.seq (.region [⟨some 29, none, .mov (.t 3)⟩,
    ⟨some 2, none, .mov (.t 29)⟩]
    [2])
  .ret)))))⟩

def RC.law28_awake : RFn := ⟨0, [.slot 0],
  (.seq (.region [⟨some 0, none, .mov (.c (.bool false))⟩]
    [])
  (.seq (.region [⟨some 6, none, .call F.roster_New [.c (.int .i64 8)]⟩,
    ⟨some 5, none, .mov (.t 6)⟩,
    ⟨some 7, none, .ext 0 (.t 5)⟩,
    ⟨some 8, none, .ext 1 (.t 5)⟩,
    ⟨some 1, none, .mov (.t 7)⟩,
    ⟨some 2, none, .mov (.t 8)⟩]
    [1, 2])
  (.seq (.seq (.region [⟨some 9, none, .mov (.t 2)⟩,
    ⟨some 10, none, .bin .neq (.t 9) (.c (.int .i64 0))⟩,
    ⟨some 11, none, .mov (.t 10)⟩,
    ⟨some 12, some (11, false), .mov (.t 1)⟩,
    ⟨some 13, some (11, false), .eq false .ptr (.t 12) (.c (.pointer none))⟩,
    ⟨some 14, none, .pick (.t 11) (.c (.bool true)) (.t 13)⟩]
    [1, 14])
  (.cond (.t 14)
    (.seq (.region [⟨some 0, none, .mov (.c (.bool false))⟩]
      [0])
    .ret)
    .skip))
  (.seq (.region [⟨some 15, none, .mov (.t 1)⟩,
    ⟨some 16, none, .call F.roster_Roster_Found [.t 15, .c (.int .i64 1), .c (.int .i64 4)]⟩,
    ⟨some 17, none, .mov (.t 1)⟩,
    ⟨some 18, none, .call F.roster_Roster_Enter [.t 17, .c (.int .i64 7), .c (.int .i64 1), .c (.int .i64 3), .c (.int .i64 0)]⟩,
    ⟨some 3, none, .mov (.t 16)⟩,
    ⟨some 4, none, .mov (.t 18)⟩]
    [1, 3, 4])
  (.seq (.region [⟨some 19, none, .mov (.t 3)⟩,
    ⟨some 20, none, .bin .eql (.t 19) (.c (.int .i64 0))⟩,
    ⟨some 21, none, .mov (.t 20)⟩,
    ⟨some 22, some (21, true), .mov (.t 4)⟩,
    ⟨some 23, some (21, true), .bin .eql (.t 22) (.c (.int .i64 0))⟩,
    ⟨some 24, none, .pick (.t 21) (.t 23) (.c (.bool false))⟩,
    ⟨some 25, none, .mov (.t 24)⟩,
    ⟨some 26, some (25, true), .mov (.t 1)⟩,
    ⟨some 27, some (25, true), .call F.roster_Roster_Disband [.t 26, .c (.int .i64 1)]⟩,
    ⟨some 28, some (25, true), .bin .eql (.t 27) (.c (.int .i64 16))⟩,
    ⟨some 29, none, .pick (.t 25) (.t 28) (.c (.bool false))⟩,
    ⟨some 30, none, .mov (.t 29)⟩,
    ⟨some 31, some (30, true), .mov (.t 1)⟩,
    ⟨some 32, some (30, true), .call F.roster_Roster_Reweight [.t 31, .c (.int .i64 7), .c (.int .i64 2)]⟩,
    ⟨some 33, some (30, true), .bin .eql (.t 32) (.c (.int .i64 14))⟩,
    ⟨some 34, none, .pick (.t 30) (.t 33) (.c (.bool false))⟩,
    ⟨some 35, none, .mov (.t 34)⟩,
    ⟨some 36, some (35, true), .mov (.t 1)⟩,
    ⟨some 37, some (35, true), .call F.roster_Roster_Units [.t 36]⟩,
    ⟨some 38, some (35, true), .build [(.int .i64 0), (.int .i64 0)] [(0, 1, .c (.int .i64 1001)), (1, 1, .c (.int .i64 4))]⟩,
    ⟨some 39, some (35, true), .bslice [(.int .i64 0), (.int .i64 0)] [(0, 2, .t 38)] 1 2⟩,
    ⟨some 40, some (35, true), .call F.ref08_Same [.t 37, .t 39]⟩,
    ⟨some 41, none, .pick (.t 35) (.t 40) (.c (.bool false))⟩,
    ⟨some 42, none, .mov (.t 41)⟩,
    ⟨some 43, some (42, true), .mov (.t 1)⟩,
    ⟨some 44, some (42, true), .call F.roster_Roster_Total [.t 43]⟩,
    ⟨some 45, some (42, true), .bin .eql (.t 44) (.c (.int .i64 4))⟩,
    ⟨some 46, none, .pick (.t 42) (.t 45) (.c (.bool false))⟩,
    ⟨some 0, none, .mov (.t 46)⟩]
    [0])
  .ret)))))⟩

def RC.law28_Do : RFn := ⟨2, [.slot 4],
  (.seq (.region [⟨some 3, none, .box (.t 1)⟩,
    ⟨some 4, none, .mov (.c (.int .i64 0))⟩]
    [0, 3])
  (.seq (.region [⟨some 5, none, .fieldAddr 0 (.t 3)⟩,
    ⟨some 6, none, .load false 1 (.t 5)⟩]
    [0, 3, 6])
  (.block 0
    (.seq (.region [⟨some 8, none, .bin .eql (.t 6) (.c (.int .i64 1))⟩,
      ⟨some 7, none, .mov (.t 8)⟩]
      [0, 3, 6, 7])
    (.cond (.t 7)
      (.seq (.region [⟨some 9, none, .mov (.t 0)⟩,
        ⟨some 10, none, .fieldAddr 1 (.t 3)⟩,
        ⟨some 11, none, .load false 1 (.t 10)⟩,
        ⟨some 12, none, .fieldAddr 3 (.t 3)⟩,
        ⟨some 13, none, .load false 1 (.t 12)⟩,
        ⟨some 14, none, .call F.roster_Roster_Arrive [.t 9, .t 11, .t 13]⟩,
        ⟨some 4, none, .mov (.t 14)⟩]
        [4])
      .ret)
      (.seq (.region [⟨some 16, none, .bin .eql (.t 6) (.c (.int .i64 2))⟩,
        ⟨some 15, none, .mov (.t 16)⟩]
        [0, 3, 6, 15])
      (.cond (.t 15)
        (.seq (.region [⟨some 17, none, .mov (.t 0)⟩,
          ⟨some 18, none, .fieldAddr 1 (.t 3)⟩,
          ⟨some 19, none, .load false 1 (.t 18)⟩,
          ⟨some 20, none, .call F.roster_Roster_Depart [.t 17, .t 19]⟩,
          ⟨some 4, none, .mov (.t 20)⟩]
          [4])
        .ret)
        (.seq (.region [⟨some 22, none, .bin .eql (.t 6) (.c (.int .i64 3))⟩,
          ⟨some 21, none, .mov (.t 22)⟩]
          [0, 3, 6, 21])
        (.cond (.t 21)
          (.seq (.region [⟨some 23, none, .mov (.t 0)⟩,
            ⟨some 24, none, .fieldAddr 1 (.t 3)⟩,
            ⟨some 25, none, .load false 1 (.t 24)⟩,
            ⟨some 26, none, .fieldAddr 3 (.t 3)⟩,
            ⟨some 27, none, .load false 1 (.t 26)⟩,
            ⟨some 28, none, .call F.roster_Roster_Reweight [.t 23, .t 25, .t 27]⟩,
            ⟨some 4, none, .mov (.t 28)⟩]
            [4])
          .ret)
          (.seq (.region [⟨some 30, none, .bin .eql (.t 6) (.c (.int .i64 4))⟩,
            ⟨some 29, none, .mov (.t 30)⟩]
            [0, 3, 6, 29])
          (.cond (.t 29)
            (.seq (.region [⟨some 31, none, .mov (.t 0)⟩,
              ⟨some 32, none, .fieldAddr 1 (.t 3)⟩,
              ⟨some 33, none, .load false 1 (.t 32)⟩,
              ⟨some 34, none, .call F.roster_Roster_Block [.t 31, .t 33]⟩,
              ⟨some 4, none, .mov (.t 34)⟩]
              [4])
            .ret)
            (.seq (.region [⟨some 36, none, .bin .eql (.t 6) (.c (.int .i64 5))⟩,
              ⟨some 35, none, .mov (.t 36)⟩]
              [0, 3, 6, 35])
            (.cond (.t 35)
              (.seq (.region [⟨some 37, none, .mov (.t 0)⟩,
                ⟨some 38, none, .fieldAddr 1 (.t 3)⟩,
                ⟨some 39, none, .load false 1 (.t 38)⟩,
                ⟨some 40, none, .call F.roster_Roster_Wake [.t 37, .t 39]⟩,
                ⟨some 4, none, .mov (.t 40)⟩]
                [4])
              .ret)
              (.seq (.region [⟨some 42, none, .bin .eql (.t 6) (.c (.int .i64 6))⟩,
                ⟨some 41, none, .mov (.t 42)⟩]
                [0, 3, 6, 41])
              (.cond (.t 41)
                (.seq (.region [⟨some 43, none, .mov (.t 0)⟩,
                  ⟨some 44, none, .fieldAddr 2 (.t 3)⟩,
                  ⟨some 45, none, .load false 1 (.t 44)⟩,
                  ⟨some 46, none, .fieldAddr 3 (.t 3)⟩,
                  ⟨some 47, none, .load false 1 (.t 46)⟩,
                  ⟨some 48, none, .call F.roster_Roster_Found [.t 43, .t 45, .t 47]⟩,
                  ⟨some 4, none, .mov (.t 48)⟩]
                  [4])
                .ret)
                (.seq (.region [⟨some 50, none, .bin .eql (.t 6) (.c (.int .i64 7))⟩,
                  ⟨some 49, none, .mov (.t 50)⟩]
                  [0, 3, 6, 49])
                (.cond (.t 49)
                  (.seq (.region [⟨some 51, none, .mov (.t 0)⟩,
                    ⟨some 52, none, .fieldAddr 2 (.t 3)⟩,
                    ⟨some 53, none, .load false 1 (.t 52)⟩,
                    ⟨some 54, none, .fieldAddr 3 (.t 3)⟩,
                    ⟨some 55, none, .load false 1 (.t 54)⟩,
                    ⟨some 56, none, .call F.roster_Roster_Fund [.t 51, .t 53, .t 55]⟩,
                    ⟨some 4, none, .mov (.t 56)⟩]
                    [4])
                  .ret)
                  (.seq (.region [⟨some 58, none, .bin .eql (.t 6) (.c (.int .i64 8))⟩,
                    ⟨some 57, none, .mov (.t 58)⟩]
                    [0, 3, 6, 57])
                  (.cond (.t 57)
                    (.seq (.region [⟨some 59, none, .mov (.t 0)⟩,
                      ⟨some 60, none, .fieldAddr 2 (.t 3)⟩,
                      ⟨some 61, none, .load false 1 (.t 60)⟩,
                      ⟨some 62, none, .call F.roster_Roster_Disband [.t 59, .t 61]⟩,
                      ⟨some 4, none, .mov (.t 62)⟩]
                      [4])
                    .ret)
                    (.seq (.region [⟨some 64, none, .bin .eql (.t 6) (.c (.int .i64 9))⟩,
                      ⟨some 63, none, .mov (.t 64)⟩]
                      [0, 3, 6, 63])
                    (.cond (.t 63)
                      (.seq (.region [⟨some 65, none, .mov (.t 0)⟩,
                        ⟨some 66, none, .fieldAddr 1 (.t 3)⟩,
                        ⟨some 67, none, .load false 1 (.t 66)⟩,
                        ⟨some 68, none, .fieldAddr 2 (.t 3)⟩,
                        ⟨some 69, none, .load false 1 (.t 68)⟩,
                        ⟨some 70, none, .fieldAddr 4 (.t 3)⟩,
                        ⟨some 71, none, .load false 1 (.t 70)⟩,
                        ⟨some 72, none, .fieldAddr 5 (.t 3)⟩,
                        ⟨some 73, none, .load false 1 (.t 72)⟩,
                        ⟨some 74, none, .call F.roster_Roster_Enter [.t 65, .t 67, .t 69, .t 71, .t 73]⟩,
                        ⟨some 4, none, .mov (.t 74)⟩]
                        [4])
                      .ret)
                      (.seq (.region [⟨some 76, none, .bin .eql (.t 6) (.c (.int .i64 10))⟩,
                        ⟨some 75, none, .mov (.t 76)⟩]
                        [0, 3, 6, 75])
                      (.cond (.t 75)
                        (.seq (.region [⟨some 77, none, .mov (.t 0)⟩,
                          ⟨some 78, none, .fieldAddr 1 (.t 3)⟩,
                          ⟨some 79, none, .load false 1 (.t 78)⟩,
                          ⟨some 80, none, .fieldAddr 4 (.t 3)⟩,
                          ⟨some 81, none, .load false 1 (.t 80)⟩,
                          ⟨some 82, none, .call F.roster_Roster_Weigh [.t 77, .t 79, .t 81]⟩,
                          ⟨some 4, none, .mov (.t 82)⟩]
                          [4])
                        .ret)
                        (.seq (.region [⟨some 84, none, .bin .eql (.t 6) (.c (.int .i64 11))⟩,
                          ⟨some 83, none, .mov (.t 84)⟩]
                          [0, 3, 6, 83])
                        (.cond (.t 83)
                          (.seq (.region [⟨some 85, none, .mov (.t 0)⟩,
                            ⟨some 86, none, .fieldAddr 1 (.t 3)⟩,
                            ⟨some 87, none, .load false 1 (.t 86)⟩,
                            ⟨some 88, none, .fieldAddr 5 (.t 3)⟩,
                            ⟨some 89, none, .load false 1 (.t 88)⟩,
                            ⟨some 90, none, .call F.roster_Roster_Limit [.t 85, .t 87, .t 89]⟩,
                            ⟨some 4, none, .mov (.t 90)⟩]
                            [4])
                          .ret)
                          (.seq (.region [⟨some 92, none, .bin .eql (.t 6) (.c (.int .i64 12))⟩,
                            ⟨some 91, none, .mov (.t 92)⟩]
                            [0, 3, 91])
                          (.cond (.t 91)
                            (.seq (.region [⟨some 93, none, .mov (.t 0)⟩,
                              ⟨some 94, none, .fieldAddr 1 (.t 3)⟩,
                              ⟨some 95, none, .load false 1 (.t 94)⟩,
                              ⟨some 96, none, .fieldAddr 2 (.t 3)⟩,
                              ⟨some 97, none, .load false 1 (.t 96)⟩,
                              ⟨some 98, none, .call F.roster_Roster_Move [.t 93, .t 95, .t 97]⟩,
                              ⟨some 4, none, .mov (.t 98)⟩]
                              [4])
                            .ret)
                            (.seq (.region [⟨some 4, none, .mov (.c (.int .i64 0))⟩]
                              [4])
                            .ret))))))))))))))))))))))))) [4])))⟩

def RC.roster_Roster_Group : RFn := ⟨2, [.cell 4 true 3, .slot 5],
  (.seq (.region [⟨some 4, none, .alloc [(.int .i64 0), (.int .i64 0), (.int .i64 0)]⟩,
    ⟨some 5, none, .mov (.c (.bool false))⟩]
    [0, 1, 4])
  (.seq (.region [⟨some 9, none, .mov (.t 0)⟩,
    ⟨some 10, none, .mov (.t 1)⟩,
    ⟨some 11, none, .call F.roster_Roster_group [.t 9, .t 10]⟩,
    ⟨some 8, none, .mov (.t 11)⟩,
    ⟨some 12, none, .ext 0 (.t 8)⟩,
    ⟨some 13, none, .ext 1 (.t 8)⟩,
    ⟨some 6, none, .alloc [(.int .i64 0), (.int .i64 0), (.int .i64 0)]⟩,
    ⟨none, none, .store 3 (.t 6) (.t 12)⟩,
    ⟨some 7, none, .mov (.t 13)⟩]
    [4, 6, 7])
  (.seq (.region [⟨some 14, none, .load true 3 (.t 6)⟩,
    ⟨some 15, none, .mov (.t 7)⟩,
    ⟨some 16, none, .bin .eql (.t 15) (.c (.int .i64 0))⟩,
    ⟨none, none, .store 3 (.t 4) (.t 14)⟩,
    ⟨some 5, none, .mov (.t 16)⟩]
    [4, 5])
  .ret)))⟩

def RB.roster_Roster_Groups_1 : RCode :=
  (.seq (.region [⟨some 16, none, .bin .lss (.t 15) (.t 14)⟩]
    [0, 3, 13, 14, 15, 16])
  (.seq (.cond (.t 16)
    .skip
    (.exit 0))
  (.seq (.block 1
    (.seq (.region [⟨some 17, none, .idxS 1 (.t 13) (.t 15)⟩,
      ⟨some 18, none, .load false 1 (.t 17)⟩,
      ⟨some 5, none, .mov (.t 18)⟩]
      [0, 3, 5, 13, 14, 15])
    (.region [⟨some 19, none, .mov (.t 3)⟩,
      ⟨some 20, none, .mov (.t 0)⟩,
      ⟨some 21, none, .nilchk (.t 20)⟩,
      ⟨some 22, none, .fieldAddr 2 (.t 21)⟩,
      ⟨some 23, none, .load false 1 (.t 22)⟩,
      ⟨some 24, none, .mov (.t 5)⟩,
      ⟨some 25, none, .look .int (.agg #[(.int .i64 0), (.int .i64 0), (.int .i64 0)]) false (.t 23) (.t 24)⟩,
      ⟨some 26, none, .bslice [(.int .i64 0), (.int .i64 0), (.int .i64 0)] [(0, 3, .t 25)] 1 3⟩,
      ⟨some 27, none, .app 3 24 (.t 19) (.t 26)⟩,
      ⟨some 3, none, .mov (.t 27)⟩]
      [0, 3, 13, 14, 15])) [0, 3, 13, 14, 15])
  (.region [⟨some 28, none, .bin .add (.t 15) (.c (.int .i64 1))⟩,
    ⟨some 15, none, .mov (.t 28)⟩]
    [0, 3, 13, 14, 15]))))
def RC.roster_Roster_Groups : RFn := ⟨1, [.slot 2],
  (.seq (.region [⟨some 2, none, .mov (.c (.slice none 0 0))⟩]
    [0])
  (.seq (.seq (.region [⟨some 6, none, .mov (.t 0)⟩,
    ⟨some 7, none, .call F.roster_Roster_none [.t 6]⟩]
    [0, 7])
  (.cond (.t 7)
    (.seq (.region [⟨some 2, none, .mov (.c (.slice none 0 0))⟩]
      [2])
    .ret)
    .skip))
  (.seq (.region [⟨some 3, none, .mov (.c (.slice none 0 0))⟩]
    [0, 3])
  (.seq (.seq (.region [⟨some 8, none, .mov (.t 0)⟩,
    ⟨some 9, none, .nilchk (.t 8)⟩,
    ⟨some 10, none, .fieldAddr 2 (.t 9)⟩,
    ⟨some 11, none, .load false 1 (.t 10)⟩,
    ⟨some 12, none, .call F.maps_Keys_map_int_roster_Group_int_roster_Group [.t 11]⟩,
    ⟨some 13, none, .call F.slices_Sorted_int [.t 12]⟩,
    ⟨some 14, none, .len (.t 13)⟩,
    ⟨some 15, none, .mov (.c (.int .i64 0))⟩]
    [0, 3, 13, 14, 15])
  (.block 0
    (.loop [0, 3, 13, 14, 15] RB.roster_Roster_Groups_1) [3]))
  (.seq (.region [⟨some 29, none, .mov (.t 3)⟩,
    ⟨some 2, none, .mov (.t 29)⟩]
    [2])
  .ret)))))⟩

def RC.roster_Roster_Task : RFn := ⟨2, [.cell 4 true 6, .slot 5],
  (.seq (.region [⟨some 4, none, .alloc [(.int .i64 0), (.int .i64 0), (.int .i64 0), (.int .i64 0), (.int .i64 0), (.bool false)]⟩,
    ⟨some 5, none, .mov (.c (.bool false))⟩]
    [0, 1, 4])
  (.seq (.region [⟨some 9, none, .mov (.t 0)⟩,
    ⟨some 10, none, .mov (.t 1)⟩,
    ⟨some 11, none, .call F.roster_Roster_one [.t 9, .t 10]⟩,
    ⟨some 8, none, .mov (.t 11)⟩,
    ⟨some 12, none, .ext 0 (.t 8)⟩,
    ⟨some 13, none, .ext 1 (.t 8)⟩,
    ⟨some 6, none, .alloc [(.int .i64 0), (.int .i64 0), (.int .i64 0), (.int .i64 0), (.int .i64 0), (.bool false)]⟩,
    ⟨none, none, .store 6 (.t 6) (.t 12)⟩,
    ⟨some 7, none, .mov (.t 13)⟩]
    [4, 6, 7])
  (.seq (.region [⟨some 14, none, .load true 6 (.t 6)⟩,
    ⟨some 15, none, .mov (.t 7)⟩,
    ⟨some 16, none, .bin .eql (.t 15) (.c (.int .i64 0))⟩,
    ⟨none, none, .store 6 (.t 4) (.t 14)⟩,
    ⟨some 5, none, .mov (.t 16)⟩]
    [4, 5])
  .ret)))⟩

def RC.roster_Roster_Fork : RFn := ⟨1, [.slot 2],
  (.seq (.region [⟨some 2, none, .mov (.c (.pointer none))⟩]
    [0])
  (.seq (.seq (.region [⟨some 3, none, .mov (.t 0)⟩,
    ⟨some 4, none, .call F.roster_Roster_none [.t 3]⟩]
    [0, 4])
  (.cond (.t 4)
    (.seq (.region [⟨some 2, none, .mov (.c (.pointer none))⟩]
      [2])
    .ret)
    .skip))
  (.seq (.drawn [⟨some 5, none, .mov (.t 0)⟩,
    ⟨some 6, none, .nilchk (.t 5)⟩,
    ⟨some 7, none, .fieldAddr 0 (.t 6)⟩,
    ⟨some 8, none, .load false 1 (.t 7)⟩,
    ⟨some 9, none, .mov (.t 0)⟩,
    ⟨some 10, none, .nilchk (.t 9)⟩,
    ⟨some 11, none, .fieldAddr 1 (.t 10)⟩,
    ⟨some 12, none, .load false 1 (.t 11)⟩,
    ⟨some 13, none, .call F.maps_Clone_map_int_roster_Task_int_roster_Task [.t 12]⟩,
    ⟨some 14, none, .mov (.t 0)⟩,
    ⟨some 15, none, .nilchk (.t 14)⟩,
    ⟨some 16, none, .fieldAddr 2 (.t 15)⟩,
    ⟨some 17, none, .load false 1 (.t 16)⟩,
    ⟨some 18, none, .call F.maps_Clone_map_int_roster_Group_int_roster_Group [.t 17]⟩,
    ⟨some 19, none, .build [(.int .i64 0), (.map none), (.map none)] [(0, 1, .t 8), (1, 1, .t 13), (2, 1, .t 18)]⟩,
    ⟨some 20, none, .box (.t 19)⟩,
    ⟨some 2, none, .mov (.t 20)⟩]
    [[], [0], [1], [2], [], [4], [5], [6], [7], [], [9], [10], [11], [12, 8], [3, 8, 13], [14], [15, 13, 0, 1, 2, 3, 4, 5, 6, 7, 8, 9, 10, 11, 12, 13, 14, 15]]
    [(0, []), (1, []), (2, []), (4, []), (5, []), (6, []), (9, []), (10, []), (11, []), (3, []), (7, []), (12, []), (8, [7, 16]), (13, [7]), (14, []), (15, []), (16, [])]
    [[], [0], [0, 1], [0, 1, 2], [], [4], [4, 5], [4, 5, 6], [4, 5, 6, 7], [], [9], [9, 10], [9, 10, 11], [4, 5, 6, 7, 8, 9, 10, 11, 12], [0, 1, 2, 3, 4, 5, 6, 7, 8, 9, 10, 11, 12, 13], [0, 1, 2, 3, 4, 5, 6, 7, 8, 9, 10, 11, 12, 13, 14], [0, 1, 2, 3, 4, 5, 6, 7, 8, 9, 10, 11, 12, 13, 14, 15]]
    [2])
  .ret)))⟩

def RB.roster_Roster_Units_1 : RCode :=
  (.seq (.region [⟨some 31, none, .bin .lss (.t 30) (.t 29)⟩]
    [3, 28, 29, 30, 31])
  (.seq (.cond (.t 31)
    .skip
    (.exit 2))
  (.seq (.block 3
    (.seq (.region [⟨some 32, none, .idxS 3 (.t 28) (.t 30)⟩,
      ⟨some 33, none, .load true 3 (.t 32)⟩,
      ⟨some 7, none, .alloc [(.int .i64 0), (.int .i64 0), (.int .i64 0)]⟩,
      ⟨none, none, .store 3 (.t 7) (.t 33)⟩]
      [3, 7, 28, 29, 30])
    (.region [⟨some 34, none, .mov (.t 3)⟩,
      ⟨some 35, none, .fieldAddr 0 (.t 7)⟩,
      ⟨some 36, none, .load false 1 (.t 35)⟩,
      ⟨some 37, none, .bin .add (.c (.int .i64 1000)) (.t 36)⟩,
      ⟨some 38, none, .fieldAddr 1 (.t 7)⟩,
      ⟨some 39, none, .load false 1 (.t 38)⟩,
      ⟨some 40, none, .build [(.int .i64 0), (.int .i64 0)] [(0, 1, .t 37), (1, 1, .t 39)]⟩,
      ⟨some 41, none, .bslice [(.int .i64 0), (.int .i64 0)] [(0, 2, .t 40)] 1 2⟩,
      ⟨some 42, none, .app 2 16 (.t 34) (.t 41)⟩,
      ⟨some 3, none, .mov (.t 42)⟩]
      [3, 28, 29, 30])) [3, 28, 29, 30])
  (.region [⟨some 43, none, .bin .add (.t 30) (.c (.int .i64 1))⟩,
    ⟨some 30, none, .mov (.t 43)⟩]
    [3, 28, 29, 30]))))
def RB.roster_Roster_Units_2 : RCode :=
  (.seq (.region [⟨some 12, none, .bin .lss (.t 11) (.t 10)⟩]
    [0, 3, 9, 10, 11, 12])
  (.seq (.cond (.t 12)
    .skip
    (.exit 0))
  (.seq (.block 1
    (.seq (.region [⟨some 13, none, .idxS 6 (.t 9) (.t 11)⟩,
      ⟨some 14, none, .load true 6 (.t 13)⟩,
      ⟨some 5, none, .alloc [(.int .i64 0), (.int .i64 0), (.int .i64 0), (.int .i64 0), (.int .i64 0), (.bool false)]⟩,
      ⟨none, none, .store 6 (.t 5) (.t 14)⟩]
      [0, 3, 5, 9, 10, 11])
    (.seq (.region [⟨some 15, none, .fieldAddr 1 (.t 5)⟩,
      ⟨some 16, none, .load false 1 (.t 15)⟩,
      ⟨some 17, none, .bin .eql (.t 16) (.c (.int .i64 0))⟩]
      [0, 3, 5, 9, 10, 11, 17])
    (.cond (.t 17)
      (.region [⟨some 18, none, .mov (.t 3)⟩,
        ⟨some 19, none, .fieldAddr 0 (.t 5)⟩,
        ⟨some 20, none, .load false 1 (.t 19)⟩,
        ⟨some 21, none, .fieldAddr 2 (.t 5)⟩,
        ⟨some 22, none, .load false 1 (.t 21)⟩,
        ⟨some 23, none, .build [(.int .i64 0), (.int .i64 0)] [(0, 1, .t 20), (1, 1, .t 22)]⟩,
        ⟨some 24, none, .bslice [(.int .i64 0), (.int .i64 0)] [(0, 2, .t 23)] 1 2⟩,
        ⟨some 25, none, .app 2 16 (.t 18) (.t 24)⟩,
        ⟨some 3, none, .mov (.t 25)⟩]
        [0, 3, 9, 10, 11])
      .skip))) [0, 3, 9, 10, 11])
  (.region [⟨some 26, none, .bin .add (.t 11) (.c (.int .i64 1))⟩,
    ⟨some 11, none, .mov (.t 26)⟩]
    [0, 3, 9, 10, 11]))))
def RC.roster_Roster_Units : RFn := ⟨1, [.slot 2],
  (.seq (.region [⟨some 2, none, .mov (.c (.slice none 0 0))⟩]
    [0])
  (.seq (.region [⟨some 3, none, .mov (.c (.slice none 0 0))⟩]
    [0, 3])
  (.seq (.seq (.region [⟨some 8, none, .mov (.t 0)⟩,
    ⟨some 9, none, .call F.roster_Roster_Tasks [.t 8]⟩,
    ⟨some 10, none, .len (.t 9)⟩,
    ⟨some 11, none, .mov (.c (.int .i64 0))⟩]
    [0, 3, 9, 10, 11])
  (.block 0
    (.loop [0, 3, 9, 10, 11] RB.roster_Roster_Units_2) [0, 3]))
  (.seq (.seq (.region [⟨some 27, none, .mov (.t 0)⟩,
    ⟨some 28, none, .call F.roster_Roster_Groups [.t 27]⟩,
    ⟨some 29, none, .len (.t 28)⟩,
    ⟨some 30, none, .mov (.c (.int .i64 0))⟩]
    [3, 28, 29, 30])
  (.block 2
    (.loop [3, 28, 29, 30] RB.roster_Roster_Units_1) [3]))
  (.seq (.region [⟨some 44, none, .mov (.t 3)⟩,
    ⟨some 2, none, .mov (.t 44)⟩]
    [2])
  .ret)))))⟩

def RC.roster_Roster_Total : RFn := ⟨1, [.slot 2],
  (.seq (.region [⟨some 2, none, .mov (.c (.int .i64 0))⟩]
    [0])
  (.seq (.region [⟨some 6, none, .mov (.t 0)⟩,
    ⟨some 7, none, .call F.roster_Roster_Units [.t 6]⟩,
    ⟨some 8, none, .call F.order_Total [.t 7]⟩,
    ⟨some 5, none, .mov (.t 8)⟩,
    ⟨some 9, none, .ext 0 (.t 5)⟩,
    ⟨some 10, none, .ext 1 (.t 5)⟩,
    ⟨some 3, none, .mov (.t 9)⟩,
    ⟨some 4, none, .mov (.t 10)⟩]
    [3])
  (.seq (.region [⟨some 11, none, .mov (.t 3)⟩,
    ⟨some 2, none, .mov (.t 11)⟩]
    [2])
  .ret)))⟩

def RC.roster_Roster_none : RFn := ⟨1, [.slot 2],
  (.seq (.region [⟨some 2, none, .mov (.c (.bool false))⟩]
    [0])
  (.seq (.region [⟨some 3, none, .mov (.t 0)⟩,
    ⟨some 4, none, .eq false .ptr (.t 3) (.c (.pointer none))⟩,
    ⟨some 5, none, .mov (.t 4)⟩,
    ⟨some 6, some (5, false), .mov (.t 0)⟩,
    ⟨some 7, some (5, false), .nilchk (.t 6)⟩,
    ⟨some 8, some (5, false), .fieldAddr 0 (.t 7)⟩,
    ⟨some 9, some (5, false), .load false 1 (.t 8)⟩,
    ⟨some 10, some (5, false), .bin .eql (.t 9) (.c (.int .i64 0))⟩,
    ⟨some 11, none, .pick (.t 5) (.c (.bool true)) (.t 10)⟩,
    ⟨some 2, none, .mov (.t 11)⟩]
    [2])
  .ret))⟩

def RC.order_Unit : RFn := ⟨2, [.slot 4, .slot 5],
  (.seq (.region [⟨some 4, none, .mov (.c (.int .i64 0))⟩,
    ⟨some 5, none, .mov (.c (.int .i64 0))⟩]
    [0, 1])
  (.seq (.block 0
    (.seq (.region [⟨some 7, none, .mov (.t 0)⟩,
      ⟨some 8, none, .bin .lss (.t 7) (.c (.int .i64 1))⟩,
      ⟨some 9, none, .mov (.t 8)⟩,
      ⟨some 10, some (9, false), .mov (.t 1)⟩,
      ⟨some 11, some (9, false), .un .not (.t 10)⟩,
      ⟨some 12, some (9, false), .mov (.t 11)⟩,
      ⟨some 13, some (12, true), .mov (.t 0)⟩,
      ⟨some 14, some (12, true), .bin .gtr (.t 13) (.c (.int .i64 200))⟩,
      ⟨some 15, some (9, false), .pick (.t 12) (.t 14) (.c (.bool false))⟩,
      ⟨some 16, none, .pick (.t 9) (.c (.bool true)) (.t 15)⟩,
      ⟨some 17, none, .mov (.t 16)⟩,
      ⟨some 18, some (17, false), .mov (.t 1)⟩,
      ⟨some 19, some (17, false), .mov (.t 18)⟩,
      ⟨some 20, some (19, true), .mov (.t 0)⟩,
      ⟨some 21, some (19, true), .bin .gtr (.t 20) (.c (.int .i64 40))⟩,
      ⟨some 22, some (17, false), .pick (.t 19) (.t 21) (.c (.bool false))⟩,
      ⟨some 23, none, .pick (.t 17) (.c (.bool true)) (.t 22)⟩,
      ⟨some 6, none, .mov (.t 23)⟩]
      [0, 1, 6])
    (.cond (.t 6)
      (.seq (.region [⟨some 4, none, .mov (.c (.int .i64 0))⟩,
        ⟨some 5, none, .mov (.c (.int .i64 20))⟩]
        [4, 5])
      .ret)
      (.seq (.region [⟨some 25, none, .mov (.t 1)⟩,
        ⟨some 24, none, .mov (.t 25)⟩]
        [0, 24])
      (.cond (.t 24)
        (.seq (.region [⟨some 26, none, .mov (.t 0)⟩,
          ⟨some 27, none, .bin .add (.c (.int .i64 1000)) (.t 26)⟩,
          ⟨some 4, none, .mov (.t 27)⟩,
          ⟨some 5, none, .mov (.c (.int .i64 0))⟩]
          [4, 5])
        .ret)
        .skip)))) [0])
  (.seq (.region [⟨some 28, none, .mov (.t 0)⟩,
    ⟨some 4, none, .mov (.t 28)⟩,
    ⟨some 5, none, .mov (.c (.int .i64 0))⟩]
    [4, 5])
  .ret)))⟩

def RC.roster_Roster_share : RFn := ⟨2, [.slot 4],
  (.seq (.region [⟨some 4, none, .mov (.c (.bool false))⟩]
    [0, 1])
  (.seq (.region [⟨some 5, none, .mov (.t 1)⟩,
    ⟨some 6, none, .bin .geq (.t 5) (.c (.int .i64 1))⟩,
    ⟨some 7, none, .mov (.t 6)⟩,
    ⟨some 8, some (7, true), .mov (.t 1)⟩,
    ⟨some 9, some (7, true), .mov (.t 0)⟩,
    ⟨some 10, some (7, true), .nilchk (.t 9)⟩,
    ⟨some 11, some (7, true), .fieldAddr 0 (.t 10)⟩,
    ⟨some 12, some (7, true), .load false 1 (.t 11)⟩,
    ⟨some 13, some (7, true), .bin .leq (.t 8) (.t 12)⟩,
    ⟨some 14, none, .pick (.t 7) (.t 13) (.c (.bool false))⟩,
    ⟨some 4, none, .mov (.t 14)⟩]
    [4])
  .ret))⟩

def RC.roster_Roster_fresh : RFn := ⟨2, [.slot 4],
  (.seq (.region [⟨some 4, none, .mov (.c (.int .i64 0))⟩]
    [0, 1])
  (.seq (.seq (.region [⟨some 9, none, .mov (.t 0)⟩,
    ⟨some 10, none, .call F.roster_Roster_none [.t 9]⟩]
    [0, 1, 10])
  (.cond (.t 10)
    (.seq (.region [⟨some 4, none, .mov (.c (.int .i64 2))⟩]
      [4])
    .ret)
    .skip))
  (.seq (.seq (.region [⟨some 12, none, .mov (.t 1)⟩,
    ⟨some 13, none, .call F.order_Unit [.t 12, .c (.bool false)]⟩,
    ⟨some 11, none, .mov (.t 13)⟩,
    ⟨some 14, none, .ext 0 (.t 11)⟩,
    ⟨some 15, none, .ext 1 (.t 11)⟩,
    ⟨some 5, none, .mov (.t 14)⟩,
    ⟨some 6, none, .mov (.t 15)⟩]
    [0, 1, 6])
  (.seq (.region [⟨some 16, none, .mov (.t 6)⟩,
    ⟨some 17, none, .bin .neq (.t 16) (.c (.int .i64 0))⟩]
    [0, 1, 6, 17])
  (.cond (.t 17)
    (.seq (.region [⟨some 18, none, .mov (.t 6)⟩,
      ⟨some 4, none, .mov (.t 18)⟩]
      [4])
    .ret)
    .skip)))
  (.seq (.seq (.region [⟨some 20, none, .mov (.t 0)⟩,
    ⟨some 21, none, .nilchk (.t 20)⟩,
    ⟨some 22, none, .fieldAddr 1 (.t 21)⟩,
    ⟨some 23, none, .load false 1 (.t 22)⟩,
    ⟨some 24, none, .mov (.t 1)⟩,
    ⟨some 25, none, .look .int (.agg #[(.int .i64 0), (.int .i64 0), (.int .i64 0), (.int .i64 0), (.int .i64 0), (.bool false)]) true (.t 23) (.t 24)⟩,
    ⟨some 19, none, .mov (.t 25)⟩,
    ⟨some 26, none, .ext 0 (.t 19)⟩,
    ⟨some 27, none, .ext 1 (.t 19)⟩,
    ⟨some 7, none, .alloc [(.int .i64 0), (.int .i64 0), (.int .i64 0), (.int .i64 0), (.int .i64 0), (.bool false)]⟩,
    ⟨none, none, .store 6 (.t 7) (.t 26)⟩,
    ⟨some 8, none, .mov (.t 27)⟩]
    [8])
  (.seq (.region [⟨some 28, none, .mov (.t 8)⟩]
    [28])
  (.cond (.t 28)
    (.seq (.region [⟨some 4, none, .mov (.c (.int .i64 11))⟩]
      [4])
    .ret)
    .skip)))
  (.seq (.region [⟨some 4, none, .mov (.c (.int .i64 0))⟩]
    [4])
  .ret)))))⟩

def RC.roster_Roster_group : RFn := ⟨2, [.cell 4 true 3, .slot 5],
  (.seq (.region [⟨some 4, none, .alloc [(.int .i64 0), (.int .i64 0), (.int .i64 0)]⟩,
    ⟨some 5, none, .mov (.c (.int .i64 0))⟩]
    [0, 1, 4])
  (.seq (.seq (.region [⟨some 8, none, .mov (.t 0)⟩,
    ⟨some 9, none, .call F.roster_Roster_none [.t 8]⟩]
    [0, 1, 4, 9])
  (.cond (.t 9)
    (.seq (.region [⟨some 10, none, .build [(.int .i64 0), (.int .i64 0), (.int .i64 0)] []⟩,
      ⟨none, none, .store 3 (.t 4) (.t 10)⟩,
      ⟨some 5, none, .mov (.c (.int .i64 2))⟩]
      [4, 5])
    .ret)
    .skip))
  (.seq (.region [⟨some 12, none, .mov (.t 0)⟩,
    ⟨some 13, none, .nilchk (.t 12)⟩,
    ⟨some 14, none, .fieldAddr 2 (.t 13)⟩,
    ⟨some 15, none, .load false 1 (.t 14)⟩,
    ⟨some 16, none, .mov (.t 1)⟩,
    ⟨some 17, none, .look .int (.agg #[(.int .i64 0), (.int .i64 0), (.int .i64 0)]) true (.t 15) (.t 16)⟩,
    ⟨some 11, none, .mov (.t 17)⟩,
    ⟨some 18, none, .ext 0 (.t 11)⟩,
    ⟨some 19, none, .ext 1 (.t 11)⟩,
    ⟨some 6, none, .alloc [(.int .i64 0), (.int .i64 0), (.int .i64 0)]⟩,
    ⟨none, none, .store 3 (.t 6) (.t 18)⟩,
    ⟨some 7, none, .mov (.t 19)⟩]
    [4, 6, 7])
  (.seq (.seq (.region [⟨some 20, none, .mov (.t 7)⟩,
    ⟨some 21, none, .un .not (.t 20)⟩]
    [4, 6, 21])
  (.cond (.t 21)
    (.seq (.region [⟨some 22, none, .build [(.int .i64 0), (.int .i64 0), (.int .i64 0)] []⟩,
      ⟨none, none, .store 3 (.t 4) (.t 22)⟩,
      ⟨some 5, none, .mov (.c (.int .i64 25))⟩]
      [4, 5])
    .ret)
    .skip))
  (.seq (.region [⟨some 23, none, .load true 3 (.t 6)⟩,
    ⟨none, none, .store 3 (.t 4) (.t 23)⟩,
    ⟨some 5, none, .mov (.c (.int .i64 0))⟩]
    [4, 5])
  .ret)))))⟩

def RC.roster_weight : RFn := ⟨1, [.slot 2],
  (.seq (.region [⟨some 2, none, .mov (.c (.bool false))⟩]
    [0])
  (.seq (.region [⟨some 3, none, .mov (.t 0)⟩,
    ⟨some 4, none, .bin .geq (.t 3) (.c (.int .i64 1))⟩,
    ⟨some 5, none, .mov (.t 4)⟩,
    ⟨some 6, some (5, true), .mov (.t 0)⟩,
    ⟨some 7, some (5, true), .bin .leq (.t 6) (.c (.int .i64 1000))⟩,
    ⟨some 8, none, .pick (.t 5) (.t 7) (.c (.bool false))⟩,
    ⟨some 2, none, .mov (.t 8)⟩]
    [2])
  .ret))⟩

def RC.roster_Roster_count : RFn := ⟨3, [],
  (.seq (.region [⟨some 9, none, .mov (.t 0)⟩,
    ⟨some 10, none, .nilchk (.t 9)⟩,
    ⟨some 11, none, .fieldAddr 2 (.t 10)⟩,
    ⟨some 12, none, .load false 1 (.t 11)⟩,
    ⟨some 13, none, .mov (.t 1)⟩,
    ⟨some 14, none, .look .int (.agg #[(.int .i64 0), (.int .i64 0), (.int .i64 0)]) true (.t 12) (.t 13)⟩,
    ⟨some 8, none, .mov (.t 14)⟩,
    ⟨some 15, none, .ext 0 (.t 8)⟩,
    ⟨some 16, none, .ext 1 (.t 8)⟩,
    ⟨some 6, none, .alloc [(.int .i64 0), (.int .i64 0), (.int .i64 0)]⟩,
    ⟨none, none, .store 3 (.t 6) (.t 15)⟩,
    ⟨some 7, none, .mov (.t 16)⟩]
    [0, 1, 2, 6, 7])
  (.seq (.region [⟨some 17, none, .mov (.t 7)⟩]
    [0, 1, 2, 6, 17])
  (.cond (.t 17)
    (.seq (.region [⟨some 18, none, .fieldAddr 2 (.t 6)⟩,
      ⟨some 19, none, .load false 1 (.t 18)⟩,
      ⟨some 20, none, .mov (.t 2)⟩,
      ⟨some 21, none, .bin .add (.t 19) (.t 20)⟩,
      ⟨some 22, none, .fieldAddr 2 (.t 6)⟩,
      ⟨none, none, .store 1 (.t 22) (.t 21)⟩]
      [0, 1, 6])
    (.drawn [⟨some 23, none, .mov (.t 0)⟩,
      ⟨some 24, none, .nilchk (.t 23)⟩,
      ⟨some 25, none, .fieldAddr 2 (.t 24)⟩,
      ⟨some 26, none, .load false 1 (.t 25)⟩,
      ⟨some 27, none, .mov (.t 1)⟩,
      ⟨some 28, none, .load true 3 (.t 6)⟩,
      ⟨none, none, .upd .int (.t 26) (.t 27) (.t 28)⟩]
      [[], [0], [1], [2], [], [], [3, 4, 5, 0, 1, 2, 3, 4, 5]]
      [(0, []), (1, []), (2, []), (4, []), (3, []), (5, []), (6, [])]
      [[], [0], [0, 1], [0, 1, 2], [], [], [0, 1, 2, 3, 4, 5]]
      []))
    .skip)))⟩

def RC.maps_Keys_map_int_roster_Task_int_roster_Task : RFn := ⟨1, [.slot 2],
  (.seq (.region [⟨some 1, none, .box (.t 0)⟩,
    ⟨some 2, none, .mov (.c .nilFunc)⟩]
    [1])
  (.seq (.region [⟨some 3, none, .mkfn (.func F.maps_Keys_map_int_roster_Task_int_roster_Task_1) [] [.t 1]⟩,
    ⟨some 2, none, .mov (.t 3)⟩]
    [2])
  .ret))⟩

def RC.roster_Roster_Disband : RFn := ⟨2, [.slot 4],
  (.seq (.region [⟨some 4, none, .mov (.c (.int .i64 0))⟩]
    [0, 1])
  (.seq (.region [⟨some 8, none, .mov (.t 0)⟩,
    ⟨some 9, none, .mov (.t 1)⟩,
    ⟨some 10, none, .call F.roster_Roster_group [.t 8, .t 9]⟩,
    ⟨some 7, none, .mov (.t 10)⟩,
    ⟨some 11, none, .ext 0 (.t 7)⟩,
    ⟨some 12, none, .ext 1 (.t 7)⟩,
    ⟨some 5, none, .alloc [(.int .i64 0), (.int .i64 0), (.int .i64 0)]⟩,
    ⟨none, none, .store 3 (.t 5) (.t 11)⟩,
    ⟨some 6, none, .mov (.t 12)⟩]
    [0, 1, 5, 6])
  (.seq (.block 0
    (.seq (.region [⟨some 14, none, .mov (.t 6)⟩,
      ⟨some 15, none, .bin .neq (.t 14) (.c (.int .i64 0))⟩,
      ⟨some 13, none, .mov (.t 15)⟩]
      [0, 1, 5, 6, 13])
    (.cond (.t 13)
      (.seq (.region [⟨some 16, none, .mov (.t 6)⟩,
        ⟨some 4, none, .mov (.t 16)⟩]
        [4])
      .ret)
      (.seq (.region [⟨some 18, none, .fieldAddr 2 (.t 5)⟩,
        ⟨some 19, none, .load false 1 (.t 18)⟩,
        ⟨some 20, none, .bin .gtr (.t 19) (.c (.int .i64 0))⟩,
        ⟨some 17, none, .mov (.t 20)⟩]
        [0, 1, 17])
      (.cond (.t 17)
        (.seq (.region [⟨some 4, none, .mov (.c (.int .i64 16))⟩]
          [4])
        .ret)
        .skip)))) [0, 1])
  (.seq (.region [⟨some 21, none, .mov (.t 0)⟩,
    ⟨some 22, none, .nilchk (.t 21)⟩,
    ⟨some 23, none, .fieldAddr 2 (.t 22)⟩,
    ⟨some 24, none, .load false 1 (.t 23)⟩,
    ⟨some 25, none, .mov (.t 1)⟩,
    ⟨none, none, .del .int (.t 24) (.t 25)⟩]
    [])
  (.seq (.region [⟨some 4, none, .mov (.c (.int .i64 0))⟩]
    [4])
  .ret)))))⟩

def RC.roster_Roster_Reweight : RFn := ⟨3, [.slot 6],
  (.seq (.region [⟨some 6, none, .mov (.c (.int .i64 0))⟩]
    [0, 1, 2])
  (.seq (.region [⟨some 10, none, .mov (.t 0)⟩,
    ⟨some 11, none, .mov (.t 1)⟩,
    ⟨some 12, none, .call F.roster_Roster_member [.t 10, .t 11, .c (.bool false)]⟩,
    ⟨some 9, none, .mov (.t 12)⟩,
    ⟨some 13, none, .ext 0 (.t 9)⟩,
    ⟨some 14, none, .ext 1 (.t 9)⟩,
    ⟨some 7, none, .alloc [(.int .i64 0), (.int .i64 0), (.int .i64 0), (.int .i64 0), (.int .i64 0), (.bool false)]⟩,
    ⟨none, none, .store 6 (.t 7) (.t 13)⟩,
    ⟨some 8, none, .mov (.t 14)⟩]
    [0, 1, 2, 7, 8])
  (.seq (.block 0
    (.seq (.region [⟨some 16, none, .mov (.t 8)⟩,
      ⟨some 17, none, .bin .neq (.t 16) (.c (.int .i64 0))⟩,
      ⟨some 15, none, .mov (.t 17)⟩]
      [0, 1, 2, 7, 8, 15])
    (.cond (.t 15)
      (.seq (.region [⟨some 18, none, .mov (.t 8)⟩,
        ⟨some 6, none, .mov (.t 18)⟩]
        [6])
      .ret)
      (.seq (.region [⟨some 20, none, .mov (.t 0)⟩,
        ⟨some 21, none, .mov (.t 2)⟩,
        ⟨some 22, none, .call F.roster_Roster_share [.t 20, .t 21]⟩,
        ⟨some 23, none, .un .not (.t 22)⟩,
        ⟨some 19, none, .mov (.t 23)⟩]
        [0, 1, 2, 7, 19])
      (.cond (.t 19)
        (.seq (.region [⟨some 6, none, .mov (.c (.int .i64 21))⟩]
          [6])
        .ret)
        .skip)))) [0, 1, 2, 7])
  (.seq (.region [⟨some 24, none, .mov (.t 2)⟩,
    ⟨some 25, none, .fieldAddr 2 (.t 7)⟩,
    ⟨none, none, .store 1 (.t 25) (.t 24)⟩]
    [0, 1, 7])
  (.seq (.drawn [⟨some 26, none, .mov (.t 0)⟩,
    ⟨some 27, none, .nilchk (.t 26)⟩,
    ⟨some 28, none, .fieldAddr 1 (.t 27)⟩,
    ⟨some 29, none, .load false 1 (.t 28)⟩,
    ⟨some 30, none, .mov (.t 1)⟩,
    ⟨some 31, none, .load true 6 (.t 7)⟩,
    ⟨none, none, .upd .int (.t 29) (.t 30) (.t 31)⟩]
    [[], [0], [1], [2], [], [], [3, 4, 5, 0, 1, 2, 3, 4, 5]]
    [(0, []), (1, []), (2, []), (4, []), (3, []), (5, []), (6, [])]
    [[], [0], [0, 1], [0, 1, 2], [], [], [0, 1, 2, 3, 4, 5]]
    [])
  (.seq (.region [⟨some 6, none, .mov (.c (.int .i64 0))⟩]
    [6])
  .ret))))))⟩

def RB.ref08_Same_1 : RCode :=
  (.seq (.seq (.region [⟨some 11, none, .mov (.t 5)⟩,
    ⟨some 12, none, .mov (.t 0)⟩,
    ⟨some 13, none, .len (.t 12)⟩,
    ⟨some 14, none, .bin .lss (.t 11) (.t 13)⟩]
    [0, 1, 5, 14])
  (.cond (.t 14)
    .skip
    (.exit 0)))
  (.seq (.block 1
    (.seq (.drawn [⟨some 17, none, .mov (.t 0)⟩,
      ⟨some 18, none, .mov (.t 5)⟩,
      ⟨some 19, none, .idxS 2 (.t 17) (.t 18)⟩,
      ⟨some 20, none, .load true 2 (.t 19)⟩,
      ⟨some 21, none, .mov (.t 1)⟩,
      ⟨some 22, none, .mov (.t 5)⟩,
      ⟨some 23, none, .idxS 2 (.t 21) (.t 22)⟩,
      ⟨some 24, none, .load true 2 (.t 23)⟩,
      ⟨some 25, none, .eq true (.flat [.int, .int]) (.t 20) (.t 24)⟩]
      [[], [], [0, 1], [2], [], [], [4, 5], [6], [3, 7]]
      [(0, []), (1, []), (2, []), (4, []), (5, []), (6, []), (3, []), (7, []), (8, [])]
      [[], [], [0, 1], [0, 1, 2], [], [], [4, 5], [4, 5, 6], [0, 1, 2, 3, 4, 5, 6, 7]]
      [0, 1, 5, 25])
    (.cond (.t 25)
      (.seq (.region [⟨some 4, none, .mov (.c (.bool false))⟩]
        [4])
      .ret)
      .skip)) [0, 1, 5])
  (.region [⟨some 15, none, .mov (.t 5)⟩,
    ⟨some 16, none, .bin .add (.t 15) (.c (.int .i64 1))⟩,
    ⟨some 5, none, .mov (.t 16)⟩]
    [0, 1, 5])))
def RC.ref08_Same : RFn := ⟨2, [.slot 4],
  (.seq (.region [⟨some 4, none, .mov (.c (.bool false))⟩]
    [0, 1])
  (.seq (.seq (.region [⟨some 6, none, .mov (.t 0)⟩,
    ⟨some 7, none, .len (.t 6)⟩,
    ⟨some 8, none, .mov (.t 1)⟩,
    ⟨some 9, none, .len (.t 8)⟩,
    ⟨some 10, none, .bin .neq (.t 7) (.t 9)⟩]
    [0, 1, 10])
  (.cond (.t 10)
    (.seq (.region [⟨some 4, none, .mov (.c (.bool false))⟩]
      [4])
    .ret)
    .skip))
  (.seq (.seq (.region [⟨some 5, none, .mov (.c (.int .i64 0))⟩]
    [0, 1, 5])
  (.block 0
    (.loop [0, 1, 5] RB.ref08_Same_1) []))
  (.seq (.region [⟨some 4, none, .mov (.c (.bool true))⟩]
    [4])
  .ret))))⟩

def RC.roster_Roster_Depart : RFn := ⟨2, [.slot 4],
  (.seq (.region [⟨some 4, none, .mov (.c (.int .i64 0))⟩]
    [0, 1])
  (.seq (.region [⟨some 8, none, .mov (.t 0)⟩,
    ⟨some 9, none, .mov (.t 1)⟩,
    ⟨some 10, none, .call F.roster_Roster_one [.t 8, .t 9]⟩,
    ⟨some 7, none, .mov (.t 10)⟩,
    ⟨some 11, none, .ext 0 (.t 7)⟩,
    ⟨some 12, none, .ext 1 (.t 7)⟩,
    ⟨some 5, none, .alloc [(.int .i64 0), (.int .i64 0), (.int .i64 0), (.int .i64 0), (.int .i64 0), (.bool false)]⟩,
    ⟨none, none, .store 6 (.t 5) (.t 11)⟩,
    ⟨some 6, none, .mov (.t 12)⟩]
    [0, 1, 5, 6])
  (.seq (.seq (.region [⟨some 13, none, .mov (.t 6)⟩,
    ⟨some 14, none, .bin .neq (.t 13) (.c (.int .i64 0))⟩]
    [0, 1, 5, 6, 14])
  (.cond (.t 14)
    (.seq (.region [⟨some 15, none, .mov (.t 6)⟩,
      ⟨some 4, none, .mov (.t 15)⟩]
      [4])
    .ret)
    .skip))
  (.seq (.region [⟨some 16, none, .mov (.t 0)⟩,
    ⟨some 17, none, .fieldAddr 1 (.t 5)⟩,
    ⟨some 18, none, .load false 1 (.t 17)⟩,
    ⟨some 19, none, .call F.roster_Roster_count [.t 16, .t 18, .c (.int .i64 (-1))]⟩]
    [0, 1])
  (.seq (.region [⟨some 20, none, .mov (.t 0)⟩,
    ⟨some 21, none, .nilchk (.t 20)⟩,
    ⟨some 22, none, .fieldAddr 1 (.t 21)⟩,
    ⟨some 23, none, .load false 1 (.t 22)⟩,
    ⟨some 24, none, .mov (.t 1)⟩,
    ⟨none, none, .del .int (.t 23) (.t 24)⟩]
    [])
  (.seq (.region [⟨some 4, none, .mov (.c (.int .i64 0))⟩]
    [4])
  .ret))))))⟩

def RC.roster_Roster_Block : RFn := ⟨2, [.slot 4],
  (.seq (.region [⟨some 4, none, .mov (.c (.int .i64 0))⟩]
    [0, 1])
  (.seq (.region [⟨some 5, none, .mov (.t 0)⟩,
    ⟨some 6, none, .mov (.t 1)⟩,
    ⟨some 7, none, .call F.roster_Roster_off [.t 5, .t 6, .c (.bool true)]⟩,
    ⟨some 4, none, .mov (.t 7)⟩]
    [4])
  .ret))⟩

def RC.roster_Roster_Wake : RFn := ⟨2, [.slot 4],
  (.seq (.region [⟨some 4, none, .mov (.c (.int .i64 0))⟩]
    [0, 1])
  (.seq (.region [⟨some 5, none, .mov (.t 0)⟩,
    ⟨some 6, none, .mov (.t 1)⟩,
    ⟨some 7, none, .call F.roster_Roster_off [.t 5, .t 6, .c (.bool false)]⟩,
    ⟨some 4, none, .mov (.t 7)⟩]
    [4])
  .ret))⟩

def RC.roster_Roster_Fund : RFn := ⟨3, [.slot 6],
  (.seq (.region [⟨some 6, none, .mov (.c (.int .i64 0))⟩]
    [0, 1, 2])
  (.seq (.region [⟨some 10, none, .mov (.t 0)⟩,
    ⟨some 11, none, .mov (.t 1)⟩,
    ⟨some 12, none, .call F.roster_Roster_group [.t 10, .t 11]⟩,
    ⟨some 9, none, .mov (.t 12)⟩,
    ⟨some 13, none, .ext 0 (.t 9)⟩,
    ⟨some 14, none, .ext 1 (.t 9)⟩,
    ⟨some 7, none, .alloc [(.int .i64 0), (.int .i64 0), (.int .i64 0)]⟩,
    ⟨none, none, .store 3 (.t 7) (.t 13)⟩,
    ⟨some 8, none, .mov (.t 14)⟩]
    [0, 1, 2, 7, 8])
  (.seq (.block 0
    (.seq (.region [⟨some 16, none, .mov (.t 8)⟩,
      ⟨some 17, none, .bin .neq (.t 16) (.c (.int .i64 0))⟩,
      ⟨some 15, none, .mov (.t 17)⟩]
      [0, 1, 2, 7, 8, 15])
    (.cond (.t 15)
      (.seq (.region [⟨some 18, none, .mov (.t 8)⟩,
        ⟨some 6, none, .mov (.t 18)⟩]
        [6])
      .ret)
      (.seq (.region [⟨some 20, none, .mov (.t 0)⟩,
        ⟨some 21, none, .mov (.t 2)⟩,
        ⟨some 22, none, .call F.roster_Roster_share [.t 20, .t 21]⟩,
        ⟨some 23, none, .un .not (.t 22)⟩,
        ⟨some 19, none, .mov (.t 23)⟩]
        [0, 1, 2, 7, 19])
      (.cond (.t 19)
        (.seq (.region [⟨some 6, none, .mov (.c (.int .i64 21))⟩]
          [6])
        .ret)
        .skip)))) [0, 1, 2, 7])
  (.seq (.region [⟨some 24, none, .mov (.t 2)⟩,
    ⟨some 25, none, .fieldAddr 1 (.t 7)⟩,
    ⟨none, none, .store 1 (.t 25) (.t 24)⟩]
    [0, 1, 7])
  (.seq (.drawn [⟨some 26, none, .mov (.t 0)⟩,
    ⟨some 27, none, .nilchk (.t 26)⟩,
    ⟨some 28, none, .fieldAddr 2 (.t 27)⟩,
    ⟨some 29, none, .load false 1 (.t 28)⟩,
    ⟨some 30, none, .mov (.t 1)⟩,
    ⟨some 31, none, .load true 3 (.t 7)⟩,
    ⟨none, none, .upd .int (.t 29) (.t 30) (.t 31)⟩]
    [[], [0], [1], [2], [], [], [3, 4, 5, 0, 1, 2, 3, 4, 5]]
    [(0, []), (1, []), (2, []), (4, []), (3, []), (5, []), (6, [])]
    [[], [0], [0, 1], [0, 1, 2], [], [], [0, 1, 2, 3, 4, 5]]
    [])
  (.seq (.region [⟨some 6, none, .mov (.c (.int .i64 0))⟩]
    [6])
  .ret))))))⟩

def RC.roster_Roster_Weigh : RFn := ⟨3, [.slot 6],
  (.seq (.region [⟨some 6, none, .mov (.c (.int .i64 0))⟩]
    [0, 1, 2])
  (.seq (.region [⟨some 10, none, .mov (.t 0)⟩,
    ⟨some 11, none, .mov (.t 1)⟩,
    ⟨some 12, none, .call F.roster_Roster_member [.t 10, .t 11, .c (.bool true)]⟩,
    ⟨some 9, none, .mov (.t 12)⟩,
    ⟨some 13, none, .ext 0 (.t 9)⟩,
    ⟨some 14, none, .ext 1 (.t 9)⟩,
    ⟨some 7, none, .alloc [(.int .i64 0), (.int .i64 0), (.int .i64 0), (.int .i64 0), (.int .i64 0), (.bool false)]⟩,
    ⟨none, none, .store 6 (.t 7) (.t 13)⟩,
    ⟨some 8, none, .mov (.t 14)⟩]
    [0, 1, 2, 7, 8])
  (.seq (.block 0
    (.seq (.region [⟨some 16, none, .mov (.t 8)⟩,
      ⟨some 17, none, .bin .neq (.t 16) (.c (.int .i64 0))⟩,
      ⟨some 15, none, .mov (.t 17)⟩]
      [0, 1, 2, 7, 8, 15])
    (.cond (.t 15)
      (.seq (.region [⟨some 18, none, .mov (.t 8)⟩,
        ⟨some 6, none, .mov (.t 18)⟩]
        [6])
      .ret)
      (.seq (.region [⟨some 20, none, .mov (.t 2)⟩,
        ⟨some 21, none, .call F.roster_weight [.t 20]⟩,
        ⟨some 22, none, .un .not (.t 21)⟩,
        ⟨some 19, none, .mov (.t 22)⟩]
        [0, 1, 2, 7, 19])
      (.cond (.t 19)
        (.seq (.region [⟨some 6, none, .mov (.c (.int .i64 22))⟩]
          [6])
        .ret)
        .skip)))) [0, 1, 2, 7])
  (.seq (.region [⟨some 23, none, .mov (.t 2)⟩,
    ⟨some 24, none, .fieldAddr 3 (.t 7)⟩,
    ⟨none, none, .store 1 (.t 24) (.t 23)⟩]
    [0, 1, 7])
  (.seq (.drawn [⟨some 25, none, .mov (.t 0)⟩,
    ⟨some 26, none, .nilchk (.t 25)⟩,
    ⟨some 27, none, .fieldAddr 1 (.t 26)⟩,
    ⟨some 28, none, .load false 1 (.t 27)⟩,
    ⟨some 29, none, .mov (.t 1)⟩,
    ⟨some 30, none, .load true 6 (.t 7)⟩,
    ⟨none, none, .upd .int (.t 28) (.t 29) (.t 30)⟩]
    [[], [0], [1], [2], [], [], [3, 4, 5, 0, 1, 2, 3, 4, 5]]
    [(0, []), (1, []), (2, []), (4, []), (3, []), (5, []), (6, [])]
    [[], [0], [0, 1], [0, 1, 2], [], [], [0, 1, 2, 3, 4, 5]]
    [])
  (.seq (.region [⟨some 6, none, .mov (.c (.int .i64 0))⟩]
    [6])
  .ret))))))⟩

def RC.roster_Roster_Limit : RFn := ⟨3, [.slot 6],
  (.seq (.region [⟨some 6, none, .mov (.c (.int .i64 0))⟩]
    [0, 1, 2])
  (.seq (.region [⟨some 10, none, .mov (.t 0)⟩,
    ⟨some 11, none, .mov (.t 1)⟩,
    ⟨some 12, none, .call F.roster_Roster_member [.t 10, .t 11, .c (.bool true)]⟩,
    ⟨some 9, none, .mov (.t 12)⟩,
    ⟨some 13, none, .ext 0 (.t 9)⟩,
    ⟨some 14, none, .ext 1 (.t 9)⟩,
    ⟨some 7, none, .alloc [(.int .i64 0), (.int .i64 0), (.int .i64 0), (.int .i64 0), (.int .i64 0), (.bool false)]⟩,
    ⟨none, none, .store 6 (.t 7) (.t 13)⟩,
    ⟨some 8, none, .mov (.t 14)⟩]
    [0, 1, 2, 7, 8])
  (.seq (.block 0
    (.seq (.region [⟨some 16, none, .mov (.t 8)⟩,
      ⟨some 17, none, .bin .neq (.t 16) (.c (.int .i64 0))⟩,
      ⟨some 15, none, .mov (.t 17)⟩]
      [0, 1, 2, 7, 8, 15])
    (.cond (.t 15)
      (.seq (.region [⟨some 18, none, .mov (.t 8)⟩,
        ⟨some 6, none, .mov (.t 18)⟩]
        [6])
      .ret)
      (.seq (.region [⟨some 20, none, .mov (.t 2)⟩,
        ⟨some 21, none, .bin .lss (.t 20) (.c (.int .i64 0))⟩,
        ⟨some 22, none, .mov (.t 21)⟩,
        ⟨some 23, some (22, false), .mov (.t 2)⟩,
        ⟨some 24, some (22, false), .mov (.t 0)⟩,
        ⟨some 25, some (22, false), .nilchk (.t 24)⟩,
        ⟨some 26, some (22, false), .fieldAddr 0 (.t 25)⟩,
        ⟨some 27, some (22, false), .load false 1 (.t 26)⟩,
        ⟨some 28, some (22, false), .bin .gtr (.t 23) (.t 27)⟩,
        ⟨some 29, none, .pick (.t 22) (.c (.bool true)) (.t 28)⟩,
        ⟨some 19, none, .mov (.t 29)⟩]
        [0, 1, 2, 7, 19])
      (.cond (.t 19)
        (.seq (.region [⟨some 6, none, .mov (.c (.int .i64 23))⟩]
          [6])
        .ret)
        .skip)))) [0, 1, 2, 7])
  (.seq (.region [⟨some 30, none, .mov (.t 2)⟩,
    ⟨some 31, none, .fieldAddr 4 (.t 7)⟩,
    ⟨none, none, .store 1 (.t 31) (.t 30)⟩]
    [0, 1, 7])
  (.seq (.drawn [⟨some 32, none, .mov (.t 0)⟩,
    ⟨some 33, none, .nilchk (.t 32)⟩,
    ⟨some 34, none, .fieldAddr 1 (.t 33)⟩,
    ⟨some 35, none, .load false 1 (.t 34)⟩,
    ⟨some 36, none, .mov (.t 1)⟩,
    ⟨some 37, none, .load true 6 (.t 7)⟩,
    ⟨none, none, .upd .int (.t 35) (.t 36) (.t 37)⟩]
    [[], [0], [1], [2], [], [], [3, 4, 5, 0, 1, 2, 3, 4, 5]]
    [(0, []), (1, []), (2, []), (4, []), (3, []), (5, []), (6, [])]
    [[], [0], [0, 1], [0, 1, 2], [], [], [0, 1, 2, 3, 4, 5]]
    [])
  (.seq (.region [⟨some 6, none, .mov (.c (.int .i64 0))⟩]
    [6])
  .ret))))))⟩

def RC.roster_Roster_Move : RFn := ⟨3, [.slot 6],
  (.seq (.region [⟨some 6, none, .mov (.c (.int .i64 0))⟩]
    [0, 1, 2])
  (.seq (.region [⟨some 11, none, .mov (.t 0)⟩,
    ⟨some 12, none, .mov (.t 1)⟩,
    ⟨some 13, none, .call F.roster_Roster_member [.t 11, .t 12, .c (.bool true)]⟩,
    ⟨some 10, none, .mov (.t 13)⟩,
    ⟨some 14, none, .ext 0 (.t 10)⟩,
    ⟨some 15, none, .ext 1 (.t 10)⟩,
    ⟨some 7, none, .alloc [(.int .i64 0), (.int .i64 0), (.int .i64 0), (.int .i64 0), (.int .i64 0), (.bool false)]⟩,
    ⟨none, none, .store 6 (.t 7) (.t 14)⟩,
    ⟨some 8, none, .mov (.t 15)⟩]
    [0, 1, 2, 7, 8])
  (.seq (.seq (.region [⟨some 16, none, .mov (.t 8)⟩,
    ⟨some 17, none, .bin .neq (.t 16) (.c (.int .i64 0))⟩]
    [0, 1, 2, 7, 8, 17])
  (.cond (.t 17)
    (.seq (.region [⟨some 18, none, .mov (.t 8)⟩,
      ⟨some 6, none, .mov (.t 18)⟩]
      [6])
    .ret)
    .skip))
  (.seq (.region [⟨some 20, none, .mov (.t 0)⟩,
    ⟨some 21, none, .mov (.t 2)⟩,
    ⟨some 22, none, .call F.roster_Roster_group [.t 20, .t 21]⟩,
    ⟨some 19, none, .mov (.t 22)⟩,
    ⟨some 23, none, .ext 0 (.t 19)⟩,
    ⟨some 24, none, .ext 1 (.t 19)⟩,
    ⟨some 9, none, .alloc [(.int .i64 0), (.int .i64 0), (.int .i64 0)]⟩,
    ⟨none, none, .store 3 (.t 9) (.t 23)⟩,
    ⟨some 8, none, .mov (.t 24)⟩]
    [0, 1, 2, 7, 8, 9])
  (.seq (.block 0
    (.seq (.region [⟨some 26, none, .mov (.t 8)⟩,
      ⟨some 27, none, .bin .neq (.t 26) (.c (.int .i64 0))⟩,
      ⟨some 25, none, .mov (.t 27)⟩]
      [0, 1, 2, 7, 8, 9, 25])
    (.cond (.t 25)
      (.seq (.region [⟨some 28, none, .mov (.t 8)⟩,
        ⟨some 6, none, .mov (.t 28)⟩]
        [6])
      .ret)
      (.seq (.region [⟨some 30, none, .fieldAddr 1 (.t 7)⟩,
        ⟨some 31, none, .load false 1 (.t 30)⟩,
        ⟨some 32, none, .mov (.t 2)⟩,
        ⟨some 33, none, .bin .eql (.t 31) (.t 32)⟩,
        ⟨some 29, none, .mov (.t 33)⟩]
        [0, 1, 2, 7, 9, 29])
      (.cond (.t 29)
        (.seq (.region [⟨some 6, none, .mov (.c (.int .i64 15))⟩]
          [6])
        .ret)
        (.seq (.region [⟨some 35, none, .fieldAddr 2 (.t 9)⟩,
          ⟨some 36, none, .load false 1 (.t 35)⟩,
          ⟨some 37, none, .bin .geq (.t 36) (.c (.int .i64 32))⟩,
          ⟨some 34, none, .mov (.t 37)⟩]
          [0, 1, 2, 7, 34])
        (.cond (.t 34)
          (.seq (.region [⟨some 6, none, .mov (.c (.int .i64 13))⟩]
            [6])
          .ret)
          .skip)))))) [0, 1, 2, 7])
  (.seq (.region [⟨some 38, none, .mov (.t 0)⟩,
    ⟨some 39, none, .fieldAddr 1 (.t 7)⟩,
    ⟨some 40, none, .load false 1 (.t 39)⟩,
    ⟨some 41, none, .call F.roster_Roster_count [.t 38, .t 40, .c (.int .i64 (-1))]⟩]
    [0, 1, 2, 7])
  (.seq (.region [⟨some 42, none, .mov (.t 0)⟩,
    ⟨some 43, none, .mov (.t 2)⟩,
    ⟨some 44, none, .call F.roster_Roster_count [.t 42, .t 43, .c (.int .i64 1)]⟩]
    [0, 1, 2, 7])
  (.seq (.region [⟨some 45, none, .mov (.t 2)⟩,
    ⟨some 46, none, .fieldAddr 1 (.t 7)⟩,
    ⟨none, none, .store 1 (.t 46) (.t 45)⟩]
    [0, 1, 7])
  (.seq (.drawn [⟨some 47, none, .mov (.t 0)⟩,
    ⟨some 48, none, .nilchk (.t 47)⟩,
    ⟨some 49, none, .fieldAddr 1 (.t 48)⟩,
    ⟨some 50, none, .load false 1 (.t 49)⟩,
    ⟨some 51, none, .mov (.t 1)⟩,
    ⟨some 52, none, .load true 6 (.t 7)⟩,
    ⟨none, none, .upd .int (.t 50) (.t 51) (.t 52)⟩]
    [[], [0], [1], [2], [], [], [3, 4, 5, 0, 1, 2, 3, 4, 5]]
    [(0, []), (1, []), (2, []), (4, []), (3, []), (5, []), (6, [])]
    [[], [0], [0, 1], [0, 1, 2], [], [], [0, 1, 2, 3, 4, 5]]
    [])
  (.seq (.region [⟨some 6, none, .mov (.c (.int .i64 0))⟩]
    [6])
  .ret))))))))))⟩

def RC.maps_Keys_map_int_roster_Group_int_roster_Group : RFn := ⟨1, [.slot 2],
  (.seq (.region [⟨some 1, none, .box (.t 0)⟩,
    ⟨some 2, none, .mov (.c .nilFunc)⟩]
    [1])
  (.seq (.region [⟨some 3, none, .mkfn (.func F.maps_Keys_map_int_roster_Group_int_roster_Group_1) [] [.t 1]⟩,
    ⟨some 2, none, .mov (.t 3)⟩]
    [2])
  .ret))⟩

def RC.roster_Roster_one : RFn := ⟨2, [.cell 4 true 6, .slot 5],
  (.seq (.region [⟨some 4, none, .alloc [(.int .i64 0), (.int .i64 0), (.int .i64 0), (.int .i64 0), (.int .i64 0), (.bool false)]⟩,
    ⟨some 5, none, .mov (.c (.int .i64 0))⟩]
    [0, 1, 4])
  (.seq (.seq (.region [⟨some 8, none, .mov (.t 0)⟩,
    ⟨some 9, none, .call F.roster_Roster_none [.t 8]⟩]
    [0, 1, 4, 9])
  (.cond (.t 9)
    (.seq (.region [⟨some 10, none, .build [(.int .i64 0), (.int .i64 0), (.int .i64 0), (.int .i64 0), (.int .i64 0), (.bool false)] []⟩,
      ⟨none, none, .store 6 (.t 4) (.t 10)⟩,
      ⟨some 5, none, .mov (.c (.int .i64 2))⟩]
      [4, 5])
    .ret)
    .skip))
  (.seq (.region [⟨some 12, none, .mov (.t 0)⟩,
    ⟨some 13, none, .nilchk (.t 12)⟩,
    ⟨some 14, none, .fieldAddr 1 (.t 13)⟩,
    ⟨some 15, none, .load false 1 (.t 14)⟩,
    ⟨some 16, none, .mov (.t 1)⟩,
    ⟨some 17, none, .look .int (.agg #[(.int .i64 0), (.int .i64 0), (.int .i64 0), (.int .i64 0), (.int .i64 0), (.bool false)]) true (.t 15) (.t 16)⟩,
    ⟨some 11, none, .mov (.t 17)⟩,
    ⟨some 18, none, .ext 0 (.t 11)⟩,
    ⟨some 19, none, .ext 1 (.t 11)⟩,
    ⟨some 6, none, .alloc [(.int .i64 0), (.int .i64 0), (.int .i64 0), (.int .i64 0), (.int .i64 0), (.bool false)]⟩,
    ⟨none, none, .store 6 (.t 6) (.t 18)⟩,
    ⟨some 7, none, .mov (.t 19)⟩]
    [4, 6, 7])
  (.seq (.seq (.region [⟨some 20, none, .mov (.t 7)⟩,
    ⟨some 21, none, .un .not (.t 20)⟩]
    [4, 6, 21])
  (.cond (.t 21)
    (.seq (.region [⟨some 22, none, .build [(.int .i64 0), (.int .i64 0), (.int .i64 0), (.int .i64 0), (.int .i64 0), (.bool false)] []⟩,
      ⟨none, none, .store 6 (.t 4) (.t 22)⟩,
      ⟨some 5, none, .mov (.c (.int .i64 10))⟩]
      [4, 5])
    .ret)
    .skip))
  (.seq (.region [⟨some 23, none, .load true 6 (.t 6)⟩,
    ⟨none, none, .store 6 (.t 4) (.t 23)⟩,
    ⟨some 5, none, .mov (.c (.int .i64 0))⟩]
    [4, 5])
  .ret)))))⟩

def RC.maps_Clone_map_int_roster_Task_int_roster_Task : RFn := ⟨1, [.slot 2],
  (.seq (.region [⟨some 2, none, .mov (.c (.map none))⟩]
    [0])
  (.seq (.seq (.region [⟨some 3, none, .mov (.t 0)⟩,
    ⟨some 4, none, .eq false .map (.t 3) (.c (.map none))⟩]
    [0, 4])
  (.cond (.t 4)
    (.seq (.region [⟨some 2, none, .mov (.c (.map none))⟩]
      [2])
    .ret)
    .skip))
  (.seq (.region [⟨some 5, none, .mov (.t 0)⟩,
    ⟨some 6, none, .stop⟩,
    ⟨some 7, none, .call F.maps_clone [.t 6]⟩,
    ⟨some 8, none, .stop⟩,
    ⟨some 2, none, .mov (.t 8)⟩]
    [2])
  .ret)))⟩

def RC.maps_Clone_map_int_roster_Group_int_roster_Group : RFn := ⟨1, [.slot 2],
  (.seq (.region [⟨some 2, none, .mov (.c (.map none))⟩]
    [0])
  (.seq (.seq (.region [⟨some 3, none, .mov (.t 0)⟩,
    ⟨some 4, none, .eq false .map (.t 3) (.c (.map none))⟩]
    [0, 4])
  (.cond (.t 4)
    (.seq (.region [⟨some 2, none, .mov (.c (.map none))⟩]
      [2])
    .ret)
    .skip))
  (.seq (.region [⟨some 5, none, .mov (.t 0)⟩,
    ⟨some 6, none, .stop⟩,
    ⟨some 7, none, .call F.maps_clone [.t 6]⟩,
    ⟨some 8, none, .stop⟩,
    ⟨some 2, none, .mov (.t 8)⟩]
    [2])
  .ret)))⟩

def RB.order_Total_1 : RCode :=
  (.seq (.region [⟨some 12, none, .bin .lss (.t 11) (.t 10)⟩]
    [4, 9, 10, 11, 12])
  (.seq (.cond (.t 12)
    .skip
    (.exit 0))
  (.seq (.block 1
    (.seq (.region [⟨some 13, none, .idxS 2 (.t 9) (.t 11)⟩,
      ⟨some 14, none, .load true 2 (.t 13)⟩,
      ⟨some 6, none, .alloc [(.int .i64 0), (.int .i64 0)]⟩,
      ⟨none, none, .store 2 (.t 6) (.t 14)⟩]
      [4, 6, 9, 10, 11])
    (.seq (.region [⟨some 16, none, .mov (.t 4)⟩,
      ⟨some 17, none, .fieldAddr 1 (.t 6)⟩,
      ⟨some 18, none, .load false 1 (.t 17)⟩,
      ⟨some 19, none, .call F.fixq_Add [.t 16, .t 18]⟩,
      ⟨some 15, none, .mov (.t 19)⟩,
      ⟨some 20, none, .ext 0 (.t 15)⟩,
      ⟨some 21, none, .ext 1 (.t 15)⟩,
      ⟨some 7, none, .mov (.t 20)⟩,
      ⟨some 8, none, .mov (.t 21)⟩]
      [7, 8, 9, 10, 11])
    (.seq (.seq (.region [⟨some 22, none, .mov (.t 8)⟩,
      ⟨some 23, none, .bin .neq (.t 22) (.c (.int .i64 0))⟩]
      [7, 8, 9, 10, 11, 23])
    (.cond (.t 23)
      (.seq (.region [⟨some 24, none, .mov (.t 8)⟩,
        ⟨some 2, none, .mov (.c (.int .i64 0))⟩,
        ⟨some 3, none, .mov (.t 24)⟩]
        [2, 3])
      .ret)
      .skip))
    (.region [⟨some 25, none, .mov (.t 7)⟩,
      ⟨some 4, none, .mov (.t 25)⟩]
      [4, 9, 10, 11])))) [4, 9, 10, 11])
  (.region [⟨some 26, none, .bin .add (.t 11) (.c (.int .i64 1))⟩,
    ⟨some 11, none, .mov (.t 26)⟩]
    [4, 9, 10, 11]))))
def RC.order_Total : RFn := ⟨1, [.slot 2, .slot 3],
  (.seq (.region [⟨some 2, none, .mov (.c (.int .i64 0))⟩,
    ⟨some 3, none, .mov (.c (.int .i64 0))⟩]
    [0])
  (.seq (.region [⟨some 4, none, .mov (.c (.int .i64 0))⟩]
    [0, 4])
  (.seq (.seq (.region [⟨some 9, none, .mov (.t 0)⟩,
    ⟨some 10, none, .len (.t 9)⟩,
    ⟨some 11, none, .mov (.c (.int .i64 0))⟩]
    [4, 9, 10, 11])
  (.block 0
    (.loop [4, 9, 10, 11] RB.order_Total_1) [4]))
  (.seq (.region [⟨some 27, none, .mov (.t 4)⟩,
    ⟨some 2, none, .mov (.t 27)⟩,
    ⟨some 3, none, .mov (.c (.int .i64 0))⟩]
    [2, 3])
  .ret))))⟩

def RB.maps_Keys_map_int_roster_Task_int_roster_Task_1_1 : RCode :=
  (.seq (.region [⟨some 6, none, .stop⟩,
    ⟨some 7, none, .ext 0 (.t 6)⟩]
    [0, 7])
  (.seq (.cond (.t 7)
    .skip
    (.exit 0))
  (.block 1
    (.seq (.region [⟨some 8, none, .stop⟩,
      ⟨some 9, none, .ext 0 (.t 8)⟩,
      ⟨some 3, none, .mov (.t 9)⟩]
      [0, 3])
    (.seq (.region [⟨some 10, none, .mov (.t 0)⟩,
      ⟨some 11, none, .mov (.t 3)⟩,
      ⟨some 12, none, .callv (.t 10) [.t 11]⟩,
      ⟨some 13, none, .un .not (.t 12)⟩]
      [0, 13])
    (.cond (.t 13)
      .ret
      .skip))) [0])))
def RC.maps_Keys_map_int_roster_Task_int_roster_Task_1 : RFn := ⟨2, [],
  (.seq (.region [⟨some 4, none, .load false 1 (.t 1)⟩,
    ⟨some 5, none, .stop⟩]
    [0])
  (.block 0
    (.loop [0] RB.maps_Keys_map_int_roster_Task_int_roster_Task_1_1) []))⟩

def RC.roster_Roster_member : RFn := ⟨3, [.cell 6 true 6, .slot 7],
  (.seq (.region [⟨some 6, none, .alloc [(.int .i64 0), (.int .i64 0), (.int .i64 0), (.int .i64 0), (.int .i64 0), (.bool false)]⟩,
    ⟨some 7, none, .mov (.c (.int .i64 0))⟩]
    [0, 1, 2, 6])
  (.seq (.region [⟨some 11, none, .mov (.t 0)⟩,
    ⟨some 12, none, .mov (.t 1)⟩,
    ⟨some 13, none, .call F.roster_Roster_one [.t 11, .t 12]⟩,
    ⟨some 10, none, .mov (.t 13)⟩,
    ⟨some 14, none, .ext 0 (.t 10)⟩,
    ⟨some 15, none, .ext 1 (.t 10)⟩,
    ⟨some 8, none, .alloc [(.int .i64 0), (.int .i64 0), (.int .i64 0), (.int .i64 0), (.int .i64 0), (.bool false)]⟩,
    ⟨none, none, .store 6 (.t 8) (.t 14)⟩,
    ⟨some 9, none, .mov (.t 15)⟩]
    [2, 6, 8, 9])
  (.seq (.seq (.region [⟨some 16, none, .mov (.t 9)⟩,
    ⟨some 17, none, .bin .eql (.t 16) (.c (.int .i64 0))⟩,
    ⟨some 18, none, .mov (.t 17)⟩,
    ⟨some 19, some (18, true), .fieldAddr 1 (.t 8)⟩,
    ⟨some 20, some (18, true), .load false 1 (.t 19)⟩,
    ⟨some 21, some (18, true), .bin .neq (.t 20) (.c (.int .i64 0))⟩,
    ⟨some 22, some (18, true), .mov (.t 2)⟩,
    ⟨some 23, some (18, true), .eq true .bool (.t 21) (.t 22)⟩,
    ⟨some 24, none, .pick (.t 18) (.t 23) (.c (.bool false))⟩]
    [6, 8, 9, 24])
  (.cond (.t 24)
    (.seq (.region [⟨some 25, none, .build [(.int .i64 0), (.int .i64 0), (.int .i64 0), (.int .i64 0), (.int .i64 0), (.bool false)] []⟩,
      ⟨none, none, .store 6 (.t 6) (.t 25)⟩,
      ⟨some 7, none, .mov (.c (.int .i64 14))⟩]
      [6, 7])
    .ret)
    .skip))
  (.seq (.region [⟨some 26, none, .load true 6 (.t 8)⟩,
    ⟨some 27, none, .mov (.t 9)⟩,
    ⟨none, none, .store 6 (.t 6) (.t 26)⟩,
    ⟨some 7, none, .mov (.t 27)⟩]
    [6, 7])
  .ret))))⟩

def RC.roster_Roster_off : RFn := ⟨3, [.slot 6],
  (.seq (.region [⟨some 6, none, .mov (.c (.int .i64 0))⟩]
    [0, 1, 2])
  (.seq (.region [⟨some 10, none, .mov (.t 0)⟩,
    ⟨some 11, none, .mov (.t 1)⟩,
    ⟨some 12, none, .call F.roster_Roster_one [.t 10, .t 11]⟩,
    ⟨some 9, none, .mov (.t 12)⟩,
    ⟨some 13, none, .ext 0 (.t 9)⟩,
    ⟨some 14, none, .ext 1 (.t 9)⟩,
    ⟨some 7, none, .alloc [(.int .i64 0), (.int .i64 0), (.int .i64 0), (.int .i64 0), (.int .i64 0), (.bool false)]⟩,
    ⟨none, none, .store 6 (.t 7) (.t 13)⟩,
    ⟨some 8, none, .mov (.t 14)⟩]
    [0, 1, 2, 7, 8])
  (.seq (.block 0
    (.seq (.region [⟨some 16, none, .mov (.t 8)⟩,
      ⟨some 17, none, .bin .neq (.t 16) (.c (.int .i64 0))⟩,
      ⟨some 15, none, .mov (.t 17)⟩]
      [0, 1, 2, 7, 8, 15])
    (.cond (.t 15)
      (.seq (.region [⟨some 18, none, .mov (.t 8)⟩,
        ⟨some 6, none, .mov (.t 18)⟩]
        [6])
      .ret)
      (.seq (.region [⟨some 20, none, .fieldAddr 5 (.t 7)⟩,
        ⟨some 21, none, .load false 1 (.t 20)⟩,
        ⟨some 22, none, .mov (.t 2)⟩,
        ⟨some 23, none, .eq false .bool (.t 21) (.t 22)⟩,
        ⟨some 19, none, .mov (.t 23)⟩]
        [0, 1, 2, 7, 19])
      (.cond (.t 19)
        (.seq (.region [⟨some 6, none, .mov (.c (.int .i64 15))⟩]
          [6])
        .ret)
        .skip)))) [0, 1, 2, 7])
  (.seq (.region [⟨some 24, none, .mov (.t 2)⟩,
    ⟨some 25, none, .fieldAddr 5 (.t 7)⟩,
    ⟨none, none, .store 1 (.t 25) (.t 24)⟩]
    [0, 1, 7])
  (.seq (.drawn [⟨some 26, none, .mov (.t 0)⟩,
    ⟨some 27, none, .nilchk (.t 26)⟩,
    ⟨some 28, none, .fieldAddr 1 (.t 27)⟩,
    ⟨some 29, none, .load false 1 (.t 28)⟩,
    ⟨some 30, none, .mov (.t 1)⟩,
    ⟨some 31, none, .load true 6 (.t 7)⟩,
    ⟨none, none, .upd .int (.t 29) (.t 30) (.t 31)⟩]
    [[], [0], [1], [2], [], [], [3, 4, 5, 0, 1, 2, 3, 4, 5]]
    [(0, []), (1, []), (2, []), (4, []), (3, []), (5, []), (6, [])]
    [[], [0], [0, 1], [0, 1, 2], [], [], [0, 1, 2, 3, 4, 5]]
    [])
  (.seq (.region [⟨some 6, none, .mov (.c (.int .i64 0))⟩]
    [6])
  .ret))))))⟩

def RB.maps_Keys_map_int_roster_Group_int_roster_Group_1_1 : RCode :=
  (.seq (.region [⟨some 6, none, .stop⟩,
    ⟨some 7, none, .ext 0 (.t 6)⟩]
    [0, 7])
  (.seq (.cond (.t 7)
    .skip
    (.exit 0))
  (.block 1
    (.seq (.region [⟨some 8, none, .stop⟩,
      ⟨some 9, none, .ext 0 (.t 8)⟩,
      ⟨some 3, none, .mov (.t 9)⟩]
      [0, 3])
    (.seq (.region [⟨some 10, none, .mov (.t 0)⟩,
      ⟨some 11, none, .mov (.t 3)⟩,
      ⟨some 12, none, .callv (.t 10) [.t 11]⟩,
      ⟨some 13, none, .un .not (.t 12)⟩]
      [0, 13])
    (.cond (.t 13)
      .ret
      .skip))) [0])))
def RC.maps_Keys_map_int_roster_Group_int_roster_Group_1 : RFn := ⟨2, [],
  (.seq (.region [⟨some 4, none, .load false 1 (.t 1)⟩,
    ⟨some 5, none, .stop⟩]
    [0])
  (.block 0
    (.loop [0] RB.maps_Keys_map_int_roster_Group_int_roster_Group_1_1) []))⟩

def RC.fixq_Add : RFn := ⟨2, [.slot 4, .slot 5],
  (.seq (.region [⟨some 4, none, .mov (.c (.int .i64 0))⟩,
    ⟨some 5, none, .mov (.c (.int .i64 0))⟩]
    [0, 1])
  (.seq (.region [⟨some 7, none, .mov (.t 0)⟩,
    ⟨some 8, none, .mov (.t 1)⟩,
    ⟨some 9, none, .bin .add (.t 7) (.t 8)⟩,
    ⟨some 6, none, .mov (.t 9)⟩]
    [0, 1, 6])
  (.seq (.seq (.region [⟨some 10, none, .mov (.t 0)⟩,
    ⟨some 11, none, .bin .geq (.t 10) (.c (.int .i64 0))⟩,
    ⟨some 12, none, .mov (.t 1)⟩,
    ⟨some 13, none, .bin .geq (.t 12) (.c (.int .i64 0))⟩,
    ⟨some 14, none, .eq false .bool (.t 11) (.t 13)⟩,
    ⟨some 15, none, .mov (.t 14)⟩,
    ⟨some 16, some (15, true), .mov (.t 6)⟩,
    ⟨some 17, some (15, true), .bin .geq (.t 16) (.c (.int .i64 0))⟩,
    ⟨some 18, some (15, true), .mov (.t 0)⟩,
    ⟨some 19, some (15, true), .bin .geq (.t 18) (.c (.int .i64 0))⟩,
    ⟨some 20, some (15, true), .eq true .bool (.t 17) (.t 19)⟩,
    ⟨some 21, none, .pick (.t 15) (.t 20) (.c (.bool false))⟩]
    [6, 21])
  (.cond (.t 21)
    (.seq (.region [⟨some 4, none, .mov (.c (.int .i64 0))⟩,
      ⟨some 5, none, .mov (.c (.int .i64 5))⟩]
      [4, 5])
    .ret)
    .skip))
  (.seq (.region [⟨some 22, none, .mov (.t 6)⟩,
    ⟨some 4, none, .mov (.t 22)⟩,
    ⟨some 5, none, .mov (.c (.int .i64 0))⟩]
    [4, 5])
  .ret))))⟩

def tab0 : List (Nat × FEnt) := [(F.law28_RosterNobody, .rc RC.law28_RosterNobody),
  (F.roster_New, .rc RC.roster_New),
  (F.roster_Roster_Found, .rc RC.roster_Roster_Found),
  (F.roster_Roster_Enter, .rc RC.roster_Roster_Enter),
  (F.roster_Roster_Arrive, .rc RC.roster_Roster_Arrive),
  (F.roster_Roster_Tasks, .rc RC.roster_Roster_Tasks),
  (F.law28_awake, .rc RC.law28_awake),
  (F.law28_Do, .rc RC.law28_Do),
  (F.roster_Roster_Group, .rc RC.roster_Roster_Group),
  (F.roster_Roster_Groups, .rc RC.roster_Roster_Groups),
  (F.roster_Roster_Task, .rc RC.roster_Roster_Task),
  (F.roster_Roster_Fork, .rc RC.roster_Roster_Fork),
  (F.roster_Roster_Units, .rc RC.roster_Roster_Units),
  (F.roster_Roster_Total, .rc RC.roster_Roster_Total),
  (F.roster_Roster_none, .rc RC.roster_Roster_none),
  (F.order_Unit, .rc RC.order_Unit),
  (F.roster_Roster_share, .rc RC.roster_Roster_share),
  (F.roster_Roster_fresh, .rc RC.roster_Roster_fresh),
  (F.roster_Roster_group, .rc RC.roster_Roster_group),
  (F.roster_weight, .rc RC.roster_weight),
  (F.roster_Roster_count, .rc RC.roster_Roster_count),
  (F.maps_Keys_map_int_roster_Task_int_roster_Task, .rc RC.maps_Keys_map_int_roster_Task_int_roster_Task),
  (F.roster_Roster_Disband, .rc RC.roster_Roster_Disband),
  (F.roster_Roster_Reweight, .rc RC.roster_Roster_Reweight),
  (F.ref08_Same, .rc RC.ref08_Same),
  (F.roster_Roster_Depart, .rc RC.roster_Roster_Depart),
  (F.roster_Roster_Block, .rc RC.roster_Roster_Block),
  (F.roster_Roster_Wake, .rc RC.roster_Roster_Wake),
  (F.roster_Roster_Fund, .rc RC.roster_Roster_Fund),
  (F.roster_Roster_Weigh, .rc RC.roster_Roster_Weigh),
  (F.roster_Roster_Limit, .rc RC.roster_Roster_Limit),
  (F.roster_Roster_Move, .rc RC.roster_Roster_Move),
  (F.maps_Keys_map_int_roster_Group_int_roster_Group, .rc RC.maps_Keys_map_int_roster_Group_int_roster_Group),
  (F.roster_Roster_one, .rc RC.roster_Roster_one),
  (F.maps_Clone_map_int_roster_Task_int_roster_Task, .rc RC.maps_Clone_map_int_roster_Task_int_roster_Task),
  (F.maps_Clone_map_int_roster_Group_int_roster_Group, .rc RC.maps_Clone_map_int_roster_Group_int_roster_Group),
  (F.order_Total, .rc RC.order_Total),
  (F.maps_Keys_map_int_roster_Task_int_roster_Task_1, .rc RC.maps_Keys_map_int_roster_Task_int_roster_Task_1),
  (F.roster_Roster_member, .rc RC.roster_Roster_member),
  (F.roster_Roster_off, .rc RC.roster_Roster_off),
  (F.maps_Keys_map_int_roster_Group_int_roster_Group_1, .rc RC.maps_Keys_map_int_roster_Group_int_roster_Group_1),
  (F.fixq_Add, .rc RC.fixq_Add),
  (F.slices_Sorted_int, .ext X.sk)]
/-- What each number stands for. -/
def R0 : Nat → Option FEnt := lookF tab0
/-- The same, with the examples as known. -/
def tab : List (Nat × FEnt) := (F.law28_awake, .ext X.ok) :: tab0
def R : Nat → Option FEnt := lookF tab
theorem R.law28_awake : R F.law28_awake = some (.ext X.ok) := by with_unfolding_all rfl
theorem R.law28_RosterNobody : R F.law28_RosterNobody = some (.rc RC.law28_RosterNobody) := by with_unfolding_all rfl
theorem R.roster_New : R F.roster_New = some (.rc RC.roster_New) := by with_unfolding_all rfl
theorem R.roster_Roster_Found : R F.roster_Roster_Found = some (.rc RC.roster_Roster_Found) := by with_unfolding_all rfl
theorem R.roster_Roster_Enter : R F.roster_Roster_Enter = some (.rc RC.roster_Roster_Enter) := by with_unfolding_all rfl
theorem R.roster_Roster_Arrive : R F.roster_Roster_Arrive = some (.rc RC.roster_Roster_Arrive) := by with_unfolding_all rfl
theorem R.roster_Roster_Tasks : R F.roster_Roster_Tasks = some (.rc RC.roster_Roster_Tasks) := by with_unfolding_all rfl
theorem R.law28_Do : R F.law28_Do = some (.rc RC.law28_Do) := by with_unfolding_all rfl
theorem R.roster_Roster_Group : R F.roster_Roster_Group = some (.rc RC.roster_Roster_Group) := by with_unfolding_all rfl
theorem R.roster_Roster_Groups : R F.roster_Roster_Groups = some (.rc RC.roster_Roster_Groups) := by with_unfolding_all rfl
theorem R.roster_Roster_Task : R F.roster_Roster_Task = some (.rc RC.roster_Roster_Task) := by with_unfolding_all rfl
theorem R.roster_Roster_Fork : R F.roster_Roster_Fork = some (.rc RC.roster_Roster_Fork) := by with_unfolding_all rfl
theorem R.roster_Roster_Units : R F.roster_Roster_Units = some (.rc RC.roster_Roster_Units) := by with_unfolding_all rfl
theorem R.roster_Roster_Total : R F.roster_Roster_Total = some (.rc RC.roster_Roster_Total) := by with_unfolding_all rfl
theorem R.roster_Roster_none : R F.roster_Roster_none = some (.rc RC.roster_Roster_none) := by with_unfolding_all rfl
theorem R.order_Unit : R F.order_Unit = some (.rc RC.order_Unit) := by with_unfolding_all rfl
theorem R.roster_Roster_share : R F.roster_Roster_share = some (.rc RC.roster_Roster_share) := by with_unfolding_all rfl
theorem R.roster_Roster_fresh : R F.roster_Roster_fresh = some (.rc RC.roster_Roster_fresh) := by with_unfolding_all rfl
theorem R.roster_Roster_group : R F.roster_Roster_group = some (.rc RC.roster_Roster_group) := by with_unfolding_all rfl
theorem R.roster_weight : R F.roster_weight = some (.rc RC.roster_weight) := by with_unfolding_all rfl
theorem R.roster_Roster_count : R F.roster_Roster_count = some (.rc RC.roster_Roster_count) := by with_unfolding_all rfl
theorem R.maps_Keys_map_int_roster_Task_int_roster_Task : R F.maps_Keys_map_int_roster_Task_int_roster_Task = some (.rc RC.maps_Keys_map_int_roster_Task_int_roster_Task) := by with_unfolding_all rfl
theorem R.roster_Roster_Disband : R F.roster_Roster_Disband = some (.rc RC.roster_Roster_Disband) := by with_unfolding_all rfl
theorem R.roster_Roster_Reweight : R F.roster_Roster_Reweight = some (.rc RC.roster_Roster_Reweight) := by with_unfolding_all rfl
theorem R.ref08_Same : R F.ref08_Same = some (.rc RC.ref08_Same) := by with_unfolding_all rfl
theorem R.roster_Roster_Depart : R F.roster_Roster_Depart = some (.rc RC.roster_Roster_Depart) := by with_unfolding_all rfl
theorem R.roster_Roster_Block : R F.roster_Roster_Block = some (.rc RC.roster_Roster_Block) := by with_unfolding_all rfl
theorem R.roster_Roster_Wake : R F.roster_Roster_Wake = some (.rc RC.roster_Roster_Wake) := by with_unfolding_all rfl
theorem R.roster_Roster_Fund : R F.roster_Roster_Fund = some (.rc RC.roster_Roster_Fund) := by with_unfolding_all rfl
theorem R.roster_Roster_Weigh : R F.roster_Roster_Weigh = some (.rc RC.roster_Roster_Weigh) := by with_unfolding_all rfl
theorem R.roster_Roster_Limit : R F.roster_Roster_Limit = some (.rc RC.roster_Roster_Limit) := by with_unfolding_all rfl
theorem R.roster_Roster_Move : R F.roster_Roster_Move = some (.rc RC.roster_Roster_Move) := by with_unfolding_all rfl
theorem R.maps_Keys_map_int_roster_Group_int_roster_Group : R F.maps_Keys_map_int_roster_Group_int_roster_Group = some (.rc RC.maps_Keys_map_int_roster_Group_int_roster_Group) := by with_unfolding_all rfl
theorem R.roster_Roster_one : R F.roster_Roster_one = some (.rc RC.roster_Roster_one) := by with_unfolding_all rfl
theorem R.maps_Clone_map_int_roster_Task_int_roster_Task : R F.maps_Clone_map_int_roster_Task_int_roster_Task = some (.rc RC.maps_Clone_map_int_roster_Task_int_roster_Task) := by with_unfolding_all rfl
theorem R.maps_Clone_map_int_roster_Group_int_roster_Group : R F.maps_Clone_map_int_roster_Group_int_roster_Group = some (.rc RC.maps_Clone_map_int_roster_Group_int_roster_Group) := by with_unfolding_all rfl
theorem R.order_Total : R F.order_Total = some (.rc RC.order_Total) := by with_unfolding_all rfl
theorem R.maps_Keys_map_int_roster_Task_int_roster_Task_1 : R F.maps_Keys_map_int_roster_Task_int_roster_Task_1 = some (.rc RC.maps_Keys_map_int_roster_Task_int_roster_Task_1) := by with_unfolding_all rfl
theorem R.roster_Roster_member : R F.roster_Roster_member = some (.rc RC.roster_Roster_member) := by with_unfolding_all rfl
theorem R.roster_Roster_off : R F.roster_Roster_off = some (.rc RC.roster_Roster_off) := by with_unfolding_all rfl
theorem R.maps_Keys_map_int_roster_Group_int_roster_Group_1 : R F.maps_Keys_map_int_roster_Group_int_roster_Group_1 = some (.rc RC.maps_Keys_map_int_roster_Group_int_roster_Group_1) := by with_unfolding_all rfl
theorem R.fixq_Add : R F.fixq_Add = some (.rc RC.fixq_Add) := by with_unfolding_all rfl
theorem R.slices_Sorted_int : R F.slices_Sorted_int = some (.ext X.sk) := by with_unfolding_all rfl
end Go.Am


/- slices.Sorted of a map's keys, at this program: the kit's contracts laid in plain words (laykeys.py); what stands for the call. -/
namespace Go.Proofs
open Go.Shelf
def Try.keys59_ren : Go.Shelf.Ren := ⟨fun | 10 => 59 | n => n, fun | 33 => 72 | 23 => 61 | 0 => 0 | 4 => 4 | 26 => 3 | 3 => 37 | n => n, fun | n => n⟩
theorem Try.keys59 : Go.Proofs.SlLaysZI.n10 Try.prog Try.keys59_ren := {
  mixed := by kernel_rfl,
  f10 := ⟨Try.f59.name, by decide, Try.func59.trans (congrArg some (by kernel_rfl))⟩,
  t0 := Try.underlying0,
  a0 := Try.isAgg0,
  z0 := Try.sizeOf0,
  v0 := Try.zeroValue0,
  t4 := Try.underlying4,
  a4 := Try.isAgg4,
  z4 := Try.sizeOf4,
  v4 := Try.zeroValue4,
  t23 := Try.underlying61,
  a23 := Try.isAgg61,
  z23 := Try.sizeOf61,
  v23 := Try.zeroValue61,
  t26 := Try.underlying3,
  a26 := Try.isAgg3,
  z26 := Try.sizeOf3,
  v26 := Try.zeroValue3,
  t33 := Try.underlying72,
  a33 := Try.isAgg72,
  z33 := Try.sizeOf72,
  v33 := Try.zeroValue72 }
def Try.keys62_ren : Go.Shelf.Ren := ⟨fun | 10 => 62 | n => n, fun | 33 => 72 | 23 => 62 | 0 => 0 | 4 => 4 | 26 => 3 | 3 => 39 | n => n, fun | n => n⟩
theorem Try.keys62 : Go.Proofs.SlLaysZI.n10 Try.prog Try.keys62_ren := {
  mixed := by kernel_rfl,
  f10 := ⟨Try.f62.name, by decide, Try.func62.trans (congrArg some (by kernel_rfl))⟩,
  t0 := Try.underlying0,
  a0 := Try.isAgg0,
  z0 := Try.sizeOf0,
  v0 := Try.zeroValue0,
  t4 := Try.underlying4,
  a4 := Try.isAgg4,
  z4 := Try.sizeOf4,
  v4 := Try.zeroValue4,
  t23 := Try.underlying62,
  a23 := Try.isAgg62,
  z23 := Try.sizeOf62,
  v23 := Try.zeroValue62,
  t26 := Try.underlying3,
  a26 := Try.isAgg3,
  z26 := Try.sizeOf3,
  v26 := Try.zeroValue3,
  t33 := Try.underlying72,
  a33 := Try.isAgg72,
  z33 := Try.sizeOf72,
  v33 := Try.zeroValue72 }
def Try.sorted_ren : Go.Shelf.Ren := ⟨fun | 6 => 32 | 8 => 57 | 9 => 58 | 11 => 69 | 13 => 71 | 12 => 70 | 23 => 81 | 24 => 82 | 14 => 72 | 15 => 73 | 16 => 74 | 17 => 75 | 18 => 76 | 19 => 77 | 20 => 78 | 21 => 79 | 22 => 80 | 25 => 83 | 26 => 84 | 27 => 85 | 28 => 86 | 29 => 87 | 30 => 88 | 31 => 89 | n => n, fun | 26 => 3 | 28 => 80 | 24 => 77 | 0 => 0 | 3 => 3 | 37 => 107 | 48 => 118 | 50 => 120 | 4 => 4 | 40 => 110 | 39 => 109 | 45 => 115 | 5 => 5 | 9 => 9 | 51 => 121 | 55 => 125 | 57 => 127 | 58 => 128 | 33 => 72 | n => n, fun | n => n⟩
theorem Try.sorted : Go.Proofs.SlLaysZI.n6 Try.prog Try.sorted_ren := {
  mixed := by kernel_rfl,
  f6 := ⟨Try.f32.name, by decide, Try.func32.trans (congrArg some (by kernel_rfl))⟩,
  f8 := ⟨Try.f57.name, by decide, Try.func57.trans (congrArg some (by kernel_rfl))⟩,
  f11 := ⟨Try.f69.name, by decide, Try.func69.trans (congrArg some (by kernel_rfl))⟩,
  t0 := Try.underlying0,
  a0 := Try.isAgg0,
  z0 := Try.sizeOf0,
  v0 := Try.zeroValue0,
  t24 := Try.underlying77,
  a24 := Try.isAgg77,
  z24 := Try.sizeOf77,
  v24 := Try.zeroValue77,
  t26 := Try.underlying3,
  a26 := Try.isAgg3,
  z26 := Try.sizeOf3,
  v26 := Try.zeroValue3,
  t28 := Try.underlying80,
  a28 := Try.isAgg80,
  z28 := Try.sizeOf80,
  v28 := Try.zeroValue80,
  i26 := by kernel_rfl }
def Try.sort_ren : Go.Shelf.Ren := ⟨fun | 5 => 58 | 8 => 71 | 7 => 70 | 19 => 81 | 20 => 82 | 10 => 72 | 11 => 73 | 12 => 74 | 13 => 75 | 14 => 76 | 15 => 77 | 16 => 78 | 17 => 79 | 18 => 80 | 30 => 83 | 31 => 84 | 32 => 85 | 33 => 86 | 34 => 87 | 35 => 88 | 40 => 89 | n => n, fun | 23 => 77 | 25 => 3 | 3 => 3 | 32 => 107 | 22 => 77 | 0 => 0 | 44 => 118 | 46 => 120 | 4 => 4 | 36 => 110 | 35 => 109 | 41 => 115 | 5 => 5 | 9 => 9 | 53 => 121 | 57 => 125 | 63 => 127 | 64 => 128 | n => n, fun | n => n⟩
theorem Try.sort : Go.Proofs.SlLaysM.n5 Try.prog Try.sort_ren := {
  mixed := by kernel_rfl,
  f5 := ⟨Try.f58.name, by decide, Try.func58.trans (congrArg some (by kernel_rfl))⟩,
  f7 := ⟨Try.f70.name, by decide, Try.func70.trans (congrArg some (by kernel_rfl))⟩,
  f8 := Try.func71.trans (congrArg some (by kernel_rfl)),
  f10 := ⟨Try.f72.name, by decide, Try.func72.trans (congrArg some (by kernel_rfl))⟩,
  f11 := ⟨Try.f73.name, by decide, Try.func73.trans (congrArg some (by kernel_rfl))⟩,
  f12 := ⟨Try.f74.name, by decide, Try.func74.trans (congrArg some (by kernel_rfl))⟩,
  f13 := ⟨Try.f75.name, by decide, Try.func75.trans (congrArg some (by kernel_rfl))⟩,
  f14 := ⟨Try.f76.name, by decide, Try.func76.trans (congrArg some (by kernel_rfl))⟩,
  f15 := ⟨Try.f77.name, by decide, Try.func77.trans (congrArg some (by kernel_rfl))⟩,
  f16 := ⟨Try.f78.name, by decide, Try.func78.trans (congrArg some (by kernel_rfl))⟩,
  f17 := ⟨Try.f79.name, by decide, Try.func79.trans (congrArg some (by kernel_rfl))⟩,
  f18 := ⟨Try.f80.name, by decide, Try.func80.trans (congrArg some (by kernel_rfl))⟩,
  f19 := Try.func81.trans (congrArg some (by kernel_rfl)),
  f20 := Try.func82.trans (congrArg some (by kernel_rfl)),
  f30 := ⟨Try.f83.name, by decide, Try.func83.trans (congrArg some (by kernel_rfl))⟩,
  f31 := Try.func84.trans (congrArg some (by kernel_rfl)),
  f32 := Try.func85.trans (congrArg some (by kernel_rfl)),
  f33 := ⟨Try.f86.name, by decide, Try.func86.trans (congrArg some (by kernel_rfl))⟩,
  f34 := ⟨Try.f87.name, by decide, Try.func87.trans (congrArg some (by kernel_rfl))⟩,
  f35 := ⟨Try.f88.name, by decide, Try.func88.trans (congrArg some (by kernel_rfl))⟩,
  f40 := ⟨Try.f89.name, by decide, Try.func89.trans (congrArg some (by kernel_rfl))⟩,
  t0 := Try.underlying0,
  a0 := Try.isAgg0,
  z0 := Try.sizeOf0,
  v0 := Try.zeroValue0,
  t3 := Try.underlying3,
  a3 := Try.isAgg3,
  z3 := Try.sizeOf3,
  v3 := Try.zeroValue3,
  t4 := Try.underlying4,
  a4 := Try.isAgg4,
  z4 := Try.sizeOf4,
  v4 := Try.zeroValue4,
  t5 := Try.underlying5,
  a5 := Try.isAgg5,
  z5 := Try.sizeOf5,
  v5 := Try.zeroValue5,
  t9 := Try.underlying9,
  a9 := Try.isAgg9,
  z9 := Try.sizeOf9,
  v9 := Try.zeroValue9,
  t22 := Try.underlying77,
  a22 := Try.isAgg77,
  z22 := Try.sizeOf77,
  v22 := Try.zeroValue77,
  t23 := Try.underlying77,
  a23 := Try.isAgg77,
  z23 := Try.sizeOf77,
  v23 := Try.zeroValue77,
  t25 := Try.underlying3,
  a25 := Try.isAgg3,
  z25 := Try.sizeOf3,
  v25 := Try.zeroValue3,
  t32 := Try.underlying107,
  a32 := Try.isAgg107,
  z32 := Try.sizeOf107,
  v32 := Try.zeroValue107,
  t35 := Try.underlying109,
  a35 := Try.isAgg109,
  z35 := Try.sizeOf109,
  v35 := Try.zeroValue109,
  t36 := Try.underlying110,
  a36 := Try.isAgg110,
  z36 := Try.sizeOf110,
  v36 := Try.zeroValue110,
  t41 := Try.underlying115,
  a41 := Try.isAgg115,
  z41 := Try.sizeOf115,
  v41 := Try.zeroValue115,
  t44 := Try.underlying118,
  a44 := Try.isAgg118,
  z44 := Try.sizeOf118,
  v44 := Try.zeroValue118,
  t46 := Try.underlying120,
  a46 := Try.isAgg120,
  z46 := Try.sizeOf120,
  v46 := Try.zeroValue120,
  t53 := Try.underlying121,
  a53 := Try.isAgg121,
  z53 := Try.sizeOf121,
  v53 := Try.zeroValue121,
  t57 := Try.underlying125,
  a57 := Try.isAgg125,
  z57 := Try.sizeOf125,
  v57 := Try.zeroValue125,
  t63 := Try.underlying127,
  a63 := Try.isAgg127,
  z63 := Try.sizeOf127,
  v63 := Try.zeroValue127,
  t64 := Try.underlying128,
  a64 := Try.isAgg128,
  z64 := Try.sizeOf128,
  v64 := Try.zeroValue128 }
end Go.Proofs
namespace Go.Am
open Go.Proofs
theorem X.sk_sim {G : Nat → World → Prop} (args : List Value) (m : Mem) (v : Value) (m' : Mem) (h : X.sk args m = some (v, m')) : SimCall Try.prog G 32 args m v m' := by
  refine X.skeys_sim (ρs := Try.sorted_ren) (ρq := Try.sort_ren) Try.sorted Try.sort rfl (enters_of Try.func58 (by kernel_rfl) rfl) ?_ args m v m' h
  intro g hg
  simp only [List.mem_cons, List.not_mem_nil, or_false] at hg
  rcases hg with rfl | rfl
  · exact ⟨Try.keys59_ren, rfl, Try.keys59, rfl, enters_of Try.func59 (by kernel_rfl) rfl⟩
  · exact ⟨Try.keys62_ren, rfl, Try.keys62, rfl, enters_of Try.func62 (by kernel_rfl) rfl⟩
end Go.Am


/- The table of the layer roster is as the program has it. Printed by lawgen.py. -/
namespace Go.Am
open Go.Proofs
set_option maxRecDepth 100000

/-- Nothing is asked of the world. -/
def G : Nat → World → Prop := fun _ _ => True
instance : Keeps G := ⟨fun _ _ _ _ h => h⟩
instance : Rises G := ⟨fun _ _ _ _ h => h⟩
theorem hmix : Try.prog.follows .mixedOrders = true := by kernel_rfl
theorem E.law28_RosterNobody : EntOk Try.prog G F.law28_RosterNobody (.rc RC.law28_RosterNobody) := ⟨Try.f7, by unfold F.law28_RosterNobody; exact Try.func7, by kernel_rfl, by kernel_rfl⟩
theorem E.roster_New : EntOk Try.prog G F.roster_New (.rc RC.roster_New) := ⟨Try.f8, by unfold F.roster_New; exact Try.func8, by kernel_rfl, by kernel_rfl⟩
theorem E.roster_Roster_Found : EntOk Try.prog G F.roster_Roster_Found (.rc RC.roster_Roster_Found) := ⟨Try.f9, by unfold F.roster_Roster_Found; exact Try.func9, by kernel_rfl, by kernel_rfl⟩
theorem E.roster_Roster_Enter : EntOk Try.prog G F.roster_Roster_Enter (.rc RC.roster_Roster_Enter) := ⟨Try.f10, by unfold F.roster_Roster_Enter; exact Try.func10, by kernel_rfl, by kernel_rfl⟩
theorem E.roster_Roster_Arrive : EntOk Try.prog G F.roster_Roster_Arrive (.rc RC.roster_Roster_Arrive) := ⟨Try.f11, by unfold F.roster_Roster_Arrive; exact Try.func11, by kernel_rfl, by kernel_rfl⟩
theorem E.roster_Roster_Tasks : EntOk Try.prog G F.roster_Roster_Tasks (.rc RC.roster_Roster_Tasks) := ⟨Try.f12, by unfold F.roster_Roster_Tasks; exact Try.func12, by kernel_rfl, by kernel_rfl⟩
theorem E.law28_awake : EntOk Try.prog G F.law28_awake (.rc RC.law28_awake) := ⟨Try.f13, by unfold F.law28_awake; exact Try.func13, by kernel_rfl, by kernel_rfl⟩
theorem E.law28_Do : EntOk Try.prog G F.law28_Do (.rc RC.law28_Do) := ⟨Try.f14, by unfold F.law28_Do; exact Try.func14, by kernel_rfl, by kernel_rfl⟩
theorem E.roster_Roster_Group : EntOk Try.prog G F.roster_Roster_Group (.rc RC.roster_Roster_Group) := ⟨Try.f15, by unfold F.roster_Roster_Group; exact Try.func15, by kernel_rfl, by kernel_rfl⟩
theorem E.roster_Roster_Groups : EntOk Try.prog G F.roster_Roster_Groups (.rc RC.roster_Roster_Groups) := ⟨Try.f16, by unfold F.roster_Roster_Groups; exact Try.func16, by kernel_rfl, by kernel_rfl⟩
theorem E.roster_Roster_Task : EntOk Try.prog G F.roster_Roster_Task (.rc RC.roster_Roster_Task) := ⟨Try.f18, by unfold F.roster_Roster_Task; exact Try.func18, by kernel_rfl, by kernel_rfl⟩
theorem E.roster_Roster_Fork : EntOk Try.prog G F.roster_Roster_Fork (.rc RC.roster_Roster_Fork) := ⟨Try.f22, by unfold F.roster_Roster_Fork; exact Try.func22, by kernel_rfl, by kernel_rfl⟩
theorem E.roster_Roster_Units : EntOk Try.prog G F.roster_Roster_Units (.rc RC.roster_Roster_Units) := ⟨Try.f23, by unfold F.roster_Roster_Units; exact Try.func23, by kernel_rfl, by kernel_rfl⟩
theorem E.roster_Roster_Total : EntOk Try.prog G F.roster_Roster_Total (.rc RC.roster_Roster_Total) := ⟨Try.f24, by unfold F.roster_Roster_Total; exact Try.func24, by kernel_rfl, by kernel_rfl⟩
theorem E.roster_Roster_none : EntOk Try.prog G F.roster_Roster_none (.rc RC.roster_Roster_none) := ⟨Try.f25, by unfold F.roster_Roster_none; exact Try.func25, by kernel_rfl, by kernel_rfl⟩
theorem E.order_Unit : EntOk Try.prog G F.order_Unit (.rc RC.order_Unit) := ⟨Try.f26, by unfold F.order_Unit; exact Try.func26, by kernel_rfl, by kernel_rfl⟩
theorem E.roster_Roster_share : EntOk Try.prog G F.roster_Roster_share (.rc RC.roster_Roster_share) := ⟨Try.f27, by unfold F.roster_Roster_share; exact Try.func27, by kernel_rfl, by kernel_rfl⟩
theorem E.roster_Roster_fresh : EntOk Try.prog G F.roster_Roster_fresh (.rc RC.roster_Roster_fresh) := ⟨Try.f28, by unfold F.roster_Roster_fresh; exact Try.func28, by kernel_rfl, by kernel_rfl⟩
theorem E.roster_Roster_group : EntOk Try.prog G F.roster_Roster_group (.rc RC.roster_Roster_group) := ⟨Try.f29, by unfold F.roster_Roster_group; exact Try.func29, by kernel_rfl, by kernel_rfl⟩
theorem E.roster_weight : EntOk Try.prog G F.roster_weight (.rc RC.roster_weight) := ⟨Try.f30, by unfold F.roster_weight; exact Try.func30, by kernel_rfl, by kernel_rfl⟩
theorem E.roster_Roster_count : EntOk Try.prog G F.roster_Roster_count (.rc RC.roster_Roster_count) := ⟨Try.f31, by unfold F.roster_Roster_count; exact Try.func31, by kernel_rfl, by kernel_rfl⟩
theorem E.maps_Keys_map_int_roster_Task_int_roster_Task : EntOk Try.prog G F.maps_Keys_map_int_roster_Task_int_roster_Task (.rc RC.maps_Keys_map_int_roster_Task_int_roster_Task) := ⟨Try.f33, by unfold F.maps_Keys_map_int_roster_Task_int_roster_Task; exact Try.func33, by kernel_rfl, by kernel_rfl⟩
theorem E.roster_Roster_Disband : EntOk Try.prog G F.roster_Roster_Disband (.rc RC.roster_Roster_Disband) := ⟨Try.f34, by unfold F.roster_Roster_Disband; exact Try.func34, by kernel_rfl, by kernel_rfl⟩
theorem E.roster_Roster_Reweight : EntOk Try.prog G F.roster_Roster_Reweight (.rc RC.roster_Roster_Reweight) := ⟨Try.f35, by unfold F.roster_Roster_Reweight; exact Try.func35, by kernel_rfl, by kernel_rfl⟩
theorem E.ref08_Same : EntOk Try.prog G F.ref08_Same (.rc RC.ref08_Same) := ⟨Try.f36, by unfold F.ref08_Same; exact Try.func36, by kernel_rfl, by kernel_rfl⟩
theorem E.roster_Roster_Depart : EntOk Try.prog G F.roster_Roster_Depart (.rc RC.roster_Roster_Depart) := ⟨Try.f37, by unfold F.roster_Roster_Depart; exact Try.func37, by kernel_rfl, by kernel_rfl⟩
theorem E.roster_Roster_Block : EntOk Try.prog G F.roster_Roster_Block (.rc RC.roster_Roster_Block) := ⟨Try.f38, by unfold F.roster_Roster_Block; exact Try.func38, by kernel_rfl, by kernel_rfl⟩
theorem E.roster_Roster_Wake : EntOk Try.prog G F.roster_Roster_Wake (.rc RC.roster_Roster_Wake) := ⟨Try.f39, by unfold F.roster_Roster_Wake; exact Try.func39, by kernel_rfl, by kernel_rfl⟩
theorem E.roster_Roster_Fund : EntOk Try.prog G F.roster_Roster_Fund (.rc RC.roster_Roster_Fund) := ⟨Try.f40, by unfold F.roster_Roster_Fund; exact Try.func40, by kernel_rfl, by kernel_rfl⟩
theorem E.roster_Roster_Weigh : EntOk Try.prog G F.roster_Roster_Weigh (.rc RC.roster_Roster_Weigh) := ⟨Try.f41, by unfold F.roster_Roster_Weigh; exact Try.func41, by kernel_rfl, by kernel_rfl⟩
theorem E.roster_Roster_Limit : EntOk Try.prog G F.roster_Roster_Limit (.rc RC.roster_Roster_Limit) := ⟨Try.f42, by unfold F.roster_Roster_Limit; exact Try.func42, by kernel_rfl, by kernel_rfl⟩
theorem E.roster_Roster_Move : EntOk Try.prog G F.roster_Roster_Move (.rc RC.roster_Roster_Move) := ⟨Try.f43, by unfold F.roster_Roster_Move; exact Try.func43, by kernel_rfl, by kernel_rfl⟩
theorem E.maps_Keys_map_int_roster_Group_int_roster_Group : EntOk Try.prog G F.maps_Keys_map_int_roster_Group_int_roster_Group (.rc RC.maps_Keys_map_int_roster_Group_int_roster_Group) := ⟨Try.f44, by unfold F.maps_Keys_map_int_roster_Group_int_roster_Group; exact Try.func44, by kernel_rfl, by kernel_rfl⟩
theorem E.roster_Roster_one : EntOk Try.prog G F.roster_Roster_one (.rc RC.roster_Roster_one) := ⟨Try.f49, by unfold F.roster_Roster_one; exact Try.func49, by kernel_rfl, by kernel_rfl⟩
theorem E.maps_Clone_map_int_roster_Task_int_roster_Task : EntOk Try.prog G F.maps_Clone_map_int_roster_Task_int_roster_Task (.rc RC.maps_Clone_map_int_roster_Task_int_roster_Task) := ⟨Try.f54, by unfold F.maps_Clone_map_int_roster_Task_int_roster_Task; exact Try.func54, by kernel_rfl, by kernel_rfl⟩
theorem E.maps_Clone_map_int_roster_Group_int_roster_Group : EntOk Try.prog G F.maps_Clone_map_int_roster_Group_int_roster_Group (.rc RC.maps_Clone_map_int_roster_Group_int_roster_Group) := ⟨Try.f55, by unfold F.maps_Clone_map_int_roster_Group_int_roster_Group; exact Try.func55, by kernel_rfl, by kernel_rfl⟩
theorem E.order_Total : EntOk Try.prog G F.order_Total (.rc RC.order_Total) := ⟨Try.f56, by unfold F.order_Total; exact Try.func56, by kernel_rfl, by kernel_rfl⟩
theorem E.maps_Keys_map_int_roster_Task_int_roster_Task_1 : EntOk Try.prog G F.maps_Keys_map_int_roster_Task_int_roster_Task_1 (.rc RC.maps_Keys_map_int_roster_Task_int_roster_Task_1) := ⟨Try.f59, by unfold F.maps_Keys_map_int_roster_Task_int_roster_Task_1; exact Try.func59, by kernel_rfl, by kernel_rfl⟩
theorem E.roster_Roster_member : EntOk Try.prog G F.roster_Roster_member (.rc RC.roster_Roster_member) := ⟨Try.f60, by unfold F.roster_Roster_member; exact Try.func60, by kernel_rfl, by kernel_rfl⟩
theorem E.roster_Roster_off : EntOk Try.prog G F.roster_Roster_off (.rc RC.roster_Roster_off) := ⟨Try.f61, by unfold F.roster_Roster_off; exact Try.func61, by kernel_rfl, by kernel_rfl⟩
theorem E.maps_Keys_map_int_roster_Group_int_roster_Group_1 : EntOk Try.prog G F.maps_Keys_map_int_roster_Group_int_roster_Group_1 (.rc RC.maps_Keys_map_int_roster_Group_int_roster_Group_1) := ⟨Try.f62, by unfold F.maps_Keys_map_int_roster_Group_int_roster_Group_1; exact Try.func62, by kernel_rfl, by kernel_rfl⟩
theorem E.fixq_Add : EntOk Try.prog G F.fixq_Add (.rc RC.fixq_Add) := ⟨Try.f68, by unfold F.fixq_Add; exact Try.func68, by kernel_rfl, by kernel_rfl⟩
theorem E.slices_Sorted_int : EntOk Try.prog G F.slices_Sorted_int (.ext X.sk) := ⟨⟨Try.f32, by unfold F.slices_Sorted_int; exact Try.func32, by kernel_rfl, by kernel_rfl⟩, X.sk_frame, by unfold F.slices_Sorted_int; exact X.sk_sim⟩
theorem ents : EntsOk Try.prog G tab0 := ⟨E.law28_RosterNobody, E.roster_New, E.roster_Roster_Found, E.roster_Roster_Enter, E.roster_Roster_Arrive, E.roster_Roster_Tasks, E.law28_awake, E.law28_Do, E.roster_Roster_Group, E.roster_Roster_Groups, E.roster_Roster_Task, E.roster_Roster_Fork, E.roster_Roster_Units, E.roster_Roster_Total, E.roster_Roster_none, E.order_Unit, E.roster_Roster_share, E.roster_Roster_fresh, E.roster_Roster_group, E.roster_weight, E.roster_Roster_count, E.maps_Keys_map_int_roster_Task_int_roster_Task, E.roster_Roster_Disband, E.roster_Roster_Reweight, E.ref08_Same, E.roster_Roster_Depart, E.roster_Roster_Block, E.roster_Roster_Wake, E.roster_Roster_Fund, E.roster_Roster_Weigh, E.roster_Roster_Limit, E.roster_Roster_Move, E.maps_Keys_map_int_roster_Group_int_roster_Group, E.roster_Roster_one, E.maps_Clone_map_int_roster_Task_int_roster_Task, E.maps_Clone_map_int_roster_Group_int_roster_Group, E.order_Total, E.maps_Keys_map_int_roster_Task_int_roster_Task_1, E.roster_Roster_member, E.roster_Roster_off, E.maps_Keys_map_int_roster_Group_int_roster_Group_1, E.fixq_Add, E.slices_Sorted_int, trivial⟩
theorem tabOk0 : TabOk Try.prog G R0 := TabOk.of ents
theorem C.law28_awake : EntOk Try.prog G F.law28_awake (.ext X.ok) := X.ok_sim (const_sim hmix tabOk0 (n := 1000) (by kernel_rfl))
theorem tabOk : TabOk Try.prog G R := TabOk.of (l := tab) (⟨C.law28_awake, ents⟩)
end Go.Am


/- RosterNobody, run. -/
namespace Go.Am
theorem law28_RosterNobody_dead (us : List Value) (h : DdAs [(true, [.int .i64, .int .i64, .int .i64, .int .i64, .int .i64, .int .i64, .int .i64, .int .i64])] us) : ∃ n, (eFn R n F.law28_RosterNobody us memD).map Prod.fst = some (.bool true) := by
  obtain ⟨_, _, rfl, h1, h⟩ := h.one; cases h.none
  obtain ⟨cs, rfl, g0⟩ := h1.agg
  obtain ⟨_, _, rfl, k1, g1⟩ := g0.one; obtain ⟨_, _, rfl, k2, g2⟩ := g1.one; obtain ⟨_, _, rfl, k3, g3⟩ := g2.one; obtain ⟨_, _, rfl, k4, g4⟩ := g3.one
  obtain ⟨_, _, rfl, k5, g5⟩ := g4.one; obtain ⟨_, _, rfl, k6, g6⟩ := g5.one; obtain ⟨_, _, rfl, k7, g7⟩ := g6.one; obtain ⟨_, _, rfl, k8, g8⟩ := g7.one
  cases g8.none
  obtain ⟨a, rfl, -⟩ := k1.int; obtain ⟨b, rfl, -⟩ := k2.int; obtain ⟨c, rfl, -⟩ := k3.int; obtain ⟨d, rfl, -⟩ := k4.int
  obtain ⟨e, rfl, -⟩ := k5.int; obtain ⟨f, rfl, -⟩ := k6.int; obtain ⟨g, rfl, -⟩ := k7.int; obtain ⟨i, rfl, -⟩ := k8.int
  refine ⟨300, ?_⟩
  kernel_rfl
end Go.Am
