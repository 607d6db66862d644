/- Parts of the proofs of the statements of this seat: AmTabCores, AmTieCores, WCoresNobody. No conditions. -/
import Derived.Test.YtipmdcmmemnckaaPart3
import Derived.Test.YtipmdcmmemnckaaRows
set_option linter.unusedVariables false
set_option linter.unusedSimpArgs false

/- The functions of the layer cores in the form of the abstract machine. Printed by amgen.py. -/
set_option linter.unusedVariables false
namespace Go.Am

@[irreducible] def F.law27_CoresPlay : Nat := 3
@[irreducible] def F.law27_CoresNever : Nat := 4
@[irreducible] def F.law27_CoresTwo : Nat := 5
@[irreducible] def F.law27_CoresNobody : Nat := 6
@[irreducible] def F.cores_New : Nat := 7
@[irreducible] def F.law27_awake : Nat := 8
@[irreducible] def F.ref27_New : Nat := 9
@[irreducible] def F.law27_step : Nat := 10
@[irreducible] def F.cores_Set_State : Nat := 11
@[irreducible] def F.cores_Set_Len : Nat := 12
@[irreducible] def F.cores_Set_In : Nat := 13
@[irreducible] def F.ref27_Bits : Nat := 14
@[irreducible] def F.cores_Set_Count : Nat := 15
@[irreducible] def F.ref27_Count : Nat := 16
@[irreducible] def F.cores_Set_Unplug : Nat := 17
@[irreducible] def F.cores_Set_Turn : Nat := 18
@[irreducible] def F.cores_Set_Plug : Nat := 19
@[irreducible] def F.cores_Set_Fork : Nat := 20
@[irreducible] def F.slices_Repeat_int_int : Nat := 21
@[irreducible] def F.ref27_Plug : Nat := 22
@[irreducible] def F.ref27_Unplug : Nat := 23
@[irreducible] def F.ref27_Turn : Nat := 24
@[irreducible] def F.slices_Contains_int_int : Nat := 25
@[irreducible] def F.math_bits_OnesCount32 : Nat := 26
@[irreducible] def F.cores_Set_change : Nat := 27
@[irreducible] def F.slices_Clone_int_int : Nat := 28
@[irreducible] def F.math_bits_Mul : Nat := 29
@[irreducible] def F.ref27_with : Nat := 30
@[irreducible] def F.slices_Index_int_int : Nat := 31
@[irreducible] def F.math_bits_Mul32 : Nat := 32
@[irreducible] def F.math_bits_Mul64 : Nat := 33

def RC.law27_CoresPlay : RFn := ⟨3, [.slot 6],
  (.seq (.region [⟨some 6, none, .mov (.c (.bool false))⟩]
    [0, 1, 2])
  (.seq (.region [⟨some 18, none, .mov (.t 0)⟩,
    ⟨some 19, none, .call F.cores_New [.t 18]⟩,
    ⟨some 17, none, .mov (.t 19)⟩,
    ⟨some 20, none, .ext 0 (.t 17)⟩,
    ⟨some 21, none, .ext 1 (.t 17)⟩,
    ⟨some 7, none, .mov (.t 20)⟩,
    ⟨some 8, none, .mov (.t 21)⟩]
    [0, 1, 2, 7, 8])
  (.seq (.seq (.region [⟨some 22, none, .mov (.t 0)⟩,
    ⟨some 23, none, .bin .lss (.t 22) (.c (.int .i64 1))⟩,
    ⟨some 24, none, .mov (.t 23)⟩,
    ⟨some 25, some (24, false), .mov (.t 0)⟩,
    ⟨some 26, some (24, false), .bin .gtr (.t 25) (.c (.int .i64 16))⟩,
    ⟨some 27, none, .pick (.t 24) (.c (.bool true)) (.t 26)⟩]
    [0, 1, 2, 7, 8, 27])
  (.cond (.t 27)
    (.seq (.region [⟨some 28, none, .mov (.t 7)⟩,
      ⟨some 29, none, .eq false .ptr (.t 28) (.c (.pointer none))⟩,
      ⟨some 30, none, .mov (.t 29)⟩,
      ⟨some 31, some (30, true), .mov (.t 8)⟩,
      ⟨some 32, some (30, true), .bin .eql (.t 31) (.c (.int .i64 1))⟩,
      ⟨some 33, none, .pick (.t 30) (.t 32) (.c (.bool false))⟩,
      ⟨some 34, none, .mov (.t 33)⟩,
      ⟨some 35, some (34, true), .call F.law27_awake []⟩,
      ⟨some 36, none, .pick (.t 34) (.t 35) (.c (.bool false))⟩,
      ⟨some 6, none, .mov (.t 36)⟩]
      [6])
    .ret)
    .skip))
  (.seq (.seq (.region [⟨some 37, none, .mov (.t 8)⟩,
    ⟨some 38, none, .bin .neq (.t 37) (.c (.int .i64 0))⟩,
    ⟨some 39, none, .mov (.t 38)⟩,
    ⟨some 40, some (39, false), .mov (.t 7)⟩,
    ⟨some 41, some (39, false), .eq false .ptr (.t 40) (.c (.pointer none))⟩,
    ⟨some 42, none, .pick (.t 39) (.c (.bool true)) (.t 41)⟩]
    [0, 1, 2, 7, 42])
  (.cond (.t 42)
    (.seq (.region [⟨some 6, none, .mov (.c (.bool false))⟩]
      [6])
    .ret)
    .skip))
  (.seq (.region [⟨some 43, none, .mov (.t 0)⟩,
    ⟨some 44, none, .call F.ref27_New [.t 43]⟩,
    ⟨some 9, none, .mov (.t 44)⟩]
    [0, 1, 2, 7, 9])
  (.seq (.seq (.region [⟨some 10, none, .mov (.c (.int .i64 0))⟩]
    [0, 1, 2, 7, 9, 10])
  (.block 0
    (.loop [0, 1, 2, 7, 9, 10]
      (.seq (.seq (.region [⟨some 45, none, .mov (.t 10)⟩,
        ⟨some 46, none, .mov (.t 1)⟩,
        ⟨some 47, none, .len (.t 46)⟩,
        ⟨some 48, none, .bin .lss (.t 45) (.t 47)⟩,
        ⟨some 49, none, .mov (.t 48)⟩,
        ⟨some 50, some (49, true), .mov (.t 10)⟩,
        ⟨some 51, some (49, true), .bin .lss (.t 50) (.c (.int .i64 60))⟩,
        ⟨some 52, none, .pick (.t 49) (.t 51) (.c (.bool false))⟩]
        [0, 1, 2, 7, 9, 10, 52])
      (.cond (.t 52)
        .skip
        (.exit 0)))
      (.seq (.block 1
        (.seq (.region [⟨some 56, none, .mov (.t 7)⟩,
          ⟨some 57, none, .mov (.t 9)⟩,
          ⟨some 58, none, .mov (.t 1)⟩,
          ⟨some 59, none, .mov (.t 10)⟩,
          ⟨some 60, none, .idxS 2 (.t 58) (.t 59)⟩,
          ⟨some 61, none, .load true 2 (.t 60)⟩,
          ⟨some 62, none, .call F.law27_step [.t 56, .t 57, .t 61]⟩,
          ⟨some 55, none, .mov (.t 62)⟩,
          ⟨some 63, none, .ext 0 (.t 55)⟩,
          ⟨some 64, none, .ext 1 (.t 55)⟩,
          ⟨some 65, none, .ext 2 (.t 55)⟩,
          ⟨some 11, none, .mov (.t 63)⟩,
          ⟨some 12, none, .mov (.t 64)⟩,
          ⟨some 13, none, .mov (.t 65)⟩]
          [0, 1, 2, 10, 11, 12, 13])
        (.seq (.seq (.region [⟨some 66, none, .mov (.t 13)⟩,
          ⟨some 67, none, .un .not (.t 66)⟩,
          ⟨some 68, none, .mov (.t 67)⟩,
          ⟨some 69, some (68, false), .mov (.t 11)⟩,
          ⟨some 70, some (68, false), .eq false .ptr (.t 69) (.c (.pointer none))⟩,
          ⟨some 71, none, .pick (.t 68) (.c (.bool true)) (.t 70)⟩]
          [0, 1, 2, 10, 11, 12, 71])
        (.cond (.t 71)
          (.seq (.region [⟨some 6, none, .mov (.c (.bool false))⟩]
            [6])
          .ret)
          .skip))
        (.seq (.region [⟨some 72, none, .mov (.t 11)⟩,
          ⟨some 73, none, .mov (.t 12)⟩,
          ⟨some 7, none, .mov (.t 72)⟩,
          ⟨some 9, none, .mov (.t 73)⟩]
          [0, 1, 2, 7, 9, 10])
        (.seq (.region [⟨some 75, none, .mov (.t 7)⟩,
          ⟨some 76, none, .mov (.t 2)⟩,
          ⟨some 77, none, .call F.cores_Set_State [.t 75, .t 76]⟩,
          ⟨some 74, none, .mov (.t 77)⟩,
          ⟨some 78, none, .ext 0 (.t 74)⟩,
          ⟨some 79, none, .ext 1 (.t 74)⟩,
          ⟨some 14, none, .mov (.t 78)⟩,
          ⟨some 15, none, .mov (.t 79)⟩]
          [0, 1, 2, 7, 9, 10, 14, 15])
        (.seq (.seq (.region [⟨some 80, none, .mov (.t 15)⟩,
          ⟨some 81, none, .mov (.t 2)⟩,
          ⟨some 82, none, .bin .geq (.t 81) (.c (.int .i64 0))⟩,
          ⟨some 83, none, .mov (.t 82)⟩,
          ⟨some 84, some (83, true), .mov (.t 2)⟩,
          ⟨some 85, some (83, true), .mov (.t 0)⟩,
          ⟨some 86, some (83, true), .bin .lss (.t 84) (.t 85)⟩,
          ⟨some 87, none, .pick (.t 83) (.t 86) (.c (.bool false))⟩,
          ⟨some 88, none, .eq true .bool (.t 80) (.t 87)⟩,
          ⟨some 89, none, .mov (.t 88)⟩,
          ⟨some 90, some (89, false), .mov (.t 15)⟩,
          ⟨some 91, some (89, false), .mov (.t 90)⟩,
          ⟨some 92, some (91, true), .mov (.t 14)⟩,
          ⟨some 93, some (91, true), .mov (.t 9)⟩,
          ⟨some 94, some (91, true), .mov (.t 2)⟩,
          ⟨some 95, some (91, true), .idxS 1 (.t 93) (.t 94)⟩,
          ⟨some 96, some (91, true), .load false 1 (.t 95)⟩,
          ⟨some 97, some (91, true), .bin .neq (.t 92) (.t 96)⟩,
          ⟨some 98, some (89, false), .pick (.t 91) (.t 97) (.c (.bool false))⟩,
          ⟨some 99, none, .pick (.t 89) (.c (.bool true)) (.t 98)⟩,
          ⟨some 100, none, .mov (.t 99)⟩,
          ⟨some 101, some (100, false), .mov (.t 15)⟩,
          ⟨some 102, some (100, false), .un .not (.t 101)⟩,
          ⟨some 103, some (100, false), .mov (.t 102)⟩,
          ⟨some 104, some (103, true), .mov (.t 14)⟩,
          ⟨some 105, some (103, true), .bin .neq (.t 104) (.c (.int .i64 0))⟩,
          ⟨some 106, some (100, false), .pick (.t 103) (.t 105) (.c (.bool false))⟩,
          ⟨some 107, none, .pick (.t 100) (.c (.bool true)) (.t 106)⟩,
          ⟨some 108, none, .mov (.t 107)⟩,
          ⟨some 109, some (108, false), .mov (.t 7)⟩,
          ⟨some 110, some (108, false), .call F.cores_Set_Len [.t 109]⟩,
          ⟨some 111, some (108, false), .mov (.t 0)⟩,
          ⟨some 112, some (108, false), .bin .neq (.t 110) (.t 111)⟩,
          ⟨some 113, none, .pick (.t 108) (.c (.bool true)) (.t 112)⟩]
          [0, 1, 2, 7, 9, 10, 113])
        (.cond (.t 113)
          (.seq (.region [⟨some 6, none, .mov (.c (.bool false))⟩]
            [6])
          .ret)
          .skip))
        (.seq (.seq (.region [⟨some 16, none, .mov (.c (.int .i64 0))⟩]
          [0, 1, 2, 7, 9, 10, 16])
        (.block 2
          (.loop [0, 1, 2, 7, 9, 10, 16]
            (.seq (.seq (.region [⟨some 114, none, .mov (.t 16)⟩,
              ⟨some 115, none, .bin .leq (.t 114) (.c (.int .i64 4))⟩]
              [0, 1, 2, 7, 9, 10, 16, 115])
            (.cond (.t 115)
              .skip
              (.exit 2)))
            (.seq (.block 3
              (.seq (.region [⟨some 118, none, .mov (.t 7)⟩,
                ⟨some 119, none, .mov (.t 16)⟩,
                ⟨some 120, none, .bslice [(.int .i64 0)] [(0, 1, .t 119)] 1 1⟩,
                ⟨some 121, none, .call F.cores_Set_In [.t 118, .t 120]⟩,
                ⟨some 122, none, .mov (.t 9)⟩,
                ⟨some 123, none, .mov (.t 16)⟩,
                ⟨some 124, none, .call F.ref27_Bits [.t 122, .t 123]⟩,
                ⟨some 125, none, .bin .neq (.t 121) (.t 124)⟩,
                ⟨some 126, none, .mov (.t 125)⟩,
                ⟨some 127, some (126, false), .mov (.t 7)⟩,
                ⟨some 128, some (126, false), .mov (.t 16)⟩,
                ⟨some 129, some (126, false), .bslice [(.int .i64 0)] [(0, 1, .t 128)] 1 1⟩,
                ⟨some 130, some (126, false), .call F.cores_Set_Count [.t 127, .t 129]⟩,
                ⟨some 131, some (126, false), .mov (.t 9)⟩,
                ⟨some 132, some (126, false), .mov (.t 16)⟩,
                ⟨some 133, some (126, false), .call F.ref27_Count [.t 131, .t 132]⟩,
                ⟨some 134, some (126, false), .bin .neq (.t 130) (.t 133)⟩,
                ⟨some 135, none, .pick (.t 126) (.c (.bool true)) (.t 134)⟩]
                [0, 1, 2, 7, 9, 10, 16, 135])
              (.cond (.t 135)
                (.seq (.region [⟨some 6, none, .mov (.c (.bool false))⟩]
                  [6])
                .ret)
                .skip)) [0, 1, 2, 7, 9, 10, 16])
            (.region [⟨some 116, none, .mov (.t 16)⟩,
              ⟨some 117, none, .bin .add (.t 116) (.c (.int .i64 1))⟩,
              ⟨some 16, none, .mov (.t 117)⟩]
              [0, 1, 2, 7, 9, 10, 16])))) [0, 1, 2, 7, 9, 10]))
        (.seq (.region [⟨some 136, none, .mov (.t 7)⟩,
          ⟨some 137, none, .bslice [(.int .i64 0), (.int .i64 0)] [(0, 1, .c (.int .i64 1)), (1, 1, .c (.int .i64 2))] 2 1⟩,
          ⟨some 138, none, .call F.cores_Set_In [.t 136, .t 137]⟩,
          ⟨some 139, none, .mov (.t 9)⟩,
          ⟨some 140, none, .call F.ref27_Bits [.t 139, .c (.int .i64 1)]⟩,
          ⟨some 141, none, .mov (.t 9)⟩,
          ⟨some 142, none, .call F.ref27_Bits [.t 141, .c (.int .i64 2)]⟩,
          ⟨some 143, none, .bin .or (.t 140) (.t 142)⟩,
          ⟨some 144, none, .bin .neq (.t 138) (.t 143)⟩]
          [0, 1, 2, 7, 9, 10, 144])
        (.cond (.t 144)
          (.seq (.region [⟨some 6, none, .mov (.c (.bool false))⟩]
            [6])
          .ret)
          .skip)))))))) [0, 1, 2, 7, 9, 10])
      (.region [⟨some 53, none, .mov (.t 10)⟩,
        ⟨some 54, none, .bin .add (.t 53) (.c (.int .i64 1))⟩,
        ⟨some 10, none, .mov (.t 54)⟩]
        [0, 1, 2, 7, 9, 10])))) []))
  (.seq (.region [⟨some 145, none, .call F.law27_awake []⟩,
    ⟨some 6, none, .mov (.t 145)⟩]
    [6])
  .ret)))))))⟩

def RC.law27_CoresNever : RFn := ⟨2, [.slot 4],
  (.seq (.region [⟨some 4, none, .mov (.c (.bool false))⟩]
    [0, 1])
  (.seq (.region [⟨some 12, none, .mov (.t 0)⟩,
    ⟨some 13, none, .call F.cores_New [.t 12]⟩,
    ⟨some 11, none, .mov (.t 13)⟩,
    ⟨some 14, none, .ext 0 (.t 11)⟩,
    ⟨some 15, none, .ext 1 (.t 11)⟩,
    ⟨some 5, none, .mov (.t 14)⟩,
    ⟨some 6, none, .mov (.t 15)⟩]
    [0, 1, 5, 6])
  (.seq (.seq (.region [⟨some 16, none, .mov (.t 6)⟩,
    ⟨some 17, none, .bin .neq (.t 16) (.c (.int .i64 0))⟩,
    ⟨some 18, none, .mov (.t 17)⟩,
    ⟨some 19, some (18, false), .mov (.t 5)⟩,
    ⟨some 20, some (18, false), .eq false .ptr (.t 19) (.c (.pointer none))⟩,
    ⟨some 21, none, .pick (.t 18) (.c (.bool true)) (.t 20)⟩]
    [0, 1, 5, 21])
  (.cond (.t 21)
    (.seq (.region [⟨some 22, none, .mov (.t 0)⟩,
      ⟨some 23, none, .bin .lss (.t 22) (.c (.int .i64 1))⟩,
      ⟨some 24, none, .mov (.t 23)⟩,
      ⟨some 25, some (24, false), .mov (.t 0)⟩,
      ⟨some 26, some (24, false), .bin .gtr (.t 25) (.c (.int .i64 16))⟩,
      ⟨some 27, none, .pick (.t 24) (.c (.bool true)) (.t 26)⟩,
      ⟨some 28, none, .mov (.t 27)⟩,
      ⟨some 29, some (28, true), .call F.law27_awake []⟩,
      ⟨some 30, none, .pick (.t 28) (.t 29) (.c (.bool false))⟩,
      ⟨some 4, none, .mov (.t 30)⟩]
      [4])
    .ret)
    .skip))
  (.seq (.seq (.region [⟨some 7, none, .mov (.c (.int .i64 0))⟩]
    [0, 1, 5, 7])
  (.block 0
    (.loop [0, 1, 5, 7]
      (.seq (.seq (.region [⟨some 31, none, .mov (.t 7)⟩,
        ⟨some 32, none, .mov (.t 1)⟩,
        ⟨some 33, none, .len (.t 32)⟩,
        ⟨some 34, none, .bin .lss (.t 31) (.t 33)⟩,
        ⟨some 35, none, .mov (.t 34)⟩,
        ⟨some 36, some (35, true), .mov (.t 7)⟩,
        ⟨some 37, some (35, true), .bin .lss (.t 36) (.c (.int .i64 100))⟩,
        ⟨some 38, none, .pick (.t 35) (.t 37) (.c (.bool false))⟩]
        [0, 1, 5, 7, 38])
      (.cond (.t 38)
        .skip
        (.exit 0)))
      (.seq (.block 1
        (.seq (.drawn [⟨some 42, none, .mov (.t 5)⟩,
          ⟨some 43, none, .mov (.t 0)⟩,
          ⟨some 44, none, .call F.ref27_New [.t 43]⟩,
          ⟨some 45, none, .mov (.t 1)⟩,
          ⟨some 46, none, .mov (.t 7)⟩,
          ⟨some 47, none, .idxS 2 (.t 45) (.t 46)⟩,
          ⟨some 48, none, .load true 2 (.t 47)⟩,
          ⟨some 49, none, .call F.law27_step [.t 42, .t 44, .t 48]⟩,
          ⟨some 41, none, .mov (.t 49)⟩,
          ⟨some 50, none, .ext 0 (.t 41)⟩,
          ⟨some 51, none, .ext 1 (.t 41)⟩,
          ⟨some 52, none, .ext 2 (.t 41)⟩,
          ⟨some 8, none, .mov (.t 50)⟩,
          ⟨some 9, none, .mov (.t 51)⟩,
          ⟨some 10, none, .mov (.t 52)⟩]
          [[], [], [1], [], [], [3, 4], [5], [0, 2, 6, 2], [7], [8], [8], [8], [9, 7, 0, 1, 2, 3, 4, 5, 6, 7, 8, 9], [10, 12, 0, 1, 2, 3, 4, 5, 6, 7, 8, 9, 10, 12], [11, 13, 0, 1, 2, 3, 4, 5, 6, 7, 8, 9, 10, 11, 12, 13]]
          [(0, []), (1, []), (3, []), (4, []), (5, []), (6, []), (2, [47]), (7, []), (8, []), (9, []), (10, []), (11, []), (12, []), (13, []), (14, [])]
          [[], [], [1], [], [], [3, 4], [3, 4, 5], [0, 1, 2, 3, 4, 5, 6], [0, 1, 2, 3, 4, 5, 6, 7], [0, 1, 2, 3, 4, 5, 6, 7, 8], [0, 1, 2, 3, 4, 5, 6, 7, 8], [0, 1, 2, 3, 4, 5, 6, 7, 8], [0, 1, 2, 3, 4, 5, 6, 7, 8, 9], [0, 1, 2, 3, 4, 5, 6, 7, 8, 9, 10, 12], [0, 1, 2, 3, 4, 5, 6, 7, 8, 9, 10, 11, 12, 13]]
          [0, 1, 7, 8])
        (.seq (.seq (.region [⟨some 53, none, .mov (.t 8)⟩,
          ⟨some 54, none, .eq false .ptr (.t 53) (.c (.pointer none))⟩]
          [0, 1, 7, 8, 54])
        (.cond (.t 54)
          (.seq (.region [⟨some 4, none, .mov (.c (.bool false))⟩]
            [4])
          .ret)
          .skip))
        (.seq (.region [⟨some 55, none, .mov (.t 8)⟩,
          ⟨some 5, none, .mov (.t 55)⟩]
          [0, 1, 5, 7])
        (.seq (.region [⟨some 56, none, .mov (.t 5)⟩,
          ⟨some 57, none, .bslice [(.int .i64 0)] [(0, 1, .c (.int .i64 1))] 1 1⟩,
          ⟨some 58, none, .call F.cores_Set_Count [.t 56, .t 57]⟩,
          ⟨some 59, none, .bin .lss (.t 58) (.c (.int .i64 1))⟩]
          [0, 1, 5, 7, 59])
        (.cond (.t 59)
          (.seq (.region [⟨some 4, none, .mov (.c (.bool false))⟩]
            [4])
          .ret)
          .skip))))) [0, 1, 5, 7])
      (.region [⟨some 39, none, .mov (.t 7)⟩,
        ⟨some 40, none, .bin .add (.t 39) (.c (.int .i64 1))⟩,
        ⟨some 7, none, .mov (.t 40)⟩]
        [0, 1, 5, 7])))) []))
  (.seq (.region [⟨some 60, none, .call F.law27_awake []⟩,
    ⟨some 4, none, .mov (.t 60)⟩]
    [4])
  .ret)))))⟩

def RC.law27_CoresTwo : RFn := ⟨3, [.slot 6],
  (.seq (.region [⟨some 6, none, .mov (.c (.bool false))⟩]
    [0, 1, 2])
  (.seq (.region [⟨some 22, none, .mov (.t 0)⟩,
    ⟨some 23, none, .call F.cores_New [.t 22]⟩,
    ⟨some 21, none, .mov (.t 23)⟩,
    ⟨some 24, none, .ext 0 (.t 21)⟩,
    ⟨some 25, none, .ext 1 (.t 21)⟩,
    ⟨some 7, none, .mov (.t 24)⟩,
    ⟨some 8, none, .mov (.t 25)⟩]
    [0, 1, 2, 7, 8])
  (.seq (.seq (.region [⟨some 26, none, .mov (.t 8)⟩,
    ⟨some 27, none, .bin .neq (.t 26) (.c (.int .i64 0))⟩,
    ⟨some 28, none, .mov (.t 27)⟩,
    ⟨some 29, some (28, false), .mov (.t 7)⟩,
    ⟨some 30, some (28, false), .eq false .ptr (.t 29) (.c (.pointer none))⟩,
    ⟨some 31, none, .pick (.t 28) (.c (.bool true)) (.t 30)⟩]
    [0, 1, 2, 7, 31])
  (.cond (.t 31)
    (.seq (.region [⟨some 32, none, .mov (.t 0)⟩,
      ⟨some 33, none, .bin .lss (.t 32) (.c (.int .i64 1))⟩,
      ⟨some 34, none, .mov (.t 33)⟩,
      ⟨some 35, some (34, false), .mov (.t 0)⟩,
      ⟨some 36, some (34, false), .bin .gtr (.t 35) (.c (.int .i64 16))⟩,
      ⟨some 37, none, .pick (.t 34) (.c (.bool true)) (.t 36)⟩,
      ⟨some 38, none, .mov (.t 37)⟩,
      ⟨some 39, some (38, true), .call F.law27_awake []⟩,
      ⟨some 40, none, .pick (.t 38) (.t 39) (.c (.bool false))⟩,
      ⟨some 6, none, .mov (.t 40)⟩]
      [6])
    .ret)
    .skip))
  (.seq (.seq (.region [⟨some 9, none, .mov (.c (.int .i64 0))⟩]
    [0, 1, 2, 7, 9])
  (.block 0
    (.loop [0, 1, 2, 7, 9]
      (.seq (.seq (.region [⟨some 41, none, .mov (.t 9)⟩,
        ⟨some 42, none, .mov (.t 1)⟩,
        ⟨some 43, none, .len (.t 42)⟩,
        ⟨some 44, none, .bin .lss (.t 41) (.t 43)⟩,
        ⟨some 45, none, .mov (.t 44)⟩,
        ⟨some 46, some (45, true), .mov (.t 9)⟩,
        ⟨some 47, some (45, true), .bin .lss (.t 46) (.c (.int .i64 60))⟩,
        ⟨some 48, none, .pick (.t 45) (.t 47) (.c (.bool false))⟩]
        [0, 1, 2, 7, 9, 48])
      (.cond (.t 48)
        .skip
        (.exit 0)))
      (.seq (.block 1
        (.seq (.drawn [⟨some 52, none, .mov (.t 7)⟩,
          ⟨some 53, none, .mov (.t 0)⟩,
          ⟨some 54, none, .call F.ref27_New [.t 53]⟩,
          ⟨some 55, none, .mov (.t 1)⟩,
          ⟨some 56, none, .mov (.t 9)⟩,
          ⟨some 57, none, .idxS 2 (.t 55) (.t 56)⟩,
          ⟨some 58, none, .load true 2 (.t 57)⟩,
          ⟨some 59, none, .call F.law27_step [.t 52, .t 54, .t 58]⟩,
          ⟨some 51, none, .mov (.t 59)⟩,
          ⟨some 60, none, .ext 0 (.t 51)⟩,
          ⟨some 61, none, .ext 1 (.t 51)⟩,
          ⟨some 62, none, .ext 2 (.t 51)⟩,
          ⟨some 10, none, .mov (.t 60)⟩,
          ⟨some 11, none, .mov (.t 61)⟩,
          ⟨some 12, none, .mov (.t 62)⟩]
          [[], [], [1], [], [], [3, 4], [5], [0, 2, 6, 2], [7], [8], [8], [8], [9, 7, 0, 1, 2, 3, 4, 5, 6, 7, 8, 9], [10, 12, 0, 1, 2, 3, 4, 5, 6, 7, 8, 9, 10, 12], [11, 13, 0, 1, 2, 3, 4, 5, 6, 7, 8, 9, 10, 11, 12, 13]]
          [(0, []), (1, []), (3, []), (4, []), (5, []), (6, []), (2, [57]), (7, []), (8, []), (9, []), (10, []), (11, []), (12, []), (13, []), (14, [])]
          [[], [], [1], [], [], [3, 4], [3, 4, 5], [0, 1, 2, 3, 4, 5, 6], [0, 1, 2, 3, 4, 5, 6, 7], [0, 1, 2, 3, 4, 5, 6, 7, 8], [0, 1, 2, 3, 4, 5, 6, 7, 8], [0, 1, 2, 3, 4, 5, 6, 7, 8], [0, 1, 2, 3, 4, 5, 6, 7, 8, 9], [0, 1, 2, 3, 4, 5, 6, 7, 8, 9, 10, 12], [0, 1, 2, 3, 4, 5, 6, 7, 8, 9, 10, 11, 12, 13]]
          [0, 1, 2, 9, 10])
        (.seq (.seq (.region [⟨some 63, none, .mov (.t 10)⟩,
          ⟨some 64, none, .eq false .ptr (.t 63) (.c (.pointer none))⟩]
          [0, 1, 2, 9, 10, 64])
        (.cond (.t 64)
          (.seq (.region [⟨some 6, none, .mov (.c (.bool false))⟩]
            [6])
          .ret)
          .skip))
        (.region [⟨some 65, none, .mov (.t 10)⟩,
          ⟨some 7, none, .mov (.t 65)⟩]
          [0, 1, 2, 7, 9]))) [0, 1, 2, 7, 9])
      (.region [⟨some 49, none, .mov (.t 9)⟩,
        ⟨some 50, none, .bin .add (.t 49) (.c (.int .i64 1))⟩,
        ⟨some 9, none, .mov (.t 50)⟩]
        [0, 1, 2, 7, 9])))) [2, 7]))
  (.seq (.seq (.region [⟨some 66, none, .mov (.t 7)⟩,
    ⟨some 67, none, .mov (.t 2)⟩,
    ⟨some 68, none, .call F.cores_Set_Unplug [.t 66, .t 67]⟩,
    ⟨some 69, none, .bin .eql (.t 68) (.c (.int .i64 0))⟩]
    [2, 7, 69])
  (.cond (.t 69)
    (.seq (.region [⟨some 70, none, .mov (.t 7)⟩,
      ⟨some 71, none, .call F.cores_Set_Turn [.t 70]⟩]
      [2, 7])
    (.seq (.region [⟨some 73, none, .mov (.t 7)⟩,
      ⟨some 74, none, .mov (.t 2)⟩,
      ⟨some 75, none, .call F.cores_Set_State [.t 73, .t 74]⟩,
      ⟨some 72, none, .mov (.t 75)⟩,
      ⟨some 76, none, .ext 0 (.t 72)⟩,
      ⟨some 77, none, .ext 1 (.t 72)⟩,
      ⟨some 13, none, .mov (.t 76)⟩,
      ⟨some 14, none, .mov (.t 77)⟩]
      [2, 7, 13])
    (.seq (.region [⟨some 78, none, .mov (.t 7)⟩,
      ⟨some 79, none, .mov (.t 2)⟩,
      ⟨some 80, none, .call F.cores_Set_Plug [.t 78, .t 79]⟩,
      ⟨some 15, none, .mov (.t 80)⟩]
      [2, 7, 13, 15])
    (.seq (.region [⟨some 81, none, .mov (.t 7)⟩,
      ⟨some 82, none, .call F.cores_Set_Turn [.t 81]⟩]
      [2, 7, 13, 15])
    (.seq (.region [⟨some 84, none, .mov (.t 7)⟩,
      ⟨some 85, none, .mov (.t 2)⟩,
      ⟨some 86, none, .call F.cores_Set_State [.t 84, .t 85]⟩,
      ⟨some 83, none, .mov (.t 86)⟩,
      ⟨some 87, none, .ext 0 (.t 83)⟩,
      ⟨some 88, none, .ext 1 (.t 83)⟩,
      ⟨some 16, none, .mov (.t 87)⟩,
      ⟨some 17, none, .mov (.t 88)⟩]
      [2, 7, 13, 15, 16])
    (.seq (.region [⟨some 89, none, .mov (.t 13)⟩,
      ⟨some 90, none, .bin .neq (.t 89) (.c (.int .i64 3))⟩,
      ⟨some 91, none, .mov (.t 90)⟩,
      ⟨some 92, some (91, false), .mov (.t 15)⟩,
      ⟨some 93, some (91, false), .bin .neq (.t 92) (.c (.int .i64 15))⟩,
      ⟨some 94, none, .pick (.t 91) (.c (.bool true)) (.t 93)⟩,
      ⟨some 95, none, .mov (.t 94)⟩,
      ⟨some 96, some (95, false), .mov (.t 16)⟩,
      ⟨some 97, some (95, false), .bin .neq (.t 96) (.c (.int .i64 0))⟩,
      ⟨some 98, none, .pick (.t 95) (.c (.bool true)) (.t 97)⟩]
      [2, 7, 98])
    (.cond (.t 98)
      (.seq (.region [⟨some 6, none, .mov (.c (.bool false))⟩]
        [6])
      .ret)
      .skip)))))))
    .skip))
  (.seq (.seq (.region [⟨some 99, none, .mov (.t 7)⟩,
    ⟨some 100, none, .mov (.t 2)⟩,
    ⟨some 101, none, .call F.cores_Set_Plug [.t 99, .t 100]⟩,
    ⟨some 102, none, .bin .eql (.t 101) (.c (.int .i64 0))⟩]
    [2, 7, 102])
  (.cond (.t 102)
    (.seq (.region [⟨some 103, none, .mov (.t 7)⟩,
      ⟨some 104, none, .mov (.t 2)⟩,
      ⟨some 105, none, .call F.cores_Set_Unplug [.t 103, .t 104]⟩,
      ⟨some 18, none, .mov (.t 105)⟩]
      [2, 7, 18])
    (.seq (.region [⟨some 106, none, .mov (.t 7)⟩,
      ⟨some 107, none, .call F.cores_Set_Turn [.t 106]⟩]
      [2, 7, 18])
    (.seq (.region [⟨some 109, none, .mov (.t 7)⟩,
      ⟨some 110, none, .mov (.t 2)⟩,
      ⟨some 111, none, .call F.cores_Set_State [.t 109, .t 110]⟩,
      ⟨some 108, none, .mov (.t 111)⟩,
      ⟨some 112, none, .ext 0 (.t 108)⟩,
      ⟨some 113, none, .ext 1 (.t 108)⟩,
      ⟨some 19, none, .mov (.t 112)⟩,
      ⟨some 20, none, .mov (.t 113)⟩]
      [18, 19])
    (.seq (.region [⟨some 114, none, .mov (.t 18)⟩,
      ⟨some 115, none, .bin .neq (.t 114) (.c (.int .i64 15))⟩,
      ⟨some 116, none, .mov (.t 115)⟩,
      ⟨some 117, some (116, false), .mov (.t 19)⟩,
      ⟨some 118, some (116, false), .bin .neq (.t 117) (.c (.int .i64 1))⟩,
      ⟨some 119, none, .pick (.t 116) (.c (.bool true)) (.t 118)⟩]
      [119])
    (.cond (.t 119)
      (.seq (.region [⟨some 6, none, .mov (.c (.bool false))⟩]
        [6])
      .ret)
      .skip)))))
    .skip))
  (.seq (.region [⟨some 120, none, .call F.law27_awake []⟩,
    ⟨some 6, none, .mov (.t 120)⟩]
    [6])
  .ret)))))))⟩

def RC.law27_CoresNobody : RFn := ⟨1, [.slot 2],
  (.seq (.region [⟨some 2, none, .mov (.c (.bool false))⟩]
    [0])
  (.seq (.region [⟨some 3, none, .mov (.c (.pointer none))⟩]
    [0, 3])
  (.seq (.region [⟨some 11, none, .mov (.t 3)⟩,
    ⟨some 12, none, .build [(.slice none 0 0)] []⟩,
    ⟨some 13, none, .box (.t 12)⟩,
    ⟨some 14, none, .bslice [(.pointer none), (.pointer none)] [(0, 1, .t 11), (1, 1, .t 13)] 2 1⟩,
    ⟨some 4, none, .mov (.t 14)⟩]
    [0, 4])
  (.seq (.seq (.region [⟨some 5, none, .mov (.c (.int .i64 0))⟩]
    [0, 4, 5])
  (.block 0
    (.loop [0, 4, 5]
      (.seq (.seq (.region [⟨some 15, none, .mov (.t 5)⟩,
        ⟨some 16, none, .mov (.t 4)⟩,
        ⟨some 17, none, .len (.t 16)⟩,
        ⟨some 18, none, .bin .lss (.t 15) (.t 17)⟩]
        [0, 4, 5, 18])
      (.cond (.t 18)
        .skip
        (.exit 0)))
      (.seq (.block 1
        (.seq (.region [⟨some 21, none, .mov (.t 4)⟩,
          ⟨some 22, none, .mov (.t 5)⟩,
          ⟨some 23, none, .idxS 1 (.t 21) (.t 22)⟩,
          ⟨some 24, none, .load false 1 (.t 23)⟩,
          ⟨some 6, none, .mov (.t 24)⟩]
          [0, 4, 5, 6])
        (.seq (.region [⟨some 26, none, .mov (.t 6)⟩,
          ⟨some 27, none, .call F.cores_Set_Turn [.t 26]⟩,
          ⟨some 25, none, .mov (.t 27)⟩,
          ⟨some 28, none, .ext 0 (.t 25)⟩,
          ⟨some 29, none, .ext 1 (.t 25)⟩,
          ⟨some 7, none, .mov (.t 28)⟩,
          ⟨some 8, none, .mov (.t 29)⟩]
          [0, 4, 5, 6, 7, 8])
        (.seq (.region [⟨some 31, none, .mov (.t 6)⟩,
          ⟨some 32, none, .mov (.t 0)⟩,
          ⟨some 33, none, .call F.cores_Set_State [.t 31, .t 32]⟩,
          ⟨some 30, none, .mov (.t 33)⟩,
          ⟨some 34, none, .ext 0 (.t 30)⟩,
          ⟨some 35, none, .ext 1 (.t 30)⟩,
          ⟨some 9, none, .mov (.t 34)⟩,
          ⟨some 10, none, .mov (.t 35)⟩]
          [0, 4, 5, 6, 7, 8, 10])
        (.seq (.region [⟨some 36, none, .mov (.t 6)⟩,
          ⟨some 37, none, .mov (.t 0)⟩,
          ⟨some 38, none, .call F.cores_Set_Plug [.t 36, .t 37]⟩,
          ⟨some 39, none, .bin .neq (.t 38) (.c (.int .i64 2))⟩,
          ⟨some 40, none, .mov (.t 39)⟩,
          ⟨some 41, some (40, false), .mov (.t 6)⟩,
          ⟨some 42, some (40, false), .mov (.t 0)⟩,
          ⟨some 43, some (40, false), .call F.cores_Set_Unplug [.t 41, .t 42]⟩,
          ⟨some 44, some (40, false), .bin .neq (.t 43) (.c (.int .i64 2))⟩,
          ⟨some 45, none, .pick (.t 40) (.c (.bool true)) (.t 44)⟩,
          ⟨some 46, none, .mov (.t 45)⟩,
          ⟨some 47, some (46, false), .mov (.t 7)⟩,
          ⟨some 48, some (46, false), .bin .neq (.t 47) (.c (.int .u32 0))⟩,
          ⟨some 49, none, .pick (.t 46) (.c (.bool true)) (.t 48)⟩,
          ⟨some 50, none, .mov (.t 49)⟩,
          ⟨some 51, some (50, false), .mov (.t 8)⟩,
          ⟨some 52, some (50, false), .bin .neq (.t 51) (.c (.int .u32 0))⟩,
          ⟨some 53, none, .pick (.t 50) (.c (.bool true)) (.t 52)⟩,
          ⟨some 54, none, .mov (.t 53)⟩,
          ⟨some 55, some (54, false), .mov (.t 10)⟩,
          ⟨some 56, none, .pick (.t 54) (.c (.bool true)) (.t 55)⟩,
          ⟨some 57, none, .mov (.t 56)⟩,
          ⟨some 58, some (57, false), .mov (.t 6)⟩,
          ⟨some 59, some (57, false), .bslice [(.int .i64 0)] [(0, 1, .c (.int .i64 1))] 1 1⟩,
          ⟨some 60, some (57, false), .call F.cores_Set_In [.t 58, .t 59]⟩,
          ⟨some 61, some (57, false), .bin .neq (.t 60) (.c (.int .u32 0))⟩,
          ⟨some 62, none, .pick (.t 57) (.c (.bool true)) (.t 61)⟩,
          ⟨some 63, none, .mov (.t 62)⟩,
          ⟨some 64, some (63, false), .mov (.t 6)⟩,
          ⟨some 65, some (63, false), .bslice [(.int .i64 0)] [(0, 1, .c (.int .i64 1))] 1 1⟩,
          ⟨some 66, some (63, false), .call F.cores_Set_Count [.t 64, .t 65]⟩,
          ⟨some 67, some (63, false), .bin .neq (.t 66) (.c (.int .i64 0))⟩,
          ⟨some 68, none, .pick (.t 63) (.c (.bool true)) (.t 67)⟩,
          ⟨some 69, none, .mov (.t 68)⟩,
          ⟨some 70, some (69, false), .mov (.t 6)⟩,
          ⟨some 71, some (69, false), .call F.cores_Set_Len [.t 70]⟩,
          ⟨some 72, some (69, false), .bin .neq (.t 71) (.c (.int .i64 0))⟩,
          ⟨some 73, none, .pick (.t 69) (.c (.bool true)) (.t 72)⟩,
          ⟨some 74, none, .mov (.t 73)⟩,
          ⟨some 75, some (74, false), .mov (.t 6)⟩,
          ⟨some 76, some (74, false), .call F.cores_Set_Fork [.t 75]⟩,
          ⟨some 77, some (74, false), .eq true .ptr (.t 76) (.c (.pointer none))⟩,
          ⟨some 78, none, .pick (.t 74) (.c (.bool true)) (.t 77)⟩]
          [0, 4, 5, 78])
        (.cond (.t 78)
          (.seq (.region [⟨some 2, none, .mov (.c (.bool false))⟩]
            [2])
          .ret)
          .skip))))) [0, 4, 5])
      (.region [⟨some 19, none, .mov (.t 5)⟩,
        ⟨some 20, none, .bin .add (.t 19) (.c (.int .i64 1))⟩,
        ⟨some 5, none, .mov (.t 20)⟩]
        [0, 4, 5])))) []))
  (.seq (.region [⟨some 79, none, .call F.law27_awake []⟩,
    ⟨some 2, none, .mov (.t 79)⟩]
    [2])
  .ret)))))⟩

def RC.cores_New : RFn := ⟨1, [.slot 2, .slot 3],
  (.seq (.region [⟨some 2, none, .mov (.c (.pointer none))⟩,
    ⟨some 3, none, .mov (.c (.int .i64 0))⟩]
    [0])
  (.seq (.seq (.region [⟨some 4, none, .mov (.t 0)⟩,
    ⟨some 5, none, .bin .lss (.t 4) (.c (.int .i64 1))⟩,
    ⟨some 6, none, .mov (.t 5)⟩,
    ⟨some 7, some (6, false), .mov (.t 0)⟩,
    ⟨some 8, some (6, false), .bin .gtr (.t 7) (.c (.int .i64 16))⟩,
    ⟨some 9, none, .pick (.t 6) (.c (.bool true)) (.t 8)⟩]
    [0, 9])
  (.cond (.t 9)
    (.seq (.region [⟨some 2, none, .mov (.c (.pointer none))⟩,
      ⟨some 3, none, .mov (.c (.int .i64 1))⟩]
      [2, 3])
    .ret)
    .skip))
  (.seq (.region [⟨some 10, none, .bslice [(.int .i64 0)] [(0, 1, .c (.int .i64 1))] 1 1⟩,
    ⟨some 11, none, .mov (.t 0)⟩,
    ⟨some 12, none, .call F.slices_Repeat_int_int [.t 10, .t 11]⟩,
    ⟨some 13, none, .build [(.slice none 0 0)] [(0, 1, .t 12)]⟩,
    ⟨some 14, none, .box (.t 13)⟩,
    ⟨some 2, none, .mov (.t 14)⟩,
    ⟨some 3, none, .mov (.c (.int .i64 0))⟩]
    [2, 3])
  .ret)))⟩

def RC.law27_awake : RFn := ⟨0, [.slot 0],
  (.seq (.region [⟨some 0, none, .mov (.c (.bool false))⟩]
    [])
  (.seq (.region [⟨some 8, none, .call F.cores_New [.c (.int .i64 2)]⟩,
    ⟨some 7, none, .mov (.t 8)⟩,
    ⟨some 9, none, .ext 0 (.t 7)⟩,
    ⟨some 10, none, .ext 1 (.t 7)⟩,
    ⟨some 1, none, .mov (.t 9)⟩,
    ⟨some 2, none, .mov (.t 10)⟩]
    [1, 2])
  (.seq (.seq (.region [⟨some 11, none, .mov (.t 2)⟩,
    ⟨some 12, none, .bin .neq (.t 11) (.c (.int .i64 0))⟩,
    ⟨some 13, none, .mov (.t 12)⟩,
    ⟨some 14, some (13, false), .mov (.t 1)⟩,
    ⟨some 15, some (13, false), .eq false .ptr (.t 14) (.c (.pointer none))⟩,
    ⟨some 16, none, .pick (.t 13) (.c (.bool true)) (.t 15)⟩,
    ⟨some 17, none, .mov (.t 16)⟩,
    ⟨some 18, some (17, false), .mov (.t 1)⟩,
    ⟨some 19, some (17, false), .call F.cores_Set_Unplug [.t 18, .c (.int .i64 1)]⟩,
    ⟨some 20, some (17, false), .bin .neq (.t 19) (.c (.int .i64 0))⟩,
    ⟨some 21, none, .pick (.t 17) (.c (.bool true)) (.t 20)⟩]
    [1, 21])
  (.cond (.t 21)
    (.seq (.region [⟨some 0, none, .mov (.c (.bool false))⟩]
      [0])
    .ret)
    .skip))
  (.seq (.region [⟨some 23, none, .mov (.t 1)⟩,
    ⟨some 24, none, .call F.cores_Set_State [.t 23, .c (.int .i64 1)]⟩,
    ⟨some 22, none, .mov (.t 24)⟩,
    ⟨some 25, none, .ext 0 (.t 22)⟩,
    ⟨some 26, none, .ext 1 (.t 22)⟩,
    ⟨some 3, none, .mov (.t 25)⟩,
    ⟨some 4, none, .mov (.t 26)⟩]
    [1, 3, 4])
  (.seq (.region [⟨some 28, none, .mov (.t 1)⟩,
    ⟨some 29, none, .call F.cores_Set_Turn [.t 28]⟩,
    ⟨some 27, none, .mov (.t 29)⟩,
    ⟨some 30, none, .ext 0 (.t 27)⟩,
    ⟨some 31, none, .ext 1 (.t 27)⟩,
    ⟨some 5, none, .mov (.t 30)⟩,
    ⟨some 6, none, .mov (.t 31)⟩]
    [1, 3, 4, 5, 6])
  (.seq (.region [⟨some 32, none, .mov (.t 3)⟩,
    ⟨some 33, none, .bin .eql (.t 32) (.c (.int .i64 2))⟩,
    ⟨some 34, none, .mov (.t 33)⟩,
    ⟨some 35, some (34, true), .mov (.t 4)⟩,
    ⟨some 36, none, .pick (.t 34) (.t 35) (.c (.bool false))⟩,
    ⟨some 37, none, .mov (.t 36)⟩,
    ⟨some 38, some (37, true), .mov (.t 5)⟩,
    ⟨some 39, some (37, true), .bin .eql (.t 38) (.c (.int .u32 0))⟩,
    ⟨some 40, none, .pick (.t 37) (.t 39) (.c (.bool false))⟩,
    ⟨some 41, none, .mov (.t 40)⟩,
    ⟨some 42, some (41, true), .mov (.t 6)⟩,
    ⟨some 43, some (41, true), .bin .eql (.t 42) (.c (.int .u32 2))⟩,
    ⟨some 44, none, .pick (.t 41) (.t 43) (.c (.bool false))⟩,
    ⟨some 45, none, .mov (.t 44)⟩,
    ⟨some 46, some (45, true), .mov (.t 1)⟩,
    ⟨some 47, some (45, true), .call F.cores_Set_Unplug [.t 46, .c (.int .i64 0)]⟩,
    ⟨some 48, some (45, true), .bin .eql (.t 47) (.c (.int .i64 17))⟩,
    ⟨some 49, none, .pick (.t 45) (.t 48) (.c (.bool false))⟩,
    ⟨some 50, none, .mov (.t 49)⟩,
    ⟨some 51, some (50, true), .mov (.t 1)⟩,
    ⟨some 52, some (50, true), .call F.cores_Set_Plug [.t 51, .c (.int .i64 1)]⟩,
    ⟨some 53, some (50, true), .bin .eql (.t 52) (.c (.int .i64 15))⟩,
    ⟨some 54, none, .pick (.t 50) (.t 53) (.c (.bool false))⟩,
    ⟨some 55, none, .mov (.t 54)⟩,
    ⟨some 56, some (55, true), .mov (.t 1)⟩,
    ⟨some 57, some (55, true), .bslice [(.int .i64 0)] [(0, 1, .c (.int .i64 1))] 1 1⟩,
    ⟨some 58, some (55, true), .call F.cores_Set_Count [.t 56, .t 57]⟩,
    ⟨some 59, some (55, true), .bin .eql (.t 58) (.c (.int .i64 1))⟩,
    ⟨some 60, none, .pick (.t 55) (.t 59) (.c (.bool false))⟩,
    ⟨some 0, none, .mov (.t 60)⟩]
    [0])
  .ret))))))⟩

def RC.ref27_New : RFn := ⟨1, [.slot 2],
  (.seq (.region [⟨some 2, none, .mov (.c (.slice none 0 0))⟩]
    [0])
  (.seq (.region [⟨some 5, none, .bslice [] [] 0 1⟩,
    ⟨some 3, none, .mov (.t 5)⟩]
    [0, 3])
  (.seq (.seq (.region [⟨some 4, none, .mov (.c (.int .i64 0))⟩]
    [0, 3, 4])
  (.block 0
    (.loop [0, 3, 4]
      (.seq (.seq (.region [⟨some 6, none, .mov (.t 4)⟩,
        ⟨some 7, none, .mov (.t 0)⟩,
        ⟨some 8, none, .bin .lss (.t 6) (.t 7)⟩]
        [0, 3, 4, 8])
      (.cond (.t 8)
        .skip
        (.exit 0)))
      (.seq (.block 1
        (.region [⟨some 11, none, .mov (.t 3)⟩,
          ⟨some 12, none, .bslice [(.int .i64 0)] [(0, 1, .c (.int .i64 1))] 1 1⟩,
          ⟨some 13, none, .app 1 8 (.t 11) (.t 12)⟩,
          ⟨some 3, none, .mov (.t 13)⟩]
          [0, 3, 4]) [0, 3, 4])
      (.region [⟨some 9, none, .mov (.t 4)⟩,
        ⟨some 10, none, .bin .add (.t 9) (.c (.int .i64 1))⟩,
        ⟨some 4, none, .mov (.t 10)⟩]
        [0, 3, 4])))) [3]))
  (.seq (.region [⟨some 14, none, .mov (.t 3)⟩,
    ⟨some 2, none, .mov (.t 14)⟩]
    [2])
  .ret))))⟩

def RC.law27_step : RFn := ⟨3, [.slot 6, .slot 7, .slot 8],
  (.seq (.region [⟨some 5, none, .box (.t 2)⟩,
    ⟨some 6, none, .mov (.c (.pointer none))⟩,
    ⟨some 7, none, .mov (.c (.slice none 0 0))⟩,
    ⟨some 8, none, .mov (.c (.bool false))⟩]
    [0, 1, 5])
  (.seq (.region [⟨some 16, none, .fieldAddr 0 (.t 5)⟩,
    ⟨some 17, none, .load false 1 (.t 16)⟩]
    [0, 1, 5, 17])
  (.block 0
    (.seq (.seq (.region [⟨some 21, none, .bin .eql (.t 17) (.c (.int .i64 0))⟩,
      ⟨some 20, none, .mov (.t 21)⟩]
      [0, 1, 5, 17, 20])
    (.cond (.t 20)
      .skip
      (.region [⟨some 22, none, .bin .eql (.t 17) (.c (.int .i64 1))⟩,
        ⟨some 20, none, .mov (.t 22)⟩]
        [0, 1, 5, 17, 20])))
    (.cond (.t 20)
      (.seq (.region [⟨some 24, none, .mov (.t 1)⟩,
        ⟨some 25, none, .fieldAddr 1 (.t 5)⟩,
        ⟨some 26, none, .load false 1 (.t 25)⟩,
        ⟨some 27, none, .call F.ref27_Plug [.t 24, .t 26]⟩,
        ⟨some 23, none, .mov (.t 27)⟩,
        ⟨some 28, none, .ext 0 (.t 23)⟩,
        ⟨some 29, none, .ext 1 (.t 23)⟩,
        ⟨some 9, none, .mov (.t 28)⟩,
        ⟨some 10, none, .mov (.t 29)⟩]
        [0, 5, 9, 10])
      (.seq (.region [⟨some 30, none, .mov (.t 0)⟩,
        ⟨some 31, none, .mov (.t 9)⟩,
        ⟨some 32, none, .mov (.t 0)⟩,
        ⟨some 33, none, .fieldAddr 1 (.t 5)⟩,
        ⟨some 34, none, .load false 1 (.t 33)⟩,
        ⟨some 35, none, .call F.cores_Set_Plug [.t 32, .t 34]⟩,
        ⟨some 36, none, .mov (.t 10)⟩,
        ⟨some 37, none, .bin .eql (.t 35) (.t 36)⟩,
        ⟨some 6, none, .mov (.t 30)⟩,
        ⟨some 7, none, .mov (.t 31)⟩,
        ⟨some 8, none, .mov (.t 37)⟩]
        [6, 7, 8])
      .ret))
      (.seq (.seq (.region [⟨some 39, none, .bin .eql (.t 17) (.c (.int .i64 2))⟩,
        ⟨some 38, none, .mov (.t 39)⟩]
        [0, 1, 5, 17, 38])
      (.cond (.t 38)
        .skip
        (.region [⟨some 40, none, .bin .eql (.t 17) (.c (.int .i64 3))⟩,
          ⟨some 38, none, .mov (.t 40)⟩]
          [0, 1, 5, 17, 38])))
      (.cond (.t 38)
        (.seq (.region [⟨some 42, none, .mov (.t 1)⟩,
          ⟨some 43, none, .fieldAddr 1 (.t 5)⟩,
          ⟨some 44, none, .load false 1 (.t 43)⟩,
          ⟨some 45, none, .call F.ref27_Unplug [.t 42, .t 44]⟩,
          ⟨some 41, none, .mov (.t 45)⟩,
          ⟨some 46, none, .ext 0 (.t 41)⟩,
          ⟨some 47, none, .ext 1 (.t 41)⟩,
          ⟨some 11, none, .mov (.t 46)⟩,
          ⟨some 12, none, .mov (.t 47)⟩]
          [0, 5, 11, 12])
        (.seq (.region [⟨some 48, none, .mov (.t 0)⟩,
          ⟨some 49, none, .mov (.t 11)⟩,
          ⟨some 50, none, .mov (.t 0)⟩,
          ⟨some 51, none, .fieldAddr 1 (.t 5)⟩,
          ⟨some 52, none, .load false 1 (.t 51)⟩,
          ⟨some 53, none, .call F.cores_Set_Unplug [.t 50, .t 52]⟩,
          ⟨some 54, none, .mov (.t 12)⟩,
          ⟨some 55, none, .bin .eql (.t 53) (.t 54)⟩,
          ⟨some 6, none, .mov (.t 48)⟩,
          ⟨some 7, none, .mov (.t 49)⟩,
          ⟨some 8, none, .mov (.t 55)⟩]
          [6, 7, 8])
        .ret))
        (.seq (.seq (.region [⟨some 57, none, .bin .eql (.t 17) (.c (.int .i64 4))⟩,
          ⟨some 56, none, .mov (.t 57)⟩]
          [0, 1, 5, 17, 56])
        (.cond (.t 56)
          .skip
          (.region [⟨some 58, none, .bin .eql (.t 17) (.c (.int .i64 5))⟩,
            ⟨some 56, none, .mov (.t 58)⟩]
            [0, 1, 5, 17, 56])))
        (.cond (.t 56)
          (.seq (.region [⟨some 60, none, .mov (.t 0)⟩,
            ⟨some 61, none, .call F.cores_Set_Turn [.t 60]⟩,
            ⟨some 59, none, .mov (.t 61)⟩,
            ⟨some 62, none, .ext 0 (.t 59)⟩,
            ⟨some 63, none, .ext 1 (.t 59)⟩,
            ⟨some 13, none, .mov (.t 62)⟩,
            ⟨some 14, none, .mov (.t 63)⟩]
            [0, 1, 13, 14])
          (.seq (.region [⟨some 64, none, .mov (.t 0)⟩,
            ⟨some 65, none, .mov (.t 1)⟩,
            ⟨some 66, none, .call F.ref27_Turn [.t 65]⟩,
            ⟨some 67, none, .mov (.t 13)⟩,
            ⟨some 68, none, .mov (.t 1)⟩,
            ⟨some 69, none, .call F.ref27_Bits [.t 68, .c (.int .i64 4)]⟩,
            ⟨some 70, none, .bin .eql (.t 67) (.t 69)⟩,
            ⟨some 71, none, .mov (.t 70)⟩,
            ⟨some 72, some (71, true), .mov (.t 14)⟩,
            ⟨some 73, some (71, true), .mov (.t 1)⟩,
            ⟨some 74, some (71, true), .call F.ref27_Bits [.t 73, .c (.int .i64 2)]⟩,
            ⟨some 75, some (71, true), .bin .eql (.t 72) (.t 74)⟩,
            ⟨some 76, none, .pick (.t 71) (.t 75) (.c (.bool false))⟩,
            ⟨some 6, none, .mov (.t 64)⟩,
            ⟨some 7, none, .mov (.t 66)⟩,
            ⟨some 8, none, .mov (.t 76)⟩]
            [6, 7, 8])
          .ret))
          (.seq (.region [⟨some 78, none, .bin .eql (.t 17) (.c (.int .i64 6))⟩,
            ⟨some 77, none, .mov (.t 78)⟩]
            [0, 1, 5, 77])
          (.cond (.t 77)
            (.seq (.region [⟨some 79, none, .mov (.t 0)⟩,
              ⟨some 80, none, .call F.cores_Set_Fork [.t 79]⟩,
              ⟨some 15, none, .mov (.t 80)⟩]
              [0, 1, 5, 15])
            (.seq (.region [⟨some 81, none, .mov (.t 0)⟩,
              ⟨some 82, none, .fieldAddr 1 (.t 5)⟩,
              ⟨some 83, none, .load false 1 (.t 82)⟩,
              ⟨some 84, none, .call F.cores_Set_Unplug [.t 81, .t 83]⟩]
              [0, 1, 15])
            (.seq (.region [⟨some 85, none, .mov (.t 0)⟩,
              ⟨some 86, none, .call F.cores_Set_Turn [.t 85]⟩]
              [1, 15])
            (.seq (.region [⟨some 87, none, .mov (.t 15)⟩,
              ⟨some 88, none, .mov (.t 1)⟩,
              ⟨some 89, none, .mov (.t 15)⟩,
              ⟨some 90, none, .eq true .ptr (.t 89) (.c (.pointer none))⟩,
              ⟨some 6, none, .mov (.t 87)⟩,
              ⟨some 7, none, .mov (.t 88)⟩,
              ⟨some 8, none, .mov (.t 90)⟩]
              [6, 7, 8])
            .ret))))
            (.seq (.region [⟨some 18, none, .mov (.t 0)⟩,
              ⟨some 19, none, .mov (.t 1)⟩,
              ⟨some 6, none, .mov (.t 18)⟩,
              ⟨some 7, none, .mov (.t 19)⟩,
              ⟨some 8, none, .mov (.c (.bool true))⟩]
              [6, 7, 8])
            .ret))))))))) [6, 7, 8])))⟩

def RC.cores_Set_State : RFn := ⟨2, [.slot 4, .slot 5],
  (.seq (.region [⟨some 4, none, .mov (.c (.int .i64 0))⟩,
    ⟨some 5, none, .mov (.c (.bool false))⟩]
    [0, 1])
  (.seq (.seq (.region [⟨some 6, none, .mov (.t 1)⟩,
    ⟨some 7, none, .bin .lss (.t 6) (.c (.int .i64 0))⟩,
    ⟨some 8, none, .mov (.t 7)⟩,
    ⟨some 9, some (8, false), .mov (.t 1)⟩,
    ⟨some 10, some (8, false), .mov (.t 0)⟩,
    ⟨some 11, some (8, false), .call F.cores_Set_Len [.t 10]⟩,
    ⟨some 12, some (8, false), .bin .geq (.t 9) (.t 11)⟩,
    ⟨some 13, none, .pick (.t 8) (.c (.bool true)) (.t 12)⟩]
    [0, 1, 13])
  (.cond (.t 13)
    (.seq (.region [⟨some 4, none, .mov (.c (.int .i64 0))⟩,
      ⟨some 5, none, .mov (.c (.bool false))⟩]
      [4, 5])
    .ret)
    .skip))
  (.seq (.region [⟨some 14, none, .mov (.t 0)⟩,
    ⟨some 15, none, .nilchk (.t 14)⟩,
    ⟨some 16, none, .fieldAddr 0 (.t 15)⟩,
    ⟨some 17, none, .load false 1 (.t 16)⟩,
    ⟨some 18, none, .mov (.t 1)⟩,
    ⟨some 19, none, .idxS 1 (.t 17) (.t 18)⟩,
    ⟨some 20, none, .load false 1 (.t 19)⟩,
    ⟨some 4, none, .mov (.t 20)⟩,
    ⟨some 5, none, .mov (.c (.bool true))⟩]
    [4, 5])
  .ret)))⟩

def RC.cores_Set_Len : RFn := ⟨1, [.slot 2],
  (.seq (.region [⟨some 2, none, .mov (.c (.int .i64 0))⟩]
    [0])
  (.seq (.seq (.region [⟨some 3, none, .mov (.t 0)⟩,
    ⟨some 4, none, .eq false .ptr (.t 3) (.c (.pointer none))⟩]
    [0, 4])
  (.cond (.t 4)
    (.seq (.region [⟨some 2, none, .mov (.c (.int .i64 0))⟩]
      [2])
    .ret)
    .skip))
  (.seq (.region [⟨some 5, none, .mov (.t 0)⟩,
    ⟨some 6, none, .nilchk (.t 5)⟩,
    ⟨some 7, none, .fieldAddr 0 (.t 6)⟩,
    ⟨some 8, none, .load false 1 (.t 7)⟩,
    ⟨some 9, none, .len (.t 8)⟩,
    ⟨some 2, none, .mov (.t 9)⟩]
    [2])
  .ret)))⟩

def RC.cores_Set_In : RFn := ⟨2, [.slot 4],
  (.seq (.region [⟨some 4, none, .mov (.c (.int .u32 0))⟩]
    [0, 1])
  (.seq (.region [⟨some 5, none, .mov (.c (.int .u32 0))⟩]
    [0, 1, 5])
  (.seq (.seq (.region [⟨some 7, none, .mov (.t 0)⟩,
    ⟨some 8, none, .call F.cores_Set_Len [.t 7]⟩,
    ⟨some 9, none, .mov (.c (.int .i64 0))⟩]
    [0, 1, 5, 8, 9])
  (.block 0
    (.loop [0, 1, 5, 8, 9]
      (.seq (.region [⟨some 10, none, .bin .lss (.t 9) (.t 8)⟩]
        [0, 1, 5, 8, 9, 10])
      (.seq (.cond (.t 10)
        .skip
        (.exit 0))
      (.seq (.block 1
        (.seq (.region [⟨some 11, none, .mov (.t 9)⟩,
          ⟨some 6, none, .mov (.t 11)⟩]
          [0, 1, 5, 6, 8, 9])
        (.seq (.region [⟨some 12, none, .mov (.t 1)⟩,
          ⟨some 13, none, .mov (.t 0)⟩,
          ⟨some 14, none, .nilchk (.t 13)⟩,
          ⟨some 15, none, .fieldAddr 0 (.t 14)⟩,
          ⟨some 16, none, .load false 1 (.t 15)⟩,
          ⟨some 17, none, .mov (.t 6)⟩,
          ⟨some 18, none, .idxS 1 (.t 16) (.t 17)⟩,
          ⟨some 19, none, .load false 1 (.t 18)⟩,
          ⟨some 20, none, .call F.slices_Contains_int_int [.t 12, .t 19]⟩]
          [0, 1, 5, 6, 8, 9, 20])
        (.cond (.t 20)
          (.region [⟨some 21, none, .mov (.t 5)⟩,
            ⟨some 22, none, .mov (.t 6)⟩,
            ⟨some 23, none, .bin .shl (.c (.int .u32 1)) (.t 22)⟩,
            ⟨some 24, none, .bin .or (.t 21) (.t 23)⟩,
            ⟨some 5, none, .mov (.t 24)⟩]
            [0, 1, 5, 8, 9])
          .skip))) [0, 1, 5, 8, 9])
      (.region [⟨some 25, none, .bin .add (.t 9) (.c (.int .i64 1))⟩,
        ⟨some 9, none, .mov (.t 25)⟩]
        [0, 1, 5, 8, 9]))))) [5]))
  (.seq (.region [⟨some 26, none, .mov (.t 5)⟩,
    ⟨some 4, none, .mov (.t 26)⟩]
    [4])
  .ret))))⟩

def RC.ref27_Bits : RFn := ⟨2, [.slot 4],
  (.seq (.region [⟨some 4, none, .mov (.c (.int .u32 0))⟩]
    [0, 1])
  (.seq (.region [⟨some 5, none, .mov (.c (.int .u32 0))⟩]
    [0, 1, 5])
  (.seq (.region [⟨some 6, none, .mov (.c (.int .u32 1))⟩]
    [0, 1, 5, 6])
  (.seq (.seq (.region [⟨some 7, none, .mov (.c (.int .i64 0))⟩]
    [0, 1, 5, 6, 7])
  (.block 0
    (.loop [0, 1, 5, 6, 7]
      (.seq (.seq (.region [⟨some 8, none, .mov (.t 7)⟩,
        ⟨some 9, none, .mov (.t 0)⟩,
        ⟨some 10, none, .len (.t 9)⟩,
        ⟨some 11, none, .bin .lss (.t 8) (.t 10)⟩]
        [0, 1, 5, 6, 7, 11])
      (.cond (.t 11)
        .skip
        (.exit 0)))
      (.seq (.block 1
        (.seq (.seq (.region [⟨some 14, none, .mov (.t 0)⟩,
          ⟨some 15, none, .mov (.t 7)⟩,
          ⟨some 16, none, .idxS 1 (.t 14) (.t 15)⟩,
          ⟨some 17, none, .load false 1 (.t 16)⟩,
          ⟨some 18, none, .mov (.t 1)⟩,
          ⟨some 19, none, .bin .eql (.t 17) (.t 18)⟩]
          [0, 1, 5, 6, 7, 19])
        (.cond (.t 19)
          (.region [⟨some 20, none, .mov (.t 5)⟩,
            ⟨some 21, none, .mov (.t 6)⟩,
            ⟨some 22, none, .bin .add (.t 20) (.t 21)⟩,
            ⟨some 5, none, .mov (.t 22)⟩]
            [0, 1, 5, 6, 7])
          .skip))
        (.region [⟨some 23, none, .mov (.t 6)⟩,
          ⟨some 24, none, .bin .mul (.c (.int .u32 2)) (.t 23)⟩,
          ⟨some 6, none, .mov (.t 24)⟩]
          [0, 1, 5, 6, 7])) [0, 1, 5, 6, 7])
      (.region [⟨some 12, none, .mov (.t 7)⟩,
        ⟨some 13, none, .bin .add (.t 12) (.c (.int .i64 1))⟩,
        ⟨some 7, none, .mov (.t 13)⟩]
        [0, 1, 5, 6, 7])))) [5]))
  (.seq (.region [⟨some 25, none, .mov (.t 5)⟩,
    ⟨some 4, none, .mov (.t 25)⟩]
    [4])
  .ret)))))⟩

def RC.cores_Set_Count : RFn := ⟨2, [.slot 4],
  (.seq (.region [⟨some 4, none, .mov (.c (.int .i64 0))⟩]
    [0, 1])
  (.seq (.region [⟨some 5, none, .mov (.t 0)⟩,
    ⟨some 6, none, .mov (.t 1)⟩,
    ⟨some 7, none, .call F.cores_Set_In [.t 5, .t 6]⟩,
    ⟨some 8, none, .call F.math_bits_OnesCount32 [.t 7]⟩,
    ⟨some 4, none, .mov (.t 8)⟩]
    [4])
  .ret))⟩

def RC.ref27_Count : RFn := ⟨2, [.slot 4],
  (.seq (.region [⟨some 4, none, .mov (.c (.int .i64 0))⟩]
    [0, 1])
  (.seq (.region [⟨some 5, none, .mov (.c (.int .i64 0))⟩]
    [0, 1, 5])
  (.seq (.seq (.region [⟨some 6, none, .mov (.c (.int .i64 0))⟩]
    [0, 1, 5, 6])
  (.block 0
    (.loop [0, 1, 5, 6]
      (.seq (.seq (.region [⟨some 7, none, .mov (.t 6)⟩,
        ⟨some 8, none, .mov (.t 0)⟩,
        ⟨some 9, none, .len (.t 8)⟩,
        ⟨some 10, none, .bin .lss (.t 7) (.t 9)⟩]
        [0, 1, 5, 6, 10])
      (.cond (.t 10)
        .skip
        (.exit 0)))
      (.seq (.block 1
        (.seq (.region [⟨some 13, none, .mov (.t 0)⟩,
          ⟨some 14, none, .mov (.t 6)⟩,
          ⟨some 15, none, .idxS 1 (.t 13) (.t 14)⟩,
          ⟨some 16, none, .load false 1 (.t 15)⟩,
          ⟨some 17, none, .mov (.t 1)⟩,
          ⟨some 18, none, .bin .eql (.t 16) (.t 17)⟩]
          [0, 1, 5, 6, 18])
        (.cond (.t 18)
          (.region [⟨some 19, none, .mov (.t 5)⟩,
            ⟨some 20, none, .bin .add (.t 19) (.c (.int .i64 1))⟩,
            ⟨some 5, none, .mov (.t 20)⟩]
            [0, 1, 5, 6])
          .skip)) [0, 1, 5, 6])
      (.region [⟨some 11, none, .mov (.t 6)⟩,
        ⟨some 12, none, .bin .add (.t 11) (.c (.int .i64 1))⟩,
        ⟨some 6, none, .mov (.t 12)⟩]
        [0, 1, 5, 6])))) [5]))
  (.seq (.region [⟨some 21, none, .mov (.t 5)⟩,
    ⟨some 4, none, .mov (.t 21)⟩]
    [4])
  .ret))))⟩

def RC.cores_Set_Unplug : RFn := ⟨2, [.slot 4],
  (.seq (.region [⟨some 4, none, .mov (.c (.int .i64 0))⟩]
    [0, 1])
  (.seq (.region [⟨some 5, none, .mov (.t 0)⟩,
    ⟨some 6, none, .mov (.t 1)⟩,
    ⟨some 7, none, .call F.cores_Set_change [.t 5, .t 6, .c (.int .i64 1), .c (.int .i64 2)]⟩,
    ⟨some 4, none, .mov (.t 7)⟩]
    [4])
  .ret))⟩

def RC.cores_Set_Turn : RFn := ⟨1, [.slot 2, .slot 3],
  (.seq (.region [⟨some 2, none, .mov (.c (.int .u32 0))⟩,
    ⟨some 3, none, .mov (.c (.int .u32 0))⟩]
    [0, 2, 3])
  (.seq (.seq (.region [⟨some 6, none, .mov (.t 0)⟩,
    ⟨some 7, none, .eq false .ptr (.t 6) (.c (.pointer none))⟩]
    [0, 2, 3, 7])
  (.cond (.t 7)
    (.seq (.region [⟨some 2, none, .mov (.c (.int .u32 0))⟩,
      ⟨some 3, none, .mov (.c (.int .u32 0))⟩]
      [2, 3])
    .ret)
    .skip))
  (.seq (.seq (.region [⟨some 8, none, .mov (.t 0)⟩,
    ⟨some 9, none, .nilchk (.t 8)⟩,
    ⟨some 10, none, .fieldAddr 0 (.t 9)⟩,
    ⟨some 11, none, .load false 1 (.t 10)⟩,
    ⟨some 12, none, .len (.t 11)⟩,
    ⟨some 13, none, .mov (.c (.int .i64 0))⟩]
    [0, 2, 3, 11, 12, 13])
  (.block 0
    (.loop [0, 2, 3, 11, 12, 13]
      (.seq (.region [⟨some 14, none, .bin .lss (.t 13) (.t 12)⟩]
        [0, 2, 3, 11, 12, 13, 14])
      (.seq (.cond (.t 14)
        .skip
        (.exit 0))
      (.seq (.block 1
        (.seq (.region [⟨some 15, none, .mov (.t 13)⟩,
          ⟨some 16, none, .idxS 1 (.t 11) (.t 13)⟩,
          ⟨some 17, none, .load false 1 (.t 16)⟩,
          ⟨some 4, none, .mov (.t 15)⟩,
          ⟨some 5, none, .mov (.t 17)⟩]
          [0, 2, 3, 4, 5, 11, 12, 13])
        (.seq (.region [⟨some 18, none, .mov (.t 5)⟩]
          [0, 2, 3, 4, 11, 12, 13, 18])
        (.block 2
          (.seq (.region [⟨some 20, none, .bin .eql (.t 18) (.c (.int .i64 4))⟩,
            ⟨some 19, none, .mov (.t 20)⟩]
            [0, 2, 3, 4, 11, 12, 13, 18, 19])
          (.cond (.t 19)
            (.seq (.region [⟨some 21, none, .mov (.t 0)⟩,
              ⟨some 22, none, .nilchk (.t 21)⟩,
              ⟨some 23, none, .fieldAddr 0 (.t 22)⟩,
              ⟨some 24, none, .load false 1 (.t 23)⟩,
              ⟨some 25, none, .mov (.t 4)⟩,
              ⟨some 26, none, .idxS 1 (.t 24) (.t 25)⟩,
              ⟨none, none, .store 1 (.t 26) (.c (.int .i64 1))⟩]
              [0, 2, 3, 4, 11, 12, 13])
            (.region [⟨some 27, none, .mov (.t 2)⟩,
              ⟨some 28, none, .mov (.t 4)⟩,
              ⟨some 29, none, .bin .shl (.c (.int .u32 1)) (.t 28)⟩,
              ⟨some 30, none, .bin .or (.t 27) (.t 29)⟩,
              ⟨some 2, none, .mov (.t 30)⟩]
              [0, 2, 3, 11, 12, 13]))
            (.seq (.region [⟨some 32, none, .bin .eql (.t 18) (.c (.int .i64 2))⟩,
              ⟨some 31, none, .mov (.t 32)⟩]
              [0, 2, 3, 4, 11, 12, 13, 18, 31])
            (.cond (.t 31)
              (.seq (.region [⟨some 33, none, .mov (.t 0)⟩,
                ⟨some 34, none, .nilchk (.t 33)⟩,
                ⟨some 35, none, .fieldAddr 0 (.t 34)⟩,
                ⟨some 36, none, .load false 1 (.t 35)⟩,
                ⟨some 37, none, .mov (.t 4)⟩,
                ⟨some 38, none, .idxS 1 (.t 36) (.t 37)⟩,
                ⟨none, none, .store 1 (.t 38) (.c (.int .i64 3))⟩]
                [0, 2, 3, 4, 11, 12, 13])
              (.region [⟨some 39, none, .mov (.t 3)⟩,
                ⟨some 40, none, .mov (.t 4)⟩,
                ⟨some 41, none, .bin .shl (.c (.int .u32 1)) (.t 40)⟩,
                ⟨some 42, none, .bin .or (.t 39) (.t 41)⟩,
                ⟨some 3, none, .mov (.t 42)⟩]
                [0, 2, 3, 11, 12, 13]))
              (.seq (.region [⟨some 44, none, .bin .eql (.t 18) (.c (.int .i64 3))⟩,
                ⟨some 43, none, .mov (.t 44)⟩]
                [0, 2, 3, 4, 11, 12, 13, 43])
              (.cond (.t 43)
                (.region [⟨some 45, none, .mov (.t 0)⟩,
                  ⟨some 46, none, .nilchk (.t 45)⟩,
                  ⟨some 47, none, .fieldAddr 0 (.t 46)⟩,
                  ⟨some 48, none, .load false 1 (.t 47)⟩,
                  ⟨some 49, none, .mov (.t 4)⟩,
                  ⟨some 50, none, .idxS 1 (.t 48) (.t 49)⟩,
                  ⟨none, none, .store 1 (.t 50) (.c (.int .i64 0))⟩]
                  [0, 2, 3, 11, 12, 13])
                .skip)))))) [0, 2, 3, 11, 12, 13]))) [0, 2, 3, 11, 12, 13])
      (.region [⟨some 51, none, .bin .add (.t 13) (.c (.int .i64 1))⟩,
        ⟨some 13, none, .mov (.t 51)⟩]
        [0, 2, 3, 11, 12, 13]))))) [2, 3]))
  (.seq (.region [⟨some 52, none, .mov (.t 2)⟩,
    ⟨some 53, none, .mov (.t 3)⟩,
    ⟨some 2, none, .mov (.t 52)⟩,
    ⟨some 3, none, .mov (.t 53)⟩]
    [2, 3])
  .ret))))⟩

def RC.cores_Set_Plug : RFn := ⟨2, [.slot 4],
  (.seq (.region [⟨some 4, none, .mov (.c (.int .i64 0))⟩]
    [0, 1])
  (.seq (.region [⟨some 5, none, .mov (.t 0)⟩,
    ⟨some 6, none, .mov (.t 1)⟩,
    ⟨some 7, none, .call F.cores_Set_change [.t 5, .t 6, .c (.int .i64 0), .c (.int .i64 4)]⟩,
    ⟨some 4, none, .mov (.t 7)⟩]
    [4])
  .ret))⟩

def RC.cores_Set_Fork : RFn := ⟨1, [.slot 2],
  (.seq (.region [⟨some 2, none, .mov (.c (.pointer none))⟩]
    [0])
  (.seq (.seq (.region [⟨some 3, none, .mov (.t 0)⟩,
    ⟨some 4, none, .call F.cores_Set_Len [.t 3]⟩,
    ⟨some 5, none, .bin .eql (.t 4) (.c (.int .i64 0))⟩]
    [0, 5])
  (.cond (.t 5)
    (.seq (.region [⟨some 2, none, .mov (.c (.pointer none))⟩]
      [2])
    .ret)
    .skip))
  (.seq (.region [⟨some 6, none, .mov (.t 0)⟩,
    ⟨some 7, none, .nilchk (.t 6)⟩,
    ⟨some 8, none, .fieldAddr 0 (.t 7)⟩,
    ⟨some 9, none, .load false 1 (.t 8)⟩,
    ⟨some 10, none, .call F.slices_Clone_int_int [.t 9]⟩,
    ⟨some 11, none, .build [(.slice none 0 0)] [(0, 1, .t 10)]⟩,
    ⟨some 12, none, .box (.t 11)⟩,
    ⟨some 2, none, .mov (.t 12)⟩]
    [2])
  .ret)))⟩

def RC.slices_Repeat_int_int : RFn := ⟨2, [.slot 4],
  (.seq (.region [⟨some 4, none, .mov (.c (.slice none 0 0))⟩]
    [0, 1])
  (.seq (.seq (.region [⟨some 9, none, .mov (.t 1)⟩,
    ⟨some 10, none, .bin .lss (.t 9) (.c (.int .i64 0))⟩]
    [0, 1, 10])
  (.cond (.t 10)
    (.region [⟨some 11, none, .stop⟩,
      ⟨none, none, .stop⟩]
      [0, 1])
    .skip))
  (.seq (.region [⟨some 13, none, .mov (.t 0)⟩,
    ⟨some 14, none, .len (.t 13)⟩,
    ⟨some 15, none, .conv .u64 (.t 14)⟩,
    ⟨some 16, none, .mov (.t 1)⟩,
    ⟨some 17, none, .conv .u64 (.t 16)⟩,
    ⟨some 18, none, .call F.math_bits_Mul [.t 15, .t 17]⟩,
    ⟨some 12, none, .mov (.t 18)⟩,
    ⟨some 19, none, .ext 0 (.t 12)⟩,
    ⟨some 20, none, .ext 1 (.t 12)⟩,
    ⟨some 5, none, .mov (.t 19)⟩,
    ⟨some 6, none, .mov (.t 20)⟩]
    [0, 5, 6])
  (.seq (.seq (.region [⟨some 21, none, .mov (.t 5)⟩,
    ⟨some 22, none, .bin .gtr (.t 21) (.c (u64 0#64))⟩,
    ⟨some 23, none, .mov (.t 22)⟩,
    ⟨some 24, some (23, false), .mov (.t 6)⟩,
    ⟨some 25, some (23, false), .bin .gtr (.t 24) (.c (u64 9223372036854775807#64))⟩,
    ⟨some 26, none, .pick (.t 23) (.c (.bool true)) (.t 25)⟩]
    [0, 6, 26])
  (.cond (.t 26)
    (.region [⟨some 27, none, .stop⟩,
      ⟨none, none, .stop⟩]
      [0, 6])
    .skip))
  (.seq (.region [⟨some 28, none, .mov (.t 6)⟩,
    ⟨some 29, none, .conv .i64 (.t 28)⟩,
    ⟨some 30, none, .mkslice 1 8 [(.int .i64 0)] (.t 29) (.t 29)⟩,
    ⟨some 7, none, .mov (.t 30)⟩]
    [0, 7])
  (.seq (.region [⟨some 31, none, .mov (.t 7)⟩,
    ⟨some 32, none, .mov (.t 0)⟩,
    ⟨some 33, none, .copy 1 (.t 31) (.t 32)⟩,
    ⟨some 8, none, .mov (.t 33)⟩]
    [7, 8])
  (.seq (.block 0
    (.loop [7, 8]
      (.seq (.seq (.region [⟨some 34, none, .mov (.t 8)⟩,
        ⟨some 35, none, .mov (.t 7)⟩,
        ⟨some 36, none, .len (.t 35)⟩,
        ⟨some 37, none, .bin .lss (.t 34) (.t 36)⟩]
        [7, 8, 37])
      (.cond (.t 37)
        .skip
        (.exit 0)))
      (.block 1
        (.drawn [⟨some 38, none, .mov (.t 8)⟩,
          ⟨some 39, none, .mov (.t 7)⟩,
          ⟨some 40, none, .mov (.t 8)⟩,
          ⟨some 41, none, .sub 1 (.t 39) (some (.t 40)) none none⟩,
          ⟨some 42, none, .mov (.t 7)⟩,
          ⟨some 43, none, .mov (.t 8)⟩,
          ⟨some 44, none, .sub 1 (.t 42) none (some (.t 43)) none⟩,
          ⟨some 45, none, .copy 1 (.t 41) (.t 44)⟩,
          ⟨some 46, none, .bin .add (.t 38) (.t 45)⟩,
          ⟨some 8, none, .mov (.t 46)⟩]
          [[], [], [], [1, 2], [], [], [4, 5], [3, 6], [0, 7], [8, 7, 0, 1, 2, 3, 4, 5, 6, 7, 8]]
          [(0, []), (1, []), (2, []), (4, []), (5, []), (3, []), (6, []), (7, []), (8, []), (9, [])]
          [[], [], [], [1, 2], [], [], [4, 5], [1, 2, 3, 4, 5, 6], [0, 1, 2, 3, 4, 5, 6, 7], [0, 1, 2, 3, 4, 5, 6, 7, 8]]
          [7, 8]) [7, 8]))) [7])
  (.seq (.region [⟨some 47, none, .mov (.t 7)⟩,
    ⟨some 4, none, .mov (.t 47)⟩]
    [4])
  .ret))))))))⟩

def RC.ref27_Plug : RFn := ⟨2, [.slot 4, .slot 5],
  (.seq (.region [⟨some 4, none, .mov (.c (.slice none 0 0))⟩,
    ⟨some 5, none, .mov (.c (.int .i64 0))⟩]
    [0, 1])
  (.seq (.seq (.region [⟨some 6, none, .mov (.t 1)⟩,
    ⟨some 7, none, .bin .lss (.t 6) (.c (.int .i64 0))⟩,
    ⟨some 8, none, .mov (.t 7)⟩,
    ⟨some 9, some (8, false), .mov (.t 1)⟩,
    ⟨some 10, some (8, false), .mov (.t 0)⟩,
    ⟨some 11, some (8, false), .len (.t 10)⟩,
    ⟨some 12, some (8, false), .bin .geq (.t 9) (.t 11)⟩,
    ⟨some 13, none, .pick (.t 8) (.c (.bool true)) (.t 12)⟩]
    [0, 1, 13])
  (.cond (.t 13)
    (.seq (.region [⟨some 14, none, .mov (.t 0)⟩,
      ⟨some 4, none, .mov (.t 14)⟩,
      ⟨some 5, none, .mov (.c (.int .i64 24))⟩]
      [4, 5])
    .ret)
    .skip))
  (.seq (.seq (.region [⟨some 15, none, .mov (.t 0)⟩,
    ⟨some 16, none, .mov (.t 1)⟩,
    ⟨some 17, none, .idxS 1 (.t 15) (.t 16)⟩,
    ⟨some 18, none, .load false 1 (.t 17)⟩,
    ⟨some 19, none, .bin .neq (.t 18) (.c (.int .i64 0))⟩]
    [0, 1, 19])
  (.cond (.t 19)
    (.seq (.region [⟨some 20, none, .mov (.t 0)⟩,
      ⟨some 4, none, .mov (.t 20)⟩,
      ⟨some 5, none, .mov (.c (.int .i64 15))⟩]
      [4, 5])
    .ret)
    .skip))
  (.seq (.region [⟨some 21, none, .mov (.t 0)⟩,
    ⟨some 22, none, .mov (.t 1)⟩,
    ⟨some 23, none, .call F.ref27_with [.t 21, .t 22, .c (.int .i64 4)]⟩,
    ⟨some 4, none, .mov (.t 23)⟩,
    ⟨some 5, none, .mov (.c (.int .i64 0))⟩]
    [4, 5])
  .ret))))⟩

def RC.ref27_Unplug : RFn := ⟨2, [.slot 4, .slot 5],
  (.seq (.region [⟨some 4, none, .mov (.c (.slice none 0 0))⟩,
    ⟨some 5, none, .mov (.c (.int .i64 0))⟩]
    [0, 1])
  (.seq (.seq (.region [⟨some 6, none, .mov (.t 1)⟩,
    ⟨some 7, none, .bin .lss (.t 6) (.c (.int .i64 0))⟩,
    ⟨some 8, none, .mov (.t 7)⟩,
    ⟨some 9, some (8, false), .mov (.t 1)⟩,
    ⟨some 10, some (8, false), .mov (.t 0)⟩,
    ⟨some 11, some (8, false), .len (.t 10)⟩,
    ⟨some 12, some (8, false), .bin .geq (.t 9) (.t 11)⟩,
    ⟨some 13, none, .pick (.t 8) (.c (.bool true)) (.t 12)⟩]
    [0, 1, 13])
  (.cond (.t 13)
    (.seq (.region [⟨some 14, none, .mov (.t 0)⟩,
      ⟨some 4, none, .mov (.t 14)⟩,
      ⟨some 5, none, .mov (.c (.int .i64 24))⟩]
      [4, 5])
    .ret)
    .skip))
  (.seq (.seq (.region [⟨some 15, none, .mov (.t 0)⟩,
    ⟨some 16, none, .mov (.t 1)⟩,
    ⟨some 17, none, .idxS 1 (.t 15) (.t 16)⟩,
    ⟨some 18, none, .load false 1 (.t 17)⟩,
    ⟨some 19, none, .bin .neq (.t 18) (.c (.int .i64 1))⟩]
    [0, 1, 19])
  (.cond (.t 19)
    (.seq (.region [⟨some 20, none, .mov (.t 0)⟩,
      ⟨some 4, none, .mov (.t 20)⟩,
      ⟨some 5, none, .mov (.c (.int .i64 15))⟩]
      [4, 5])
    .ret)
    .skip))
  (.seq (.seq (.region [⟨some 21, none, .mov (.t 0)⟩,
    ⟨some 22, none, .call F.ref27_Count [.t 21, .c (.int .i64 1)]⟩,
    ⟨some 23, none, .bin .eql (.t 22) (.c (.int .i64 1))⟩]
    [0, 1, 23])
  (.cond (.t 23)
    (.seq (.region [⟨some 24, none, .mov (.t 0)⟩,
      ⟨some 4, none, .mov (.t 24)⟩,
      ⟨some 5, none, .mov (.c (.int .i64 17))⟩]
      [4, 5])
    .ret)
    .skip))
  (.seq (.region [⟨some 25, none, .mov (.t 0)⟩,
    ⟨some 26, none, .mov (.t 1)⟩,
    ⟨some 27, none, .call F.ref27_with [.t 25, .t 26, .c (.int .i64 2)]⟩,
    ⟨some 4, none, .mov (.t 27)⟩,
    ⟨some 5, none, .mov (.c (.int .i64 0))⟩]
    [4, 5])
  .ret)))))⟩

def RC.ref27_Turn : RFn := ⟨1, [.slot 2],
  (.seq (.region [⟨some 2, none, .mov (.c (.slice none 0 0))⟩]
    [0])
  (.seq (.region [⟨some 6, none, .bslice [] [] 0 1⟩,
    ⟨some 3, none, .mov (.t 6)⟩]
    [0, 3])
  (.seq (.seq (.region [⟨some 4, none, .mov (.c (.int .i64 0))⟩]
    [0, 3, 4])
  (.block 0
    (.loop [0, 3, 4]
      (.seq (.seq (.region [⟨some 7, none, .mov (.t 4)⟩,
        ⟨some 8, none, .mov (.t 0)⟩,
        ⟨some 9, none, .len (.t 8)⟩,
        ⟨some 10, none, .bin .lss (.t 7) (.t 9)⟩]
        [0, 3, 4, 10])
      (.cond (.t 10)
        .skip
        (.exit 0)))
      (.seq (.block 1
        (.seq (.region [⟨some 13, none, .mov (.t 0)⟩,
          ⟨some 14, none, .mov (.t 4)⟩,
          ⟨some 15, none, .idxS 1 (.t 13) (.t 14)⟩,
          ⟨some 16, none, .load false 1 (.t 15)⟩,
          ⟨some 5, none, .mov (.t 16)⟩]
          [0, 3, 4, 5])
        (.seq (.seq (.region [⟨some 17, none, .mov (.t 0)⟩,
          ⟨some 18, none, .mov (.t 4)⟩,
          ⟨some 19, none, .idxS 1 (.t 17) (.t 18)⟩,
          ⟨some 20, none, .load false 1 (.t 19)⟩]
          [0, 3, 4, 5, 20])
        (.block 2
          (.seq (.region [⟨some 22, none, .bin .eql (.t 20) (.c (.int .i64 2))⟩,
            ⟨some 21, none, .mov (.t 22)⟩]
            [0, 3, 4, 5, 20, 21])
          (.cond (.t 21)
            (.region [⟨some 5, none, .mov (.c (.int .i64 3))⟩]
              [0, 3, 4, 5])
            (.seq (.region [⟨some 24, none, .bin .eql (.t 20) (.c (.int .i64 3))⟩,
              ⟨some 23, none, .mov (.t 24)⟩]
              [0, 3, 4, 5, 20, 23])
            (.cond (.t 23)
              (.region [⟨some 5, none, .mov (.c (.int .i64 0))⟩]
                [0, 3, 4, 5])
              (.seq (.region [⟨some 26, none, .bin .eql (.t 20) (.c (.int .i64 4))⟩,
                ⟨some 25, none, .mov (.t 26)⟩]
                [0, 3, 4, 5, 25])
              (.cond (.t 25)
                (.region [⟨some 5, none, .mov (.c (.int .i64 1))⟩]
                  [0, 3, 4, 5])
                .skip)))))) [0, 3, 4, 5]))
        (.region [⟨some 27, none, .mov (.t 3)⟩,
          ⟨some 28, none, .mov (.t 5)⟩,
          ⟨some 29, none, .bslice [(.int .i64 0)] [(0, 1, .t 28)] 1 1⟩,
          ⟨some 30, none, .app 1 8 (.t 27) (.t 29)⟩,
          ⟨some 3, none, .mov (.t 30)⟩]
          [0, 3, 4]))) [0, 3, 4])
      (.region [⟨some 11, none, .mov (.t 4)⟩,
        ⟨some 12, none, .bin .add (.t 11) (.c (.int .i64 1))⟩,
        ⟨some 4, none, .mov (.t 12)⟩]
        [0, 3, 4])))) [3]))
  (.seq (.region [⟨some 31, none, .mov (.t 3)⟩,
    ⟨some 2, none, .mov (.t 31)⟩]
    [2])
  .ret))))⟩

def RC.slices_Contains_int_int : RFn := ⟨2, [.slot 4],
  (.seq (.region [⟨some 4, none, .mov (.c (.bool false))⟩]
    [0, 1])
  (.seq (.region [⟨some 5, none, .mov (.t 0)⟩,
    ⟨some 6, none, .mov (.t 1)⟩,
    ⟨some 7, none, .call F.slices_Index_int_int [.t 5, .t 6]⟩,
    ⟨some 8, none, .bin .geq (.t 7) (.c (.int .i64 0))⟩,
    ⟨some 4, none, .mov (.t 8)⟩]
    [4])
  .ret))⟩

def RC.math_bits_OnesCount32 : RFn := ⟨1, [.slot 2],
  (.seq (.region [⟨some 2, none, .mov (.c (.int .i64 0))⟩]
    [0])
  (.seq (.drawn [⟨some 3, none, .mov (.t 0)⟩,
    ⟨some 4, none, .bin .shr (.t 3) (.c (u64 24#64))⟩,
    ⟨some 5, none, .idxStr (.c (.string ⟨#[0, 1, 1, 2, 1, 2, 2, 3, 1, 2, 2, 3, 2, 3, 3, 4, 1, 2, 2, 3, 2, 3, 3, 4, 2, 3, 3, 4, 3, 4, 4, 5, 1, 2, 2, 3, 2, 3, 3, 4, 2, 3, 3, 4, 3, 4, 4, 5, 2, 3, 3, 4, 3, 4, 4, 5, 3, 4, 4, 5, 4, 5, 5, 6, 1, 2, 2, 3, 2, 3, 3, 4, 2, 3, 3, 4, 3, 4, 4, 5, 2, 3, 3, 4, 3, 4, 4, 5, 3, 4, 4, 5, 4, 5, 5, 6, 2, 3, 3, 4, 3, 4, 4, 5, 3, 4, 4, 5, 4, 5, 5, 6, 3, 4, 4, 5, 4, 5, 5, 6, 4, 5, 5, 6, 5, 6, 6, 7, 1, 2, 2, 3, 2, 3, 3, 4, 2, 3, 3, 4, 3, 4, 4, 5, 2, 3, 3, 4, 3, 4, 4, 5, 3, 4, 4, 5, 4, 5, 5, 6, 2, 3, 3, 4, 3, 4, 4, 5, 3, 4, 4, 5, 4, 5, 5, 6, 3, 4, 4, 5, 4, 5, 5, 6, 4, 5, 5, 6, 5, 6, 6, 7, 2, 3, 3, 4, 3, 4, 4, 5, 3, 4, 4, 5, 4, 5, 5, 6, 3, 4, 4, 5, 4, 5, 5, 6, 4, 5, 5, 6, 5, 6, 6, 7, 3, 4, 4, 5, 4, 5, 5, 6, 4, 5, 5, 6, 5, 6, 6, 7, 4, 5, 5, 6, 5, 6, 6, 7, 5, 6, 6, 7, 6, 7, 7, 8]⟩)) (.t 4)⟩,
    ⟨some 6, none, .mov (.t 0)⟩,
    ⟨some 7, none, .bin .shr (.t 6) (.c (u64 16#64))⟩,
    ⟨some 8, none, .bin .and (.t 7) (.c (.int .u32 255))⟩,
    ⟨some 9, none, .idxStr (.c (.string ⟨#[0, 1, 1, 2, 1, 2, 2, 3, 1, 2, 2, 3, 2, 3, 3, 4, 1, 2, 2, 3, 2, 3, 3, 4, 2, 3, 3, 4, 3, 4, 4, 5, 1, 2, 2, 3, 2, 3, 3, 4, 2, 3, 3, 4, 3, 4, 4, 5, 2, 3, 3, 4, 3, 4, 4, 5, 3, 4, 4, 5, 4, 5, 5, 6, 1, 2, 2, 3, 2, 3, 3, 4, 2, 3, 3, 4, 3, 4, 4, 5, 2, 3, 3, 4, 3, 4, 4, 5, 3, 4, 4, 5, 4, 5, 5, 6, 2, 3, 3, 4, 3, 4, 4, 5, 3, 4, 4, 5, 4, 5, 5, 6, 3, 4, 4, 5, 4, 5, 5, 6, 4, 5, 5, 6, 5, 6, 6, 7, 1, 2, 2, 3, 2, 3, 3, 4, 2, 3, 3, 4, 3, 4, 4, 5, 2, 3, 3, 4, 3, 4, 4, 5, 3, 4, 4, 5, 4, 5, 5, 6, 2, 3, 3, 4, 3, 4, 4, 5, 3, 4, 4, 5, 4, 5, 5, 6, 3, 4, 4, 5, 4, 5, 5, 6, 4, 5, 5, 6, 5, 6, 6, 7, 2, 3, 3, 4, 3, 4, 4, 5, 3, 4, 4, 5, 4, 5, 5, 6, 3, 4, 4, 5, 4, 5, 5, 6, 4, 5, 5, 6, 5, 6, 6, 7, 3, 4, 4, 5, 4, 5, 5, 6, 4, 5, 5, 6, 5, 6, 6, 7, 4, 5, 5, 6, 5, 6, 6, 7, 5, 6, 6, 7, 6, 7, 7, 8]⟩)) (.t 8)⟩,
    ⟨some 10, none, .bin .add (.t 5) (.t 9)⟩,
    ⟨some 11, none, .mov (.t 0)⟩,
    ⟨some 12, none, .bin .shr (.t 11) (.c (u64 8#64))⟩,
    ⟨some 13, none, .bin .and (.t 12) (.c (.int .u32 255))⟩,
    ⟨some 14, none, .idxStr (.c (.string ⟨#[0, 1, 1, 2, 1, 2, 2, 3, 1, 2, 2, 3, 2, 3, 3, 4, 1, 2, 2, 3, 2, 3, 3, 4, 2, 3, 3, 4, 3, 4, 4, 5, 1, 2, 2, 3, 2, 3, 3, 4, 2, 3, 3, 4, 3, 4, 4, 5, 2, 3, 3, 4, 3, 4, 4, 5, 3, 4, 4, 5, 4, 5, 5, 6, 1, 2, 2, 3, 2, 3, 3, 4, 2, 3, 3, 4, 3, 4, 4, 5, 2, 3, 3, 4, 3, 4, 4, 5, 3, 4, 4, 5, 4, 5, 5, 6, 2, 3, 3, 4, 3, 4, 4, 5, 3, 4, 4, 5, 4, 5, 5, 6, 3, 4, 4, 5, 4, 5, 5, 6, 4, 5, 5, 6, 5, 6, 6, 7, 1, 2, 2, 3, 2, 3, 3, 4, 2, 3, 3, 4, 3, 4, 4, 5, 2, 3, 3, 4, 3, 4, 4, 5, 3, 4, 4, 5, 4, 5, 5, 6, 2, 3, 3, 4, 3, 4, 4, 5, 3, 4, 4, 5, 4, 5, 5, 6, 3, 4, 4, 5, 4, 5, 5, 6, 4, 5, 5, 6, 5, 6, 6, 7, 2, 3, 3, 4, 3, 4, 4, 5, 3, 4, 4, 5, 4, 5, 5, 6, 3, 4, 4, 5, 4, 5, 5, 6, 4, 5, 5, 6, 5, 6, 6, 7, 3, 4, 4, 5, 4, 5, 5, 6, 4, 5, 5, 6, 5, 6, 6, 7, 4, 5, 5, 6, 5, 6, 6, 7, 5, 6, 6, 7, 6, 7, 7, 8]⟩)) (.t 13)⟩,
    ⟨some 15, none, .bin .add (.t 10) (.t 14)⟩,
    ⟨some 16, none, .mov (.t 0)⟩,
    ⟨some 17, none, .bin .and (.t 16) (.c (.int .u32 255))⟩,
    ⟨some 18, none, .idxStr (.c (.string ⟨#[0, 1, 1, 2, 1, 2, 2, 3, 1, 2, 2, 3, 2, 3, 3, 4, 1, 2, 2, 3, 2, 3, 3, 4, 2, 3, 3, 4, 3, 4, 4, 5, 1, 2, 2, 3, 2, 3, 3, 4, 2, 3, 3, 4, 3, 4, 4, 5, 2, 3, 3, 4, 3, 4, 4, 5, 3, 4, 4, 5, 4, 5, 5, 6, 1, 2, 2, 3, 2, 3, 3, 4, 2, 3, 3, 4, 3, 4, 4, 5, 2, 3, 3, 4, 3, 4, 4, 5, 3, 4, 4, 5, 4, 5, 5, 6, 2, 3, 3, 4, 3, 4, 4, 5, 3, 4, 4, 5, 4, 5, 5, 6, 3, 4, 4, 5, 4, 5, 5, 6, 4, 5, 5, 6, 5, 6, 6, 7, 1, 2, 2, 3, 2, 3, 3, 4, 2, 3, 3, 4, 3, 4, 4, 5, 2, 3, 3, 4, 3, 4, 4, 5, 3, 4, 4, 5, 4, 5, 5, 6, 2, 3, 3, 4, 3, 4, 4, 5, 3, 4, 4, 5, 4, 5, 5, 6, 3, 4, 4, 5, 4, 5, 5, 6, 4, 5, 5, 6, 5, 6, 6, 7, 2, 3, 3, 4, 3, 4, 4, 5, 3, 4, 4, 5, 4, 5, 5, 6, 3, 4, 4, 5, 4, 5, 5, 6, 4, 5, 5, 6, 5, 6, 6, 7, 3, 4, 4, 5, 4, 5, 5, 6, 4, 5, 5, 6, 5, 6, 6, 7, 4, 5, 5, 6, 5, 6, 6, 7, 5, 6, 6, 7, 6, 7, 7, 8]⟩)) (.t 17)⟩,
    ⟨some 19, none, .bin .add (.t 15) (.t 18)⟩,
    ⟨some 20, none, .conv .i64 (.t 19)⟩,
    ⟨some 2, none, .mov (.t 20)⟩]
    [[], [0], [1], [], [3], [4], [5], [2, 6], [], [8], [9], [10], [7, 11], [], [13], [14], [12, 15], [16], [17, 0, 1, 2, 3, 4, 5, 6, 7, 8, 9, 10, 11, 12, 13, 14, 15, 16, 17]]
    [(0, []), (1, []), (2, []), (3, []), (4, []), (5, []), (6, []), (7, []), (8, []), (9, []), (10, []), (11, []), (12, []), (13, []), (14, []), (15, []), (16, []), (17, []), (18, [])]
    [[], [0], [0, 1], [], [3], [3, 4], [3, 4, 5], [0, 1, 2, 3, 4, 5, 6], [], [8], [8, 9], [8, 9, 10], [0, 1, 2, 3, 4, 5, 6, 7, 8, 9, 10, 11], [], [13], [13, 14], [0, 1, 2, 3, 4, 5, 6, 7, 8, 9, 10, 11, 12, 13, 14, 15], [0, 1, 2, 3, 4, 5, 6, 7, 8, 9, 10, 11, 12, 13, 14, 15, 16], [0, 1, 2, 3, 4, 5, 6, 7, 8, 9, 10, 11, 12, 13, 14, 15, 16, 17]]
    [2])
  .ret))⟩

def RC.cores_Set_change : RFn := ⟨4, [.slot 8],
  (.seq (.region [⟨some 8, none, .mov (.c (.int .i64 0))⟩]
    [0, 1, 2, 3])
  (.seq (.seq (.region [⟨some 11, none, .mov (.t 0)⟩,
    ⟨some 12, none, .call F.cores_Set_Len [.t 11]⟩,
    ⟨some 13, none, .bin .eql (.t 12) (.c (.int .i64 0))⟩]
    [0, 1, 2, 3, 13])
  (.cond (.t 13)
    (.seq (.region [⟨some 8, none, .mov (.c (.int .i64 2))⟩]
      [8])
    .ret)
    .skip))
  (.seq (.seq (.region [⟨some 15, none, .mov (.t 0)⟩,
    ⟨some 16, none, .mov (.t 1)⟩,
    ⟨some 17, none, .call F.cores_Set_State [.t 15, .t 16]⟩,
    ⟨some 14, none, .mov (.t 17)⟩,
    ⟨some 18, none, .ext 0 (.t 14)⟩,
    ⟨some 19, none, .ext 1 (.t 14)⟩,
    ⟨some 9, none, .mov (.t 18)⟩,
    ⟨some 10, none, .mov (.t 19)⟩]
    [0, 1, 2, 3, 9, 10])
  (.block 0
    (.seq (.region [⟨some 21, none, .mov (.t 10)⟩,
      ⟨some 22, none, .un .not (.t 21)⟩,
      ⟨some 20, none, .mov (.t 22)⟩]
      [0, 1, 2, 3, 9, 20])
    (.cond (.t 20)
      (.seq (.region [⟨some 8, none, .mov (.c (.int .i64 24))⟩]
        [8])
      .ret)
      (.seq (.region [⟨some 24, none, .mov (.t 9)⟩,
        ⟨some 25, none, .mov (.t 2)⟩,
        ⟨some 26, none, .bin .neq (.t 24) (.t 25)⟩,
        ⟨some 23, none, .mov (.t 26)⟩]
        [0, 1, 3, 23])
      (.cond (.t 23)
        (.seq (.region [⟨some 8, none, .mov (.c (.int .i64 15))⟩]
          [8])
        .ret)
        (.seq (.region [⟨some 28, none, .mov (.t 3)⟩,
          ⟨some 29, none, .bin .eql (.t 28) (.c (.int .i64 2))⟩,
          ⟨some 30, none, .mov (.t 29)⟩,
          ⟨some 31, some (30, true), .mov (.t 0)⟩,
          ⟨some 32, some (30, true), .bslice [(.int .i64 0)] [(0, 1, .c (.int .i64 1))] 1 1⟩,
          ⟨some 33, some (30, true), .call F.cores_Set_Count [.t 31, .t 32]⟩,
          ⟨some 34, some (30, true), .bin .eql (.t 33) (.c (.int .i64 1))⟩,
          ⟨some 35, none, .pick (.t 30) (.t 34) (.c (.bool false))⟩,
          ⟨some 27, none, .mov (.t 35)⟩]
          [0, 1, 3, 27])
        (.cond (.t 27)
          (.seq (.region [⟨some 8, none, .mov (.c (.int .i64 17))⟩]
            [8])
          .ret)
          .skip)))))) [0, 1, 3]))
  (.seq (.region [⟨some 36, none, .mov (.t 0)⟩,
    ⟨some 37, none, .nilchk (.t 36)⟩,
    ⟨some 38, none, .fieldAddr 0 (.t 37)⟩,
    ⟨some 39, none, .load false 1 (.t 38)⟩,
    ⟨some 40, none, .mov (.t 1)⟩,
    ⟨some 41, none, .mov (.t 3)⟩,
    ⟨some 42, none, .idxS 1 (.t 39) (.t 40)⟩,
    ⟨none, none, .store 1 (.t 42) (.t 41)⟩]
    [])
  (.seq (.region [⟨some 8, none, .mov (.c (.int .i64 0))⟩]
    [8])
  .ret)))))⟩

def RC.slices_Clone_int_int : RFn := ⟨1, [.slot 2],
  (.seq (.region [⟨some 2, none, .mov (.c (.slice none 0 0))⟩]
    [0])
  (.seq (.seq (.region [⟨some 3, none, .mov (.t 0)⟩,
    ⟨some 4, none, .eq false .slice (.t 3) (.c (.slice none 0 0))⟩]
    [0, 4])
  (.cond (.t 4)
    (.seq (.region [⟨some 2, none, .mov (.c (.slice none 0 0))⟩]
      [2])
    .ret)
    .skip))
  (.seq (.region [⟨some 5, none, .bslice [] [] 0 1⟩,
    ⟨some 6, none, .mov (.t 0)⟩,
    ⟨some 7, none, .app 1 8 (.t 5) (.t 6)⟩,
    ⟨some 2, none, .mov (.t 7)⟩]
    [2])
  .ret)))⟩

def RC.math_bits_Mul : RFn := ⟨2, [.slot 4, .slot 5],
  (.seq (.region [⟨some 4, none, .mov (.c (u64 0#64))⟩,
    ⟨some 5, none, .mov (.c (u64 0#64))⟩]
    [0, 1])
  (.seq (.cond (.c (.bool false))
    (.seq (.region [⟨some 11, none, .mov (.t 0)⟩,
      ⟨some 12, none, .conv .u32 (.t 11)⟩,
      ⟨some 13, none, .mov (.t 1)⟩,
      ⟨some 14, none, .conv .u32 (.t 13)⟩,
      ⟨some 15, none, .call F.math_bits_Mul32 [.t 12, .t 14]⟩,
      ⟨some 10, none, .mov (.t 15)⟩,
      ⟨some 16, none, .ext 0 (.t 10)⟩,
      ⟨some 17, none, .ext 1 (.t 10)⟩,
      ⟨some 6, none, .mov (.t 16)⟩,
      ⟨some 7, none, .mov (.t 17)⟩]
      [6, 7])
    (.seq (.region [⟨some 18, none, .mov (.t 6)⟩,
      ⟨some 19, none, .conv .u64 (.t 18)⟩,
      ⟨some 20, none, .mov (.t 7)⟩,
      ⟨some 21, none, .conv .u64 (.t 20)⟩,
      ⟨some 4, none, .mov (.t 19)⟩,
      ⟨some 5, none, .mov (.t 21)⟩]
      [4, 5])
    .ret))
    .skip)
  (.seq (.region [⟨some 23, none, .mov (.t 0)⟩,
    ⟨some 24, none, .mov (.t 1)⟩,
    ⟨some 25, none, .call F.math_bits_Mul64 [.t 23, .t 24]⟩,
    ⟨some 22, none, .mov (.t 25)⟩,
    ⟨some 26, none, .ext 0 (.t 22)⟩,
    ⟨some 27, none, .ext 1 (.t 22)⟩,
    ⟨some 8, none, .mov (.t 26)⟩,
    ⟨some 9, none, .mov (.t 27)⟩]
    [8, 9])
  (.seq (.region [⟨some 28, none, .mov (.t 8)⟩,
    ⟨some 29, none, .mov (.t 9)⟩,
    ⟨some 4, none, .mov (.t 28)⟩,
    ⟨some 5, none, .mov (.t 29)⟩]
    [4, 5])
  .ret))))⟩

def RC.ref27_with : RFn := ⟨3, [.slot 6],
  (.seq (.region [⟨some 6, none, .mov (.c (.slice none 0 0))⟩]
    [0, 1, 2])
  (.seq (.region [⟨some 8, none, .bslice [] [] 0 1⟩,
    ⟨some 9, none, .mov (.t 0)⟩,
    ⟨some 10, none, .app 1 8 (.t 8) (.t 9)⟩,
    ⟨some 7, none, .mov (.t 10)⟩]
    [1, 2, 7])
  (.seq (.region [⟨some 11, none, .mov (.t 7)⟩,
    ⟨some 12, none, .mov (.t 1)⟩,
    ⟨some 13, none, .mov (.t 2)⟩,
    ⟨some 14, none, .idxS 1 (.t 11) (.t 12)⟩,
    ⟨none, none, .store 1 (.t 14) (.t 13)⟩]
    [7])
  (.seq (.region [⟨some 15, none, .mov (.t 7)⟩,
    ⟨some 6, none, .mov (.t 15)⟩]
    [6])
  .ret))))⟩

def RC.slices_Index_int_int : RFn := ⟨2, [.slot 4],
  (.seq (.region [⟨some 4, none, .mov (.c (.int .i64 0))⟩]
    [0, 1])
  (.seq (.seq (.region [⟨some 6, none, .mov (.t 0)⟩,
    ⟨some 7, none, .len (.t 6)⟩,
    ⟨some 8, none, .mov (.c (.int .i64 0))⟩]
    [0, 1, 7, 8])
  (.block 0
    (.loop [0, 1, 7, 8]
      (.seq (.region [⟨some 9, none, .bin .lss (.t 8) (.t 7)⟩]
        [0, 1, 7, 8, 9])
      (.seq (.cond (.t 9)
        .skip
        (.exit 0))
      (.seq (.block 1
        (.seq (.region [⟨some 10, none, .mov (.t 8)⟩,
          ⟨some 5, none, .mov (.t 10)⟩]
          [0, 1, 5, 7, 8])
        (.seq (.region [⟨some 11, none, .mov (.t 1)⟩,
          ⟨some 12, none, .mov (.t 0)⟩,
          ⟨some 13, none, .mov (.t 5)⟩,
          ⟨some 14, none, .idxS 1 (.t 12) (.t 13)⟩,
          ⟨some 15, none, .load false 1 (.t 14)⟩,
          ⟨some 16, none, .bin .eql (.t 11) (.t 15)⟩]
          [0, 1, 5, 7, 8, 16])
        (.cond (.t 16)
          (.seq (.region [⟨some 17, none, .mov (.t 5)⟩,
            ⟨some 4, none, .mov (.t 17)⟩]
            [4])
          .ret)
          .skip))) [0, 1, 7, 8])
      (.region [⟨some 18, none, .bin .add (.t 8) (.c (.int .i64 1))⟩,
        ⟨some 8, none, .mov (.t 18)⟩]
        [0, 1, 7, 8]))))) []))
  (.seq (.region [⟨some 4, none, .mov (.c (.int .i64 (-1)))⟩]
    [4])
  .ret)))⟩

def RC.math_bits_Mul32 : RFn := ⟨2, [.slot 4, .slot 5],
  (.seq (.region [⟨some 4, none, .mov (.c (.int .u32 0))⟩,
    ⟨some 5, none, .mov (.c (.int .u32 0))⟩]
    [0, 1])
  (.seq (.region [⟨some 7, none, .mov (.t 0)⟩,
    ⟨some 8, none, .conv .u64 (.t 7)⟩,
    ⟨some 9, none, .mov (.t 1)⟩,
    ⟨some 10, none, .conv .u64 (.t 9)⟩,
    ⟨some 11, none, .bin .mul (.t 8) (.t 10)⟩,
    ⟨some 6, none, .mov (.t 11)⟩]
    [6])
  (.seq (.region [⟨some 12, none, .mov (.t 6)⟩,
    ⟨some 13, none, .bin .shr (.t 12) (.c (u64 32#64))⟩,
    ⟨some 14, none, .conv .u32 (.t 13)⟩,
    ⟨some 15, none, .mov (.t 6)⟩,
    ⟨some 16, none, .conv .u32 (.t 15)⟩,
    ⟨some 4, none, .mov (.t 14)⟩,
    ⟨some 5, none, .mov (.t 16)⟩]
    [4, 5])
  .ret)))⟩

def RC.math_bits_Mul64 : RFn := ⟨2, [.slot 4, .slot 5],
  (.seq (.region [⟨some 4, none, .mov (.c (u64 0#64))⟩,
    ⟨some 5, none, .mov (.c (u64 0#64))⟩]
    [0, 1])
  (.seq (.region [⟨some 14, none, .mov (.t 0)⟩,
    ⟨some 15, none, .bin .and (.t 14) (.c (u64 4294967295#64))⟩,
    ⟨some 6, none, .mov (.t 15)⟩]
    [0, 1, 6])
  (.seq (.region [⟨some 16, none, .mov (.t 0)⟩,
    ⟨some 17, none, .bin .shr (.t 16) (.c (u64 32#64))⟩,
    ⟨some 7, none, .mov (.t 17)⟩]
    [0, 1, 6, 7])
  (.seq (.region [⟨some 18, none, .mov (.t 1)⟩,
    ⟨some 19, none, .bin .and (.t 18) (.c (u64 4294967295#64))⟩,
    ⟨some 8, none, .mov (.t 19)⟩]
    [0, 1, 6, 7, 8])
  (.seq (.region [⟨some 20, none, .mov (.t 1)⟩,
    ⟨some 21, none, .bin .shr (.t 20) (.c (u64 32#64))⟩,
    ⟨some 9, none, .mov (.t 21)⟩]
    [0, 1, 6, 7, 8, 9])
  (.seq (.region [⟨some 22, none, .mov (.t 6)⟩,
    ⟨some 23, none, .mov (.t 8)⟩,
    ⟨some 24, none, .bin .mul (.t 22) (.t 23)⟩,
    ⟨some 10, none, .mov (.t 24)⟩]
    [0, 1, 6, 7, 8, 9, 10])
  (.seq (.region [⟨some 25, none, .mov (.t 7)⟩,
    ⟨some 26, none, .mov (.t 8)⟩,
    ⟨some 27, none, .bin .mul (.t 25) (.t 26)⟩,
    ⟨some 28, none, .mov (.t 10)⟩,
    ⟨some 29, none, .bin .shr (.t 28) (.c (u64 32#64))⟩,
    ⟨some 30, none, .bin .add (.t 27) (.t 29)⟩,
    ⟨some 11, none, .mov (.t 30)⟩]
    [0, 1, 6, 7, 9, 11])
  (.seq (.region [⟨some 31, none, .mov (.t 11)⟩,
    ⟨some 32, none, .bin .and (.t 31) (.c (u64 4294967295#64))⟩,
    ⟨some 12, none, .mov (.t 32)⟩]
    [0, 1, 6, 7, 9, 11, 12])
  (.seq (.region [⟨some 33, none, .mov (.t 11)⟩,
    ⟨some 34, none, .bin .shr (.t 33) (.c (u64 32#64))⟩,
    ⟨some 13, none, .mov (.t 34)⟩]
    [0, 1, 6, 7, 9, 12, 13])
  (.seq (.region [⟨some 35, none, .mov (.t 12)⟩,
    ⟨some 36, none, .mov (.t 6)⟩,
    ⟨some 37, none, .mov (.t 9)⟩,
    ⟨some 38, none, .bin .mul (.t 36) (.t 37)⟩,
    ⟨some 39, none, .bin .add (.t 35) (.t 38)⟩,
    ⟨some 12, none, .mov (.t 39)⟩]
    [0, 1, 7, 9, 12, 13])
  (.seq (.region [⟨some 40, none, .mov (.t 7)⟩,
    ⟨some 41, none, .mov (.t 9)⟩,
    ⟨some 42, none, .bin .mul (.t 40) (.t 41)⟩,
    ⟨some 43, none, .mov (.t 13)⟩,
    ⟨some 44, none, .bin .add (.t 42) (.t 43)⟩,
    ⟨some 45, none, .mov (.t 12)⟩,
    ⟨some 46, none, .bin .shr (.t 45) (.c (u64 32#64))⟩,
    ⟨some 47, none, .bin .add (.t 44) (.t 46)⟩,
    ⟨some 4, none, .mov (.t 47)⟩]
    [0, 1, 4])
  (.seq (.region [⟨some 48, none, .mov (.t 0)⟩,
    ⟨some 49, none, .mov (.t 1)⟩,
    ⟨some 50, none, .bin .mul (.t 48) (.t 49)⟩,
    ⟨some 5, none, .mov (.t 50)⟩]
    [4, 5])
  .ret))))))))))))⟩

def tab0 : List (Nat × FEnt) := [(F.law27_CoresPlay, .rc RC.law27_CoresPlay),
  (F.law27_CoresNever, .rc RC.law27_CoresNever),
  (F.law27_CoresTwo, .rc RC.law27_CoresTwo),
  (F.law27_CoresNobody, .rc RC.law27_CoresNobody),
  (F.cores_New, .rc RC.cores_New),
  (F.law27_awake, .rc RC.law27_awake),
  (F.ref27_New, .rc RC.ref27_New),
  (F.law27_step, .rc RC.law27_step),
  (F.cores_Set_State, .rc RC.cores_Set_State),
  (F.cores_Set_Len, .rc RC.cores_Set_Len),
  (F.cores_Set_In, .rc RC.cores_Set_In),
  (F.ref27_Bits, .rc RC.ref27_Bits),
  (F.cores_Set_Count, .rc RC.cores_Set_Count),
  (F.ref27_Count, .rc RC.ref27_Count),
  (F.cores_Set_Unplug, .rc RC.cores_Set_Unplug),
  (F.cores_Set_Turn, .rc RC.cores_Set_Turn),
  (F.cores_Set_Plug, .rc RC.cores_Set_Plug),
  (F.cores_Set_Fork, .rc RC.cores_Set_Fork),
  (F.slices_Repeat_int_int, .rc RC.slices_Repeat_int_int),
  (F.ref27_Plug, .rc RC.ref27_Plug),
  (F.ref27_Unplug, .rc RC.ref27_Unplug),
  (F.ref27_Turn, .rc RC.ref27_Turn),
  (F.slices_Contains_int_int, .rc RC.slices_Contains_int_int),
  (F.math_bits_OnesCount32, .rc RC.math_bits_OnesCount32),
  (F.cores_Set_change, .rc RC.cores_Set_change),
  (F.slices_Clone_int_int, .rc RC.slices_Clone_int_int),
  (F.math_bits_Mul, .rc RC.math_bits_Mul),
  (F.ref27_with, .rc RC.ref27_with),
  (F.slices_Index_int_int, .rc RC.slices_Index_int_int),
  (F.math_bits_Mul32, .rc RC.math_bits_Mul32),
  (F.math_bits_Mul64, .rc RC.math_bits_Mul64)]
/-- What each number stands for. -/
def R0 : Nat → Option FEnt := lookF tab0
/-- The same, with the examples as known. -/
def tab : List (Nat × FEnt) := (F.law27_awake, .ext X.ok) :: tab0
def R : Nat → Option FEnt := lookF tab
theorem R.law27_awake : R F.law27_awake = some (.ext X.ok) := by with_unfolding_all rfl
theorem R.law27_CoresPlay : R F.law27_CoresPlay = some (.rc RC.law27_CoresPlay) := by with_unfolding_all rfl
theorem R.law27_CoresNever : R F.law27_CoresNever = some (.rc RC.law27_CoresNever) := by with_unfolding_all rfl
theorem R.law27_CoresTwo : R F.law27_CoresTwo = some (.rc RC.law27_CoresTwo) := by with_unfolding_all rfl
theorem R.law27_CoresNobody : R F.law27_CoresNobody = some (.rc RC.law27_CoresNobody) := by with_unfolding_all rfl
theorem R.cores_New : R F.cores_New = some (.rc RC.cores_New) := by with_unfolding_all rfl
theorem R.ref27_New : R F.ref27_New = some (.rc RC.ref27_New) := by with_unfolding_all rfl
theorem R.law27_step : R F.law27_step = some (.rc RC.law27_step) := by with_unfolding_all rfl
theorem R.cores_Set_State : R F.cores_Set_State = some (.rc RC.cores_Set_State) := by with_unfolding_all rfl
theorem R.cores_Set_Len : R F.cores_Set_Len = some (.rc RC.cores_Set_Len) := by with_unfolding_all rfl
theorem R.cores_Set_In : R F.cores_Set_In = some (.rc RC.cores_Set_In) := by with_unfolding_all rfl
theorem R.ref27_Bits : R F.ref27_Bits = some (.rc RC.ref27_Bits) := by with_unfolding_all rfl
theorem R.cores_Set_Count : R F.cores_Set_Count = some (.rc RC.cores_Set_Count) := by with_unfolding_all rfl
theorem R.ref27_Count : R F.ref27_Count = some (.rc RC.ref27_Count) := by with_unfolding_all rfl
theorem R.cores_Set_Unplug : R F.cores_Set_Unplug = some (.rc RC.cores_Set_Unplug) := by with_unfolding_all rfl
theorem R.cores_Set_Turn : R F.cores_Set_Turn = some (.rc RC.cores_Set_Turn) := by with_unfolding_all rfl
theorem R.cores_Set_Plug : R F.cores_Set_Plug = some (.rc RC.cores_Set_Plug) := by with_unfolding_all rfl
theorem R.cores_Set_Fork : R F.cores_Set_Fork = some (.rc RC.cores_Set_Fork) := by with_unfolding_all rfl
theorem R.slices_Repeat_int_int : R F.slices_Repeat_int_int = some (.rc RC.slices_Repeat_int_int) := by with_unfolding_all rfl
theorem R.ref27_Plug : R F.ref27_Plug = some (.rc RC.ref27_Plug) := by with_unfolding_all rfl
theorem R.ref27_Unplug : R F.ref27_Unplug = some (.rc RC.ref27_Unplug) := by with_unfolding_all rfl
theorem R.ref27_Turn : R F.ref27_Turn = some (.rc RC.ref27_Turn) := by with_unfolding_all rfl
theorem R.slices_Contains_int_int : R F.slices_Contains_int_int = some (.rc RC.slices_Contains_int_int) := by with_unfolding_all rfl
theorem R.math_bits_OnesCount32 : R F.math_bits_OnesCount32 = some (.rc RC.math_bits_OnesCount32) := by with_unfolding_all rfl
theorem R.cores_Set_change : R F.cores_Set_change = some (.rc RC.cores_Set_change) := by with_unfolding_all rfl
theorem R.slices_Clone_int_int : R F.slices_Clone_int_int = some (.rc RC.slices_Clone_int_int) := by with_unfolding_all rfl
theorem R.math_bits_Mul : R F.math_bits_Mul = some (.rc RC.math_bits_Mul) := by with_unfolding_all rfl
theorem R.ref27_with : R F.ref27_with = some (.rc RC.ref27_with) := by with_unfolding_all rfl
theorem R.slices_Index_int_int : R F.slices_Index_int_int = some (.rc RC.slices_Index_int_int) := by with_unfolding_all rfl
theorem R.math_bits_Mul32 : R F.math_bits_Mul32 = some (.rc RC.math_bits_Mul32) := by with_unfolding_all rfl
theorem R.math_bits_Mul64 : R F.math_bits_Mul64 = some (.rc RC.math_bits_Mul64) := by with_unfolding_all rfl
end Go.Am


/- The table of the layer cores is as the program has it. Printed by lawgen.py. -/
namespace Go.Am
open Go.Proofs
set_option maxRecDepth 100000

/-- Nothing is asked of the world. -/
def G : Nat → World → Prop := fun _ _ => True
instance : Keeps G := ⟨fun _ _ _ _ h => h⟩
instance : Rises G := ⟨fun _ _ _ _ h => h⟩
theorem hmix : Try.prog.follows .mixedOrders = true := by kernel_rfl
theorem E.law27_CoresPlay : EntOk Try.prog G F.law27_CoresPlay (.rc RC.law27_CoresPlay) := ⟨Try.f3, by unfold F.law27_CoresPlay; exact Try.func3, by kernel_rfl, by kernel_rfl⟩
theorem E.law27_CoresNever : EntOk Try.prog G F.law27_CoresNever (.rc RC.law27_CoresNever) := ⟨Try.f4, by unfold F.law27_CoresNever; exact Try.func4, by kernel_rfl, by kernel_rfl⟩
theorem E.law27_CoresTwo : EntOk Try.prog G F.law27_CoresTwo (.rc RC.law27_CoresTwo) := ⟨Try.f5, by unfold F.law27_CoresTwo; exact Try.func5, by kernel_rfl, by kernel_rfl⟩
theorem E.law27_CoresNobody : EntOk Try.prog G F.law27_CoresNobody (.rc RC.law27_CoresNobody) := ⟨Try.f6, by unfold F.law27_CoresNobody; exact Try.func6, by kernel_rfl, by kernel_rfl⟩
theorem E.cores_New : EntOk Try.prog G F.cores_New (.rc RC.cores_New) := ⟨Try.f7, by unfold F.cores_New; exact Try.func7, by kernel_rfl, by kernel_rfl⟩
theorem E.law27_awake : EntOk Try.prog G F.law27_awake (.rc RC.law27_awake) := ⟨Try.f8, by unfold F.law27_awake; exact Try.func8, by kernel_rfl, by kernel_rfl⟩
theorem E.ref27_New : EntOk Try.prog G F.ref27_New (.rc RC.ref27_New) := ⟨Try.f9, by unfold F.ref27_New; exact Try.func9, by kernel_rfl, by kernel_rfl⟩
theorem E.law27_step : EntOk Try.prog G F.law27_step (.rc RC.law27_step) := ⟨Try.f10, by unfold F.law27_step; exact Try.func10, by kernel_rfl, by kernel_rfl⟩
theorem E.cores_Set_State : EntOk Try.prog G F.cores_Set_State (.rc RC.cores_Set_State) := ⟨Try.f11, by unfold F.cores_Set_State; exact Try.func11, by kernel_rfl, by kernel_rfl⟩
theorem E.cores_Set_Len : EntOk Try.prog G F.cores_Set_Len (.rc RC.cores_Set_Len) := ⟨Try.f12, by unfold F.cores_Set_Len; exact Try.func12, by kernel_rfl, by kernel_rfl⟩
theorem E.cores_Set_In : EntOk Try.prog G F.cores_Set_In (.rc RC.cores_Set_In) := ⟨Try.f13, by unfold F.cores_Set_In; exact Try.func13, by kernel_rfl, by kernel_rfl⟩
theorem E.ref27_Bits : EntOk Try.prog G F.ref27_Bits (.rc RC.ref27_Bits) := ⟨Try.f14, by unfold F.ref27_Bits; exact Try.func14, by kernel_rfl, by kernel_rfl⟩
theorem E.cores_Set_Count : EntOk Try.prog G F.cores_Set_Count (.rc RC.cores_Set_Count) := ⟨Try.f15, by unfold F.cores_Set_Count; exact Try.func15, by kernel_rfl, by kernel_rfl⟩
theorem E.ref27_Count : EntOk Try.prog G F.ref27_Count (.rc RC.ref27_Count) := ⟨Try.f16, by unfold F.ref27_Count; exact Try.func16, by kernel_rfl, by kernel_rfl⟩
theorem E.cores_Set_Unplug : EntOk Try.prog G F.cores_Set_Unplug (.rc RC.cores_Set_Unplug) := ⟨Try.f17, by unfold F.cores_Set_Unplug; exact Try.func17, by kernel_rfl, by kernel_rfl⟩
theorem E.cores_Set_Turn : EntOk Try.prog G F.cores_Set_Turn (.rc RC.cores_Set_Turn) := ⟨Try.f18, by unfold F.cores_Set_Turn; exact Try.func18, by kernel_rfl, by kernel_rfl⟩
theorem E.cores_Set_Plug : EntOk Try.prog G F.cores_Set_Plug (.rc RC.cores_Set_Plug) := ⟨Try.f19, by unfold F.cores_Set_Plug; exact Try.func19, by kernel_rfl, by kernel_rfl⟩
theorem E.cores_Set_Fork : EntOk Try.prog G F.cores_Set_Fork (.rc RC.cores_Set_Fork) := ⟨Try.f20, by unfold F.cores_Set_Fork; exact Try.func20, by kernel_rfl, by kernel_rfl⟩
theorem E.slices_Repeat_int_int : EntOk Try.prog G F.slices_Repeat_int_int (.rc RC.slices_Repeat_int_int) := ⟨Try.f21, by unfold F.slices_Repeat_int_int; exact Try.func21, by kernel_rfl, by kernel_rfl⟩
theorem E.ref27_Plug : EntOk Try.prog G F.ref27_Plug (.rc RC.ref27_Plug) := ⟨Try.f22, by unfold F.ref27_Plug; exact Try.func22, by kernel_rfl, by kernel_rfl⟩
theorem E.ref27_Unplug : EntOk Try.prog G F.ref27_Unplug (.rc RC.ref27_Unplug) := ⟨Try.f23, by unfold F.ref27_Unplug; exact Try.func23, by kernel_rfl, by kernel_rfl⟩
theorem E.ref27_Turn : EntOk Try.prog G F.ref27_Turn (.rc RC.ref27_Turn) := ⟨Try.f24, by unfold F.ref27_Turn; exact Try.func24, by kernel_rfl, by kernel_rfl⟩
theorem E.slices_Contains_int_int : EntOk Try.prog G F.slices_Contains_int_int (.rc RC.slices_Contains_int_int) := ⟨Try.f25, by unfold F.slices_Contains_int_int; exact Try.func25, by kernel_rfl, by kernel_rfl⟩
theorem E.math_bits_OnesCount32 : EntOk Try.prog G F.math_bits_OnesCount32 (.rc RC.math_bits_OnesCount32) := ⟨Try.f26, by unfold F.math_bits_OnesCount32; exact Try.func26, by kernel_rfl, by kernel_rfl⟩
theorem E.cores_Set_change : EntOk Try.prog G F.cores_Set_change (.rc RC.cores_Set_change) := ⟨Try.f27, by unfold F.cores_Set_change; exact Try.func27, by kernel_rfl, by kernel_rfl⟩
theorem E.slices_Clone_int_int : EntOk Try.prog G F.slices_Clone_int_int (.rc RC.slices_Clone_int_int) := ⟨Try.f28, by unfold F.slices_Clone_int_int; exact Try.func28, by kernel_rfl, by kernel_rfl⟩
theorem E.math_bits_Mul : EntOk Try.prog G F.math_bits_Mul (.rc RC.math_bits_Mul) := ⟨Try.f29, by unfold F.math_bits_Mul; exact Try.func29, by kernel_rfl, by kernel_rfl⟩
theorem E.ref27_with : EntOk Try.prog G F.ref27_with (.rc RC.ref27_with) := ⟨Try.f30, by unfold F.ref27_with; exact Try.func30, by kernel_rfl, by kernel_rfl⟩
theorem E.slices_Index_int_int : EntOk Try.prog G F.slices_Index_int_int (.rc RC.slices_Index_int_int) := ⟨Try.f31, by unfold F.slices_Index_int_int; exact Try.func31, by kernel_rfl, by kernel_rfl⟩
theorem E.math_bits_Mul32 : EntOk Try.prog G F.math_bits_Mul32 (.rc RC.math_bits_Mul32) := ⟨Try.f32, by unfold F.math_bits_Mul32; exact Try.func32, by kernel_rfl, by kernel_rfl⟩
theorem E.math_bits_Mul64 : EntOk Try.prog G F.math_bits_Mul64 (.rc RC.math_bits_Mul64) := ⟨Try.f33, by unfold F.math_bits_Mul64; exact Try.func33, by kernel_rfl, by kernel_rfl⟩
theorem ents : EntsOk Try.prog G tab0 := ⟨E.law27_CoresPlay, E.law27_CoresNever, E.law27_CoresTwo, E.law27_CoresNobody, E.cores_New, E.law27_awake, E.ref27_New, E.law27_step, E.cores_Set_State, E.cores_Set_Len, E.cores_Set_In, E.ref27_Bits, E.cores_Set_Count, E.ref27_Count, E.cores_Set_Unplug, E.cores_Set_Turn, E.cores_Set_Plug, E.cores_Set_Fork, E.slices_Repeat_int_int, E.ref27_Plug, E.ref27_Unplug, E.ref27_Turn, E.slices_Contains_int_int, E.math_bits_OnesCount32, E.cores_Set_change, E.slices_Clone_int_int, E.math_bits_Mul, E.ref27_with, E.slices_Index_int_int, E.math_bits_Mul32, E.math_bits_Mul64, trivial⟩
theorem tabOk0 : TabOk Try.prog G R0 := TabOk.of ents
theorem C.law27_awake : EntOk Try.prog G F.law27_awake (.ext X.ok) := X.ok_sim (const_sim hmix tabOk0 (n := 1000) (by kernel_rfl))
theorem tabOk : TabOk Try.prog G R := TabOk.of (l := tab) (⟨C.law27_awake, ents⟩)
end Go.Am


/- CoresNobody, run. -/
namespace Go.Am
theorem law27_CoresNobody_dead (us : List Value) (h : DdAs [(false, [.int .i64])] us) : ∃ n, (eFn R n F.law27_CoresNobody us memD).map Prod.fst = some (.bool true) := by
  obtain ⟨_, _, rfl, h1, h⟩ := h.one; cases h.none
  obtain ⟨n, rfl, -⟩ := h1.c.int
  refine ⟨200, ?_⟩
  rcases n with n | (_ | n) <;> kernel_rfl
end Go.Am
