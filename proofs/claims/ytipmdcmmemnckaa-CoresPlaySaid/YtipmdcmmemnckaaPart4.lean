/- Parts of the proofs of the statements of this seat: AmTabCores, AmTieCores, MaskPop, CoresP, AmBlk, CoresTab, CoresW, CoresW2, CoresMul, AmSl2. No conditions. -/
import Derived.Test.YtipmdcmmemnckaaPart3
import Derived.Test.YtipmdcmmemnckaaRows
set_option linter.unusedVariables false
set_option linter.unusedSimpArgs false

/- The functions of the layer cores in the form of the abstract machine. Printed by amgen.py. -/
set_option linter.unusedVariables false
namespace Go.Am

@[irreducible] def F.law27_CoresPlay : Nat := 3
@[irreducible] def F.law27_CoresNever : Nat := 4
@[irreducible] def F.law27_CoresTwo : Nat := 5
@[irreducible] def F.law27_CoresNobody : Nat := 6
@[irreducible] def F.cores_New : Nat := 7
@[irreducible] def F.law27_awake : Nat := 8
@[irreducible] def F.ref27_New : Nat := 9
@[irreducible] def F.law27_step : Nat := 10
@[irreducible] def F.cores_Set_State : Nat := 11
@[irreducible] def F.cores_Set_Len : Nat := 12
@[irreducible] def F.cores_Set_In : Nat := 13
@[irreducible] def F.ref27_Bits : Nat := 14
@[irreducible] def F.cores_Set_Count : Nat := 15
@[irreducible] def F.ref27_Count : Nat := 16
@[irreducible] def F.cores_Set_Unplug : Nat := 17
@[irreducible] def F.cores_Set_Turn : Nat := 18
@[irreducible] def F.cores_Set_Plug : Nat := 19
@[irreducible] def F.cores_Set_Fork : Nat := 20
@[irreducible] def F.slices_Repeat_int_int : Nat := 21
@[irreducible] def F.ref27_Plug : Nat := 22
@[irreducible] def F.ref27_Unplug : Nat := 23
@[irreducible] def F.ref27_Turn : Nat := 24
@[irreducible] def F.slices_Contains_int_int : Nat := 25
@[irreducible] def F.math_bits_OnesCount32 : Nat := 26
@[irreducible] def F.cores_Set_change : Nat := 27
@[irreducible] def F.slices_Clone_int_int : Nat := 28
@[irreducible] def F.math_bits_Mul : Nat := 29
@[irreducible] def F.ref27_with : Nat := 30
@[irreducible] def F.slices_Index_int_int : Nat := 31
@[irreducible] def F.math_bits_Mul32 : Nat := 32
@[irreducible] def F.math_bits_Mul64 : Nat := 33

def RC.law27_CoresPlay : RFn := ⟨3, [.slot 6],
  (.seq (.region [⟨some 6, none, .mov (.c (.bool false))⟩]
    [0, 1, 2])
  (.seq (.region [⟨some 18, none, .mov (.t 0)⟩,
    ⟨some 19, none, .call F.cores_New [.t 18]⟩,
    ⟨some 17, none, .mov (.t 19)⟩,
    ⟨some 20, none, .ext 0 (.t 17)⟩,
    ⟨some 21, none, .ext 1 (.t 17)⟩,
    ⟨some 7, none, .mov (.t 20)⟩,
    ⟨some 8, none, .mov (.t 21)⟩]
    [0, 1, 2, 7, 8])
  (.seq (.seq (.region [⟨some 22, none, .mov (.t 0)⟩,
    ⟨some 23, none, .bin .lss (.t 22) (.c (.int .i64 1))⟩,
    ⟨some 24, none, .mov (.t 23)⟩,
    ⟨some 25, some (24, false), .mov (.t 0)⟩,
    ⟨some 26, some (24, false), .bin .gtr (.t 25) (.c (.int .i64 16))⟩,
    ⟨some 27, none, .pick (.t 24) (.c (.bool true)) (.t 26)⟩]
    [0, 1, 2, 7, 8, 27])
  (.cond (.t 27)
    (.seq (.region [⟨some 28, none, .mov (.t 7)⟩,
      ⟨some 29, none, .eq false .ptr (.t 28) (.c (.pointer none))⟩,
      ⟨some 30, none, .mov (.t 29)⟩,
      ⟨some 31, some (30, true), .mov (.t 8)⟩,
      ⟨some 32, some (30, true), .bin .eql (.t 31) (.c (.int .i64 1))⟩,
      ⟨some 33, none, .pick (.t 30) (.t 32) (.c (.bool false))⟩,
      ⟨some 34, none, .mov (.t 33)⟩,
      ⟨some 35, some (34, true), .call F.law27_awake []⟩,
      ⟨some 36, none, .pick (.t 34) (.t 35) (.c (.bool false))⟩,
      ⟨some 6, none, .mov (.t 36)⟩]
      [6])
    .ret)
    .skip))
  (.seq (.seq (.region [⟨some 37, none, .mov (.t 8)⟩,
    ⟨some 38, none, .bin .neq (.t 37) (.c (.int .i64 0))⟩,
    ⟨some 39, none, .mov (.t 38)⟩,
    ⟨some 40, some (39, false), .mov (.t 7)⟩,
    ⟨some 41, some (39, false), .eq false .ptr (.t 40) (.c (.pointer none))⟩,
    ⟨some 42, none, .pick (.t 39) (.c (.bool true)) (.t 41)⟩]
    [0, 1, 2, 7, 42])
  (.cond (.t 42)
    (.seq (.region [⟨some 6, none, .mov (.c (.bool false))⟩]
      [6])
    .ret)
    .skip))
  (.seq (.region [⟨some 43, none, .mov (.t 0)⟩,
    ⟨some 44, none, .call F.ref27_New [.t 43]⟩,
    ⟨some 9, none, .mov (.t 44)⟩]
    [0, 1, 2, 7, 9])
  (.seq (.seq (.region [⟨some 10, none, .mov (.c (.int .i64 0))⟩]
    [0, 1, 2, 7, 9, 10])
  (.block 0
    (.loop [0, 1, 2, 7, 9, 10]
      (.seq (.seq (.region [⟨some 45, none, .mov (.t 10)⟩,
        ⟨some 46, none, .mov (.t 1)⟩,
        ⟨some 47, none, .len (.t 46)⟩,
        ⟨some 48, none, .bin .lss (.t 45) (.t 47)⟩,
        ⟨some 49, none, .mov (.t 48)⟩,
        ⟨some 50, some (49, true), .mov (.t 10)⟩,
        ⟨some 51, some (49, true), .bin .lss (.t 50) (.c (.int .i64 60))⟩,
        ⟨some 52, none, .pick (.t 49) (.t 51) (.c (.bool false))⟩]
        [0, 1, 2, 7, 9, 10, 52])
      (.cond (.t 52)
        .skip
        (.exit 0)))
      (.seq (.block 1
        (.seq (.region [⟨some 56, none, .mov (.t 7)⟩,
          ⟨some 57, none, .mov (.t 9)⟩,
          ⟨some 58, none, .mov (.t 1)⟩,
          ⟨some 59, none, .mov (.t 10)⟩,
          ⟨some 60, none, .idxS 2 (.t 58) (.t 59)⟩,
          ⟨some 61, none, .load true 2 (.t 60)⟩,
          ⟨some 62, none, .call F.law27_step [.t 56, .t 57, .t 61]⟩,
          ⟨some 55, none, .mov (.t 62)⟩,
          ⟨some 63, none, .ext 0 (.t 55)⟩,
          ⟨some 64, none, .ext 1 (.t 55)⟩,
          ⟨some 65, none, .ext 2 (.t 55)⟩,
          ⟨some 11, none, .mov (.t 63)⟩,
          ⟨some 12, none, .mov (.t 64)⟩,
          ⟨some 13, none, .mov (.t 65)⟩]
          [0, 1, 2, 10, 11, 12, 13])
        (.seq (.seq (.region [⟨some 66, none, .mov (.t 13)⟩,
          ⟨some 67, none, .un .not (.t 66)⟩,
          ⟨some 68, none, .mov (.t 67)⟩,
          ⟨some 69, some (68, false), .mov (.t 11)⟩,
          ⟨some 70, some (68, false), .eq false .ptr (.t 69) (.c (.pointer none))⟩,
          ⟨some 71, none, .pick (.t 68) (.c (.bool true)) (.t 70)⟩]
          [0, 1, 2, 10, 11, 12, 71])
        (.cond (.t 71)
          (.seq (.region [⟨some 6, none, .mov (.c (.bool false))⟩]
            [6])
          .ret)
          .skip))
        (.seq (.region [⟨some 72, none, .mov (.t 11)⟩,
          ⟨some 73, none, .mov (.t 12)⟩,
          ⟨some 7, none, .mov (.t 72)⟩,
          ⟨some 9, none, .mov (.t 73)⟩]
          [0, 1, 2, 7, 9, 10])
        (.seq (.region [⟨some 75, none, .mov (.t 7)⟩,
          ⟨some 76, none, .mov (.t 2)⟩,
          ⟨some 77, none, .call F.cores_Set_State [.t 75, .t 76]⟩,
          ⟨some 74, none, .mov (.t 77)⟩,
          ⟨some 78, none, .ext 0 (.t 74)⟩,
          ⟨some 79, none, .ext 1 (.t 74)⟩,
          ⟨some 14, none, .mov (.t 78)⟩,
          ⟨some 15, none, .mov (.t 79)⟩]
          [0, 1, 2, 7, 9, 10, 14, 15])
        (.seq (.seq (.region [⟨some 80, none, .mov (.t 15)⟩,
          ⟨some 81, none, .mov (.t 2)⟩,
          ⟨some 82, none, .bin .geq (.t 81) (.c (.int .i64 0))⟩,
          ⟨some 83, none, .mov (.t 82)⟩,
          ⟨some 84, some (83, true), .mov (.t 2)⟩,
          ⟨some 85, some (83, true), .mov (.t 0)⟩,
          ⟨some 86, some (83, true), .bin .lss (.t 84) (.t 85)⟩,
          ⟨some 87, none, .pick (.t 83) (.t 86) (.c (.bool false))⟩,
          ⟨some 88, none, .eq true .bool (.t 80) (.t 87)⟩,
          ⟨some 89, none, .mov (.t 88)⟩,
          ⟨some 90, some (89, false), .mov (.t 15)⟩,
          ⟨some 91, some (89, false), .mov (.t 90)⟩,
          ⟨some 92, some (91, true), .mov (.t 14)⟩,
          ⟨some 93, some (91, true), .mov (.t 9)⟩,
          ⟨some 94, some (91, true), .mov (.t 2)⟩,
          ⟨some 95, some (91, true), .idxS 1 (.t 93) (.t 94)⟩,
          ⟨some 96, some (91, true), .load false 1 (.t 95)⟩,
          ⟨some 97, some (91, true), .bin .neq (.t 92) (.t 96)⟩,
          ⟨some 98, some (89, false), .pick (.t 91) (.t 97) (.c (.bool false))⟩,
          ⟨some 99, none, .pick (.t 89) (.c (.bool true)) (.t 98)⟩,
          ⟨some 100, none, .mov (.t 99)⟩,
          ⟨some 101, some (100, false), .mov (.t 15)⟩,
          ⟨some 102, some (100, false), .un .not (.t 101)⟩,
          ⟨some 103, some (100, false), .mov (.t 102)⟩,
          ⟨some 104, some (103, true), .mov (.t 14)⟩,
          ⟨some 105, some (103, true), .bin .neq (.t 104) (.c (.int .i64 0))⟩,
          ⟨some 106, some (100, false), .pick (.t 103) (.t 105) (.c (.bool false))⟩,
          ⟨some 107, none, .pick (.t 100) (.c (.bool true)) (.t 106)⟩,
          ⟨some 108, none, .mov (.t 107)⟩,
          ⟨some 109, some (108, false), .mov (.t 7)⟩,
          ⟨some 110, some (108, false), .call F.cores_Set_Len [.t 109]⟩,
          ⟨some 111, some (108, false), .mov (.t 0)⟩,
          ⟨some 112, some (108, false), .bin .neq (.t 110) (.t 111)⟩,
          ⟨some 113, none, .pick (.t 108) (.c (.bool true)) (.t 112)⟩]
          [0, 1, 2, 7, 9, 10, 113])
        (.cond (.t 113)
          (.seq (.region [⟨some 6, none, .mov (.c (.bool false))⟩]
            [6])
          .ret)
          .skip))
        (.seq (.seq (.region [⟨some 16, none, .mov (.c (.int .i64 0))⟩]
          [0, 1, 2, 7, 9, 10, 16])
        (.block 2
          (.loop [0, 1, 2, 7, 9, 10, 16]
            (.seq (.seq (.region [⟨some 114, none, .mov (.t 16)⟩,
              ⟨some 115, none, .bin .leq (.t 114) (.c (.int .i64 4))⟩]
              [0, 1, 2, 7, 9, 10, 16, 115])
            (.cond (.t 115)
              .skip
              (.exit 2)))
            (.seq (.block 3
              (.seq (.region [⟨some 118, none, .mov (.t 7)⟩,
                ⟨some 119, none, .mov (.t 16)⟩,
                ⟨some 120, none, .bslice [(.int .i64 0)] [(0, 1, .t 119)] 1 1⟩,
                ⟨some 121, none, .call F.cores_Set_In [.t 118, .t 120]⟩,
                ⟨some 122, none, .mov (.t 9)⟩,
                ⟨some 123, none, .mov (.t 16)⟩,
                ⟨some 124, none, .call F.ref27_Bits [.t 122, .t 123]⟩,
                ⟨some 125, none, .bin .neq (.t 121) (.t 124)⟩,
                ⟨some 126, none, .mov (.t 125)⟩,
                ⟨some 127, some (126, false), .mov (.t 7)⟩,
                ⟨some 128, some (126, false), .mov (.t 16)⟩,
                ⟨some 129, some (126, false), .bslice [(.int .i64 0)] [(0, 1, .t 128)] 1 1⟩,
                ⟨some 130, some (126, false), .call F.cores_Set_Count [.t 127, .t 129]⟩,
                ⟨some 131, some (126, false), .mov (.t 9)⟩,
                ⟨some 132, some (126, false), .mov (.t 16)⟩,
                ⟨some 133, some (126, false), .call F.ref27_Count [.t 131, .t 132]⟩,
                ⟨some 134, some (126, false), .bin .neq (.t 130) (.t 133)⟩,
                ⟨some 135, none, .pick (.t 126) (.c (.bool true)) (.t 134)⟩]
                [0, 1, 2, 7, 9, 10, 16, 135])
              (.cond (.t 135)
                (.seq (.region [⟨some 6, none, .mov (.c (.bool false))⟩]
                  [6])
                .ret)
                .skip)) [0, 1, 2, 7, 9, 10, 16])
            (.region [⟨some 116, none, .mov (.t 16)⟩,
              ⟨some 117, none, .bin .add (.t 116) (.c (.int .i64 1))⟩,
              ⟨some 16, none, .mov (.t 117)⟩]
              [0, 1, 2, 7, 9, 10, 16])))) [0, 1, 2, 7, 9, 10]))
        (.seq (.region [⟨some 136, none, .mov (.t 7)⟩,
          ⟨some 137, none, .bslice [(.int .i64 0), (.int .i64 0)] [(0, 1, .c (.int .i64 1)), (1, 1, .c (.int .i64 2))] 2 1⟩,
          ⟨some 138, none, .call F.cores_Set_In [.t 136, .t 137]⟩,
          ⟨some 139, none, .mov (.t 9)⟩,
          ⟨some 140, none, .call F.ref27_Bits [.t 139, .c (.int .i64 1)]⟩,
          ⟨some 141, none, .mov (.t 9)⟩,
          ⟨some 142, none, .call F.ref27_Bits [.t 141, .c (.int .i64 2)]⟩,
          ⟨some 143, none, .bin .or (.t 140) (.t 142)⟩,
          ⟨some 144, none, .bin .neq (.t 138) (.t 143)⟩]
          [0, 1, 2, 7, 9, 10, 144])
        (.cond (.t 144)
          (.seq (.region [⟨some 6, none, .mov (.c (.bool false))⟩]
            [6])
          .ret)
          .skip)))))))) [0, 1, 2, 7, 9, 10])
      (.region [⟨some 53, none, .mov (.t 10)⟩,
        ⟨some 54, none, .bin .add (.t 53) (.c (.int .i64 1))⟩,
        ⟨some 10, none, .mov (.t 54)⟩]
        [0, 1, 2, 7, 9, 10])))) []))
  (.seq (.region [⟨some 145, none, .call F.law27_awake []⟩,
    ⟨some 6, none, .mov (.t 145)⟩]
    [6])
  .ret)))))))⟩

def RC.law27_CoresNever : RFn := ⟨2, [.slot 4],
  (.seq (.region [⟨some 4, none, .mov (.c (.bool false))⟩]
    [0, 1])
  (.seq (.region [⟨some 12, none, .mov (.t 0)⟩,
    ⟨some 13, none, .call F.cores_New [.t 12]⟩,
    ⟨some 11, none, .mov (.t 13)⟩,
    ⟨some 14, none, .ext 0 (.t 11)⟩,
    ⟨some 15, none, .ext 1 (.t 11)⟩,
    ⟨some 5, none, .mov (.t 14)⟩,
    ⟨some 6, none, .mov (.t 15)⟩]
    [0, 1, 5, 6])
  (.seq (.seq (.region [⟨some 16, none, .mov (.t 6)⟩,
    ⟨some 17, none, .bin .neq (.t 16) (.c (.int .i64 0))⟩,
    ⟨some 18, none, .mov (.t 17)⟩,
    ⟨some 19, some (18, false), .mov (.t 5)⟩,
    ⟨some 20, some (18, false), .eq false .ptr (.t 19) (.c (.pointer none))⟩,
    ⟨some 21, none, .pick (.t 18) (.c (.bool true)) (.t 20)⟩]
    [0, 1, 5, 21])
  (.cond (.t 21)
    (.seq (.region [⟨some 22, none, .mov (.t 0)⟩,
      ⟨some 23, none, .bin .lss (.t 22) (.c (.int .i64 1))⟩,
      ⟨some 24, none, .mov (.t 23)⟩,
      ⟨some 25, some (24, false), .mov (.t 0)⟩,
      ⟨some 26, some (24, false), .bin .gtr (.t 25) (.c (.int .i64 16))⟩,
      ⟨some 27, none, .pick (.t 24) (.c (.bool true)) (.t 26)⟩,
      ⟨some 28, none, .mov (.t 27)⟩,
      ⟨some 29, some (28, true), .call F.law27_awake []⟩,
      ⟨some 30, none, .pick (.t 28) (.t 29) (.c (.bool false))⟩,
      ⟨some 4, none, .mov (.t 30)⟩]
      [4])
    .ret)
    .skip))
  (.seq (.seq (.region [⟨some 7, none, .mov (.c (.int .i64 0))⟩]
    [0, 1, 5, 7])
  (.block 0
    (.loop [0, 1, 5, 7]
      (.seq (.seq (.region [⟨some 31, none, .mov (.t 7)⟩,
        ⟨some 32, none, .mov (.t 1)⟩,
        ⟨some 33, none, .len (.t 32)⟩,
        ⟨some 34, none, .bin .lss (.t 31) (.t 33)⟩,
        ⟨some 35, none, .mov (.t 34)⟩,
        ⟨some 36, some (35, true), .mov (.t 7)⟩,
        ⟨some 37, some (35, true), .bin .lss (.t 36) (.c (.int .i64 100))⟩,
        ⟨some 38, none, .pick (.t 35) (.t 37) (.c (.bool false))⟩]
        [0, 1, 5, 7, 38])
      (.cond (.t 38)
        .skip
        (.exit 0)))
      (.seq (.block 1
        (.seq (.drawn [⟨some 42, none, .mov (.t 5)⟩,
          ⟨some 43, none, .mov (.t 0)⟩,
          ⟨some 44, none, .call F.ref27_New [.t 43]⟩,
          ⟨some 45, none, .mov (.t 1)⟩,
          ⟨some 46, none, .mov (.t 7)⟩,
          ⟨some 47, none, .idxS 2 (.t 45) (.t 46)⟩,
          ⟨some 48, none, .load true 2 (.t 47)⟩,
          ⟨some 49, none, .call F.law27_step [.t 42, .t 44, .t 48]⟩,
          ⟨some 41, none, .mov (.t 49)⟩,
          ⟨some 50, none, .ext 0 (.t 41)⟩,
          ⟨some 51, none, .ext 1 (.t 41)⟩,
          ⟨some 52, none, .ext 2 (.t 41)⟩,
          ⟨some 8, none, .mov (.t 50)⟩,
          ⟨some 9, none, .mov (.t 51)⟩,
          ⟨some 10, none, .mov (.t 52)⟩]
          [[], [], [1], [], [], [3, 4], [5], [0, 2, 6, 2], [7], [8], [8], [8], [9, 7, 0, 1, 2, 3, 4, 5, 6, 7, 8, 9], [10, 12, 0, 1, 2, 3, 4, 5, 6, 7, 8, 9, 10, 12], [11, 13, 0, 1, 2, 3, 4, 5, 6, 7, 8, 9, 10, 11, 12, 13]]
          [(0, []), (1, []), (3, []), (4, []), (5, []), (6, []), (2, [47]), (7, []), (8, []), (9, []), (10, []), (11, []), (12, []), (13, []), (14, [])]
          [[], [], [1], [], [], [3, 4], [3, 4, 5], [0, 1, 2, 3, 4, 5, 6], [0, 1, 2, 3, 4, 5, 6, 7], [0, 1, 2, 3, 4, 5, 6, 7, 8], [0, 1, 2, 3, 4, 5, 6, 7, 8], [0, 1, 2, 3, 4, 5, 6, 7, 8], [0, 1, 2, 3, 4, 5, 6, 7, 8, 9], [0, 1, 2, 3, 4, 5, 6, 7, 8, 9, 10, 12], [0, 1, 2, 3, 4, 5, 6, 7, 8, 9, 10, 11, 12, 13]]
          [0, 1, 7, 8])
        (.seq (.seq (.region [⟨some 53, none, .mov (.t 8)⟩,
          ⟨some 54, none, .eq false .ptr (.t 53) (.c (.pointer none))⟩]
          [0, 1, 7, 8, 54])
        (.cond (.t 54)
          (.seq (.region [⟨some 4, none, .mov (.c (.bool false))⟩]
            [4])
          .ret)
          .skip))
        (.seq (.region [⟨some 55, none, .mov (.t 8)⟩,
          ⟨some 5, none, .mov (.t 55)⟩]
          [0, 1, 5, 7])
        (.seq (.region [⟨some 56, none, .mov (.t 5)⟩,
          ⟨some 57, none, .bslice [(.int .i64 0)] [(0, 1, .c (.int .i64 1))] 1 1⟩,
          ⟨some 58, none, .call F.cores_Set_Count [.t 56, .t 57]⟩,
          ⟨some 59, none, .bin .lss (.t 58) (.c (.int .i64 1))⟩]
          [0, 1, 5, 7, 59])
        (.cond (.t 59)
          (.seq (.region [⟨some 4, none, .mov (.c (.bool false))⟩]
            [4])
          .ret)
          .skip))))) [0, 1, 5, 7])
      (.region [⟨some 39, none, .mov (.t 7)⟩,
        ⟨some 40, none, .bin .add (.t 39) (.c (.int .i64 1))⟩,
        ⟨some 7, none, .mov (.t 40)⟩]
        [0, 1, 5, 7])))) []))
  (.seq (.region [⟨some 60, none, .call F.law27_awake []⟩,
    ⟨some 4, none, .mov (.t 60)⟩]
    [4])
  .ret)))))⟩

def RC.law27_CoresTwo : RFn := ⟨3, [.slot 6],
  (.seq (.region [⟨some 6, none, .mov (.c (.bool false))⟩]
    [0, 1, 2])
  (.seq (.region [⟨some 22, none, .mov (.t 0)⟩,
    ⟨some 23, none, .call F.cores_New [.t 22]⟩,
    ⟨some 21, none, .mov (.t 23)⟩,
    ⟨some 24, none, .ext 0 (.t 21)⟩,
    ⟨some 25, none, .ext 1 (.t 21)⟩,
    ⟨some 7, none, .mov (.t 24)⟩,
    ⟨some 8, none, .mov (.t 25)⟩]
    [0, 1, 2, 7, 8])
  (.seq (.seq (.region [⟨some 26, none, .mov (.t 8)⟩,
    ⟨some 27, none, .bin .neq (.t 26) (.c (.int .i64 0))⟩,
    ⟨some 28, none, .mov (.t 27)⟩,
    ⟨some 29, some (28, false), .mov (.t 7)⟩,
    ⟨some 30, some (28, false), .eq false .ptr (.t 29) (.c (.pointer none))⟩,
    ⟨some 31, none, .pick (.t 28) (.c (.bool true)) (.t 30)⟩]
    [0, 1, 2, 7, 31])
  (.cond (.t 31)
    (.seq (.region [⟨some 32, none, .mov (.t 0)⟩,
      ⟨some 33, none, .bin .lss (.t 32) (.c (.int .i64 1))⟩,
      ⟨some 34, none, .mov (.t 33)⟩,
      ⟨some 35, some (34, false), .mov (.t 0)⟩,
      ⟨some 36, some (34, false), .bin .gtr (.t 35) (.c (.int .i64 16))⟩,
      ⟨some 37, none, .pick (.t 34) (.c (.bool true)) (.t 36)⟩,
      ⟨some 38, none, .mov (.t 37)⟩,
      ⟨some 39, some (38, true), .call F.law27_awake []⟩,
      ⟨some 40, none, .pick (.t 38) (.t 39) (.c (.bool false))⟩,
      ⟨some 6, none, .mov (.t 40)⟩]
      [6])
    .ret)
    .skip))
  (.seq (.seq (.region [⟨some 9, none, .mov (.c (.int .i64 0))⟩]
    [0, 1, 2, 7, 9])
  (.block 0
    (.loop [0, 1, 2, 7, 9]
      (.seq (.seq (.region [⟨some 41, none, .mov (.t 9)⟩,
        ⟨some 42, none, .mov (.t 1)⟩,
        ⟨some 43, none, .len (.t 42)⟩,
        ⟨some 44, none, .bin .lss (.t 41) (.t 43)⟩,
        ⟨some 45, none, .mov (.t 44)⟩,
        ⟨some 46, some (45, true), .mov (.t 9)⟩,
        ⟨some 47, some (45, true), .bin .lss (.t 46) (.c (.int .i64 60))⟩,
        ⟨some 48, none, .pick (.t 45) (.t 47) (.c (.bool false))⟩]
        [0, 1, 2, 7, 9, 48])
      (.cond (.t 48)
        .skip
        (.exit 0)))
      (.seq (.block 1
        (.seq (.drawn [⟨some 52, none, .mov (.t 7)⟩,
          ⟨some 53, none, .mov (.t 0)⟩,
          ⟨some 54, none, .call F.ref27_New [.t 53]⟩,
          ⟨some 55, none, .mov (.t 1)⟩,
          ⟨some 56, none, .mov (.t 9)⟩,
          ⟨some 57, none, .idxS 2 (.t 55) (.t 56)⟩,
          ⟨some 58, none, .load true 2 (.t 57)⟩,
          ⟨some 59, none, .call F.law27_step [.t 52, .t 54, .t 58]⟩,
          ⟨some 51, none, .mov (.t 59)⟩,
          ⟨some 60, none, .ext 0 (.t 51)⟩,
          ⟨some 61, none, .ext 1 (.t 51)⟩,
          ⟨some 62, none, .ext 2 (.t 51)⟩,
          ⟨some 10, none, .mov (.t 60)⟩,
          ⟨some 11, none, .mov (.t 61)⟩,
          ⟨some 12, none, .mov (.t 62)⟩]
          [[], [], [1], [], [], [3, 4], [5], [0, 2, 6, 2], [7], [8], [8], [8], [9, 7, 0, 1, 2, 3, 4, 5, 6, 7, 8, 9], [10, 12, 0, 1, 2, 3, 4, 5, 6, 7, 8, 9, 10, 12], [11, 13, 0, 1, 2, 3, 4, 5, 6, 7, 8, 9, 10, 11, 12, 13]]
          [(0, []), (1, []), (3, []), (4, []), (5, []), (6, []), (2, [57]), (7, []), (8, []), (9, []), (10, []), (11, []), (12, []), (13, []), (14, [])]
          [[], [], [1], [], [], [3, 4], [3, 4, 5], [0, 1, 2, 3, 4, 5, 6], [0, 1, 2, 3, 4, 5, 6, 7], [0, 1, 2, 3, 4, 5, 6, 7, 8], [0, 1, 2, 3, 4, 5, 6, 7, 8], [0, 1, 2, 3, 4, 5, 6, 7, 8], [0, 1, 2, 3, 4, 5, 6, 7, 8, 9], [0, 1, 2, 3, 4, 5, 6, 7, 8, 9, 10, 12], [0, 1, 2, 3, 4, 5, 6, 7, 8, 9, 10, 11, 12, 13]]
          [0, 1, 2, 9, 10])
        (.seq (.seq (.region [⟨some 63, none, .mov (.t 10)⟩,
          ⟨some 64, none, .eq false .ptr (.t 63) (.c (.pointer none))⟩]
          [0, 1, 2, 9, 10, 64])
        (.cond (.t 64)
          (.seq (.region [⟨some 6, none, .mov (.c (.bool false))⟩]
            [6])
          .ret)
          .skip))
        (.region [⟨some 65, none, .mov (.t 10)⟩,
          ⟨some 7, none, .mov (.t 65)⟩]
          [0, 1, 2, 7, 9]))) [0, 1, 2, 7, 9])
      (.region [⟨some 49, none, .mov (.t 9)⟩,
        ⟨some 50, none, .bin .add (.t 49) (.c (.int .i64 1))⟩,
        ⟨some 9, none, .mov (.t 50)⟩]
        [0, 1, 2, 7, 9])))) [2, 7]))
  (.seq (.seq (.region [⟨some 66, none, .mov (.t 7)⟩,
    ⟨some 67, none, .mov (.t 2)⟩,
    ⟨some 68, none, .call F.cores_Set_Unplug [.t 66, .t 67]⟩,
    ⟨some 69, none, .bin .eql (.t 68) (.c (.int .i64 0))⟩]
    [2, 7, 69])
  (.cond (.t 69)
    (.seq (.region [⟨some 70, none, .mov (.t 7)⟩,
      ⟨some 71, none, .call F.cores_Set_Turn [.t 70]⟩]
      [2, 7])
    (.seq (.region [⟨some 73, none, .mov (.t 7)⟩,
      ⟨some 74, none, .mov (.t 2)⟩,
      ⟨some 75, none, .call F.cores_Set_State [.t 73, .t 74]⟩,
      ⟨some 72, none, .mov (.t 75)⟩,
      ⟨some 76, none, .ext 0 (.t 72)⟩,
      ⟨some 77, none, .ext 1 (.t 72)⟩,
      ⟨some 13, none, .mov (.t 76)⟩,
      ⟨some 14, none, .mov (.t 77)⟩]
      [2, 7, 13])
    (.seq (.region [⟨some 78, none, .mov (.t 7)⟩,
      ⟨some 79, none, .mov (.t 2)⟩,
      ⟨some 80, none, .call F.cores_Set_Plug [.t 78, .t 79]⟩,
      ⟨some 15, none, .mov (.t 80)⟩]
      [2, 7, 13, 15])
    (.seq (.region [⟨some 81, none, .mov (.t 7)⟩,
      ⟨some 82, none, .call F.cores_Set_Turn [.t 81]⟩]
      [2, 7, 13, 15])
    (.seq (.region [⟨some 84, none, .mov (.t 7)⟩,
      ⟨some 85, none, .mov (.t 2)⟩,
      ⟨some 86, none, .call F.cores_Set_State [.t 84, .t 85]⟩,
      ⟨some 83, none, .mov (.t 86)⟩,
      ⟨some 87, none, .ext 0 (.t 83)⟩,
      ⟨some 88, none, .ext 1 (.t 83)⟩,
      ⟨some 16, none, .mov (.t 87)⟩,
      ⟨some 17, none, .mov (.t 88)⟩]
      [2, 7, 13, 15, 16])
    (.seq (.region [⟨some 89, none, .mov (.t 13)⟩,
      ⟨some 90, none, .bin .neq (.t 89) (.c (.int .i64 3))⟩,
      ⟨some 91, none, .mov (.t 90)⟩,
      ⟨some 92, some (91, false), .mov (.t 15)⟩,
      ⟨some 93, some (91, false), .bin .neq (.t 92) (.c (.int .i64 15))⟩,
      ⟨some 94, none, .pick (.t 91) (.c (.bool true)) (.t 93)⟩,
      ⟨some 95, none, .mov (.t 94)⟩,
      ⟨some 96, some (95, false), .mov (.t 16)⟩,
      ⟨some 97, some (95, false), .bin .neq (.t 96) (.c (.int .i64 0))⟩,
      ⟨some 98, none, .pick (.t 95) (.c (.bool true)) (.t 97)⟩]
      [2, 7, 98])
    (.cond (.t 98)
      (.seq (.region [⟨some 6, none, .mov (.c (.bool false))⟩]
        [6])
      .ret)
      .skip)))))))
    .skip))
  (.seq (.seq (.region [⟨some 99, none, .mov (.t 7)⟩,
    ⟨some 100, none, .mov (.t 2)⟩,
    ⟨some 101, none, .call F.cores_Set_Plug [.t 99, .t 100]⟩,
    ⟨some 102, none, .bin .eql (.t 101) (.c (.int .i64 0))⟩]
    [2, 7, 102])
  (.cond (.t 102)
    (.seq (.region [⟨some 103, none, .mov (.t 7)⟩,
      ⟨some 104, none, .mov (.t 2)⟩,
      ⟨some 105, none, .call F.cores_Set_Unplug [.t 103, .t 104]⟩,
      ⟨some 18, none, .mov (.t 105)⟩]
      [2, 7, 18])
    (.seq (.region [⟨some 106, none, .mov (.t 7)⟩,
      ⟨some 107, none, .call F.cores_Set_Turn [.t 106]⟩]
      [2, 7, 18])
    (.seq (.region [⟨some 109, none, .mov (.t 7)⟩,
      ⟨some 110, none, .mov (.t 2)⟩,
      ⟨some 111, none, .call F.cores_Set_State [.t 109, .t 110]⟩,
      ⟨some 108, none, .mov (.t 111)⟩,
      ⟨some 112, none, .ext 0 (.t 108)⟩,
      ⟨some 113, none, .ext 1 (.t 108)⟩,
      ⟨some 19, none, .mov (.t 112)⟩,
      ⟨some 20, none, .mov (.t 113)⟩]
      [18, 19])
    (.seq (.region [⟨some 114, none, .mov (.t 18)⟩,
      ⟨some 115, none, .bin .neq (.t 114) (.c (.int .i64 15))⟩,
      ⟨some 116, none, .mov (.t 115)⟩,
      ⟨some 117, some (116, false), .mov (.t 19)⟩,
      ⟨some 118, some (116, false), .bin .neq (.t 117) (.c (.int .i64 1))⟩,
      ⟨some 119, none, .pick (.t 116) (.c (.bool true)) (.t 118)⟩]
      [119])
    (.cond (.t 119)
      (.seq (.region [⟨some 6, none, .mov (.c (.bool false))⟩]
        [6])
      .ret)
      .skip)))))
    .skip))
  (.seq (.region [⟨some 120, none, .call F.law27_awake []⟩,
    ⟨some 6, none, .mov (.t 120)⟩]
    [6])
  .ret)))))))⟩

def RC.law27_CoresNobody : RFn := ⟨1, [.slot 2],
  (.seq (.region [⟨some 2, none, .mov (.c (.bool false))⟩]
    [0])
  (.seq (.region [⟨some 3, none, .mov (.c (.pointer none))⟩]
    [0, 3])
  (.seq (.region [⟨some 11, none, .mov (.t 3)⟩,
    ⟨some 12, none, .build [(.slice none 0 0)] []⟩,
    ⟨some 13, none, .box (.t 12)⟩,
    ⟨some 14, none, .bslice [(.pointer none), (.pointer none)] [(0, 1, .t 11), (1, 1, .t 13)] 2 1⟩,
    ⟨some 4, none, .mov (.t 14)⟩]
    [0, 4])
  (.seq (.seq (.region [⟨some 5, none, .mov (.c (.int .i64 0))⟩]
    [0, 4, 5])
  (.block 0
    (.loop [0, 4, 5]
      (.seq (.seq (.region [⟨some 15, none, .mov (.t 5)⟩,
        ⟨some 16, none, .mov (.t 4)⟩,
        ⟨some 17, none, .len (.t 16)⟩,
        ⟨some 18, none, .bin .lss (.t 15) (.t 17)⟩]
        [0, 4, 5, 18])
      (.cond (.t 18)
        .skip
        (.exit 0)))
      (.seq (.block 1
        (.seq (.region [⟨some 21, none, .mov (.t 4)⟩,
          ⟨some 22, none, .mov (.t 5)⟩,
          ⟨some 23, none, .idxS 1 (.t 21) (.t 22)⟩,
          ⟨some 24, none, .load false 1 (.t 23)⟩,
          ⟨some 6, none, .mov (.t 24)⟩]
          [0, 4, 5, 6])
        (.seq (.region [⟨some 26, none, .mov (.t 6)⟩,
          ⟨some 27, none, .call F.cores_Set_Turn [.t 26]⟩,
          ⟨some 25, none, .mov (.t 27)⟩,
          ⟨some 28, none, .ext 0 (.t 25)⟩,
          ⟨some 29, none, .ext 1 (.t 25)⟩,
          ⟨some 7, none, .mov (.t 28)⟩,
          ⟨some 8, none, .mov (.t 29)⟩]
          [0, 4, 5, 6, 7, 8])
        (.seq (.region [⟨some 31, none, .mov (.t 6)⟩,
          ⟨some 32, none, .mov (.t 0)⟩,
          ⟨some 33, none, .call F.cores_Set_State [.t 31, .t 32]⟩,
          ⟨some 30, none, .mov (.t 33)⟩,
          ⟨some 34, none, .ext 0 (.t 30)⟩,
          ⟨some 35, none, .ext 1 (.t 30)⟩,
          ⟨some 9, none, .mov (.t 34)⟩,
          ⟨some 10, none, .mov (.t 35)⟩]
          [0, 4, 5, 6, 7, 8, 10])
        (.seq (.region [⟨some 36, none, .mov (.t 6)⟩,
          ⟨some 37, none, .mov (.t 0)⟩,
          ⟨some 38, none, .call F.cores_Set_Plug [.t 36, .t 37]⟩,
          ⟨some 39, none, .bin .neq (.t 38) (.c (.int .i64 2))⟩,
          ⟨some 40, none, .mov (.t 39)⟩,
          ⟨some 41, some (40, false), .mov (.t 6)⟩,
          ⟨some 42, some (40, false), .mov (.t 0)⟩,
          ⟨some 43, some (40, false), .call F.cores_Set_Unplug [.t 41, .t 42]⟩,
          ⟨some 44, some (40, false), .bin .neq (.t 43) (.c (.int .i64 2))⟩,
          ⟨some 45, none, .pick (.t 40) (.c (.bool true)) (.t 44)⟩,
          ⟨some 46, none, .mov (.t 45)⟩,
          ⟨some 47, some (46, false), .mov (.t 7)⟩,
          ⟨some 48, some (46, false), .bin .neq (.t 47) (.c (u32 0#32))⟩,
          ⟨some 49, none, .pick (.t 46) (.c (.bool true)) (.t 48)⟩,
          ⟨some 50, none, .mov (.t 49)⟩,
          ⟨some 51, some (50, false), .mov (.t 8)⟩,
          ⟨some 52, some (50, false), .bin .neq (.t 51) (.c (u32 0#32))⟩,
          ⟨some 53, none, .pick (.t 50) (.c (.bool true)) (.t 52)⟩,
          ⟨some 54, none, .mov (.t 53)⟩,
          ⟨some 55, some (54, false), .mov (.t 10)⟩,
          ⟨some 56, none, .pick (.t 54) (.c (.bool true)) (.t 55)⟩,
          ⟨some 57, none, .mov (.t 56)⟩,
          ⟨some 58, some (57, false), .mov (.t 6)⟩,
          ⟨some 59, some (57, false), .bslice [(.int .i64 0)] [(0, 1, .c (.int .i64 1))] 1 1⟩,
          ⟨some 60, some (57, false), .call F.cores_Set_In [.t 58, .t 59]⟩,
          ⟨some 61, some (57, false), .bin .neq (.t 60) (.c (u32 0#32))⟩,
          ⟨some 62, none, .pick (.t 57) (.c (.bool true)) (.t 61)⟩,
          ⟨some 63, none, .mov (.t 62)⟩,
          ⟨some 64, some (63, false), .mov (.t 6)⟩,
          ⟨some 65, some (63, false), .bslice [(.int .i64 0)] [(0, 1, .c (.int .i64 1))] 1 1⟩,
          ⟨some 66, some (63, false), .call F.cores_Set_Count [.t 64, .t 65]⟩,
          ⟨some 67, some (63, false), .bin .neq (.t 66) (.c (.int .i64 0))⟩,
          ⟨some 68, none, .pick (.t 63) (.c (.bool true)) (.t 67)⟩,
          ⟨some 69, none, .mov (.t 68)⟩,
          ⟨some 70, some (69, false), .mov (.t 6)⟩,
          ⟨some 71, some (69, false), .call F.cores_Set_Len [.t 70]⟩,
          ⟨some 72, some (69, false), .bin .neq (.t 71) (.c (.int .i64 0))⟩,
          ⟨some 73, none, .pick (.t 69) (.c (.bool true)) (.t 72)⟩,
          ⟨some 74, none, .mov (.t 73)⟩,
          ⟨some 75, some (74, false), .mov (.t 6)⟩,
          ⟨some 76, some (74, false), .call F.cores_Set_Fork [.t 75]⟩,
          ⟨some 77, some (74, false), .eq true .ptr (.t 76) (.c (.pointer none))⟩,
          ⟨some 78, none, .pick (.t 74) (.c (.bool true)) (.t 77)⟩]
          [0, 4, 5, 78])
        (.cond (.t 78)
          (.seq (.region [⟨some 2, none, .mov (.c (.bool false))⟩]
            [2])
          .ret)
          .skip))))) [0, 4, 5])
      (.region [⟨some 19, none, .mov (.t 5)⟩,
        ⟨some 20, none, .bin .add (.t 19) (.c (.int .i64 1))⟩,
        ⟨some 5, none, .mov (.t 20)⟩]
        [0, 4, 5])))) []))
  (.seq (.region [⟨some 79, none, .call F.law27_awake []⟩,
    ⟨some 2, none, .mov (.t 79)⟩]
    [2])
  .ret)))))⟩

def RC.cores_New : RFn := ⟨1, [.slot 2, .slot 3],
  (.seq (.region [⟨some 2, none, .mov (.c (.pointer none))⟩,
    ⟨some 3, none, .mov (.c (.int .i64 0))⟩]
    [0])
  (.seq (.seq (.region [⟨some 4, none, .mov (.t 0)⟩,
    ⟨some 5, none, .bin .lss (.t 4) (.c (.int .i64 1))⟩,
    ⟨some 6, none, .mov (.t 5)⟩,
    ⟨some 7, some (6, false), .mov (.t 0)⟩,
    ⟨some 8, some (6, false), .bin .gtr (.t 7) (.c (.int .i64 16))⟩,
    ⟨some 9, none, .pick (.t 6) (.c (.bool true)) (.t 8)⟩]
    [0, 9])
  (.cond (.t 9)
    (.seq (.region [⟨some 2, none, .mov (.c (.pointer none))⟩,
      ⟨some 3, none, .mov (.c (.int .i64 1))⟩]
      [2, 3])
    .ret)
    .skip))
  (.seq (.region [⟨some 10, none, .bslice [(.int .i64 0)] [(0, 1, .c (.int .i64 1))] 1 1⟩,
    ⟨some 11, none, .mov (.t 0)⟩,
    ⟨some 12, none, .call F.slices_Repeat_int_int [.t 10, .t 11]⟩,
    ⟨some 13, none, .build [(.slice none 0 0)] [(0, 1, .t 12)]⟩,
    ⟨some 14, none, .box (.t 13)⟩,
    ⟨some 2, none, .mov (.t 14)⟩,
    ⟨some 3, none, .mov (.c (.int .i64 0))⟩]
    [2, 3])
  .ret)))⟩

def RC.law27_awake : RFn := ⟨0, [.slot 0],
  (.seq (.region [⟨some 0, none, .mov (.c (.bool false))⟩]
    [])
  (.seq (.region [⟨some 8, none, .call F.cores_New [.c (.int .i64 2)]⟩,
    ⟨some 7, none, .mov (.t 8)⟩,
    ⟨some 9, none, .ext 0 (.t 7)⟩,
    ⟨some 10, none, .ext 1 (.t 7)⟩,
    ⟨some 1, none, .mov (.t 9)⟩,
    ⟨some 2, none, .mov (.t 10)⟩]
    [1, 2])
  (.seq (.seq (.region [⟨some 11, none, .mov (.t 2)⟩,
    ⟨some 12, none, .bin .neq (.t 11) (.c (.int .i64 0))⟩,
    ⟨some 13, none, .mov (.t 12)⟩,
    ⟨some 14, some (13, false), .mov (.t 1)⟩,
    ⟨some 15, some (13, false), .eq false .ptr (.t 14) (.c (.pointer none))⟩,
    ⟨some 16, none, .pick (.t 13) (.c (.bool true)) (.t 15)⟩,
    ⟨some 17, none, .mov (.t 16)⟩,
    ⟨some 18, some (17, false), .mov (.t 1)⟩,
    ⟨some 19, some (17, false), .call F.cores_Set_Unplug [.t 18, .c (.int .i64 1)]⟩,
    ⟨some 20, some (17, false), .bin .neq (.t 19) (.c (.int .i64 0))⟩,
    ⟨some 21, none, .pick (.t 17) (.c (.bool true)) (.t 20)⟩]
    [1, 21])
  (.cond (.t 21)
    (.seq (.region [⟨some 0, none, .mov (.c (.bool false))⟩]
      [0])
    .ret)
    .skip))
  (.seq (.region [⟨some 23, none, .mov (.t 1)⟩,
    ⟨some 24, none, .call F.cores_Set_State [.t 23, .c (.int .i64 1)]⟩,
    ⟨some 22, none, .mov (.t 24)⟩,
    ⟨some 25, none, .ext 0 (.t 22)⟩,
    ⟨some 26, none, .ext 1 (.t 22)⟩,
    ⟨some 3, none, .mov (.t 25)⟩,
    ⟨some 4, none, .mov (.t 26)⟩]
    [1, 3, 4])
  (.seq (.region [⟨some 28, none, .mov (.t 1)⟩,
    ⟨some 29, none, .call F.cores_Set_Turn [.t 28]⟩,
    ⟨some 27, none, .mov (.t 29)⟩,
    ⟨some 30, none, .ext 0 (.t 27)⟩,
    ⟨some 31, none, .ext 1 (.t 27)⟩,
    ⟨some 5, none, .mov (.t 30)⟩,
    ⟨some 6, none, .mov (.t 31)⟩]
    [1, 3, 4, 5, 6])
  (.seq (.region [⟨some 32, none, .mov (.t 3)⟩,
    ⟨some 33, none, .bin .eql (.t 32) (.c (.int .i64 2))⟩,
    ⟨some 34, none, .mov (.t 33)⟩,
    ⟨some 35, some (34, true), .mov (.t 4)⟩,
    ⟨some 36, none, .pick (.t 34) (.t 35) (.c (.bool false))⟩,
    ⟨some 37, none, .mov (.t 36)⟩,
    ⟨some 38, some (37, true), .mov (.t 5)⟩,
    ⟨some 39, some (37, true), .bin .eql (.t 38) (.c (u32 0#32))⟩,
    ⟨some 40, none, .pick (.t 37) (.t 39) (.c (.bool false))⟩,
    ⟨some 41, none, .mov (.t 40)⟩,
    ⟨some 42, some (41, true), .mov (.t 6)⟩,
    ⟨some 43, some (41, true), .bin .eql (.t 42) (.c (u32 2#32))⟩,
    ⟨some 44, none, .pick (.t 41) (.t 43) (.c (.bool false))⟩,
    ⟨some 45, none, .mov (.t 44)⟩,
    ⟨some 46, some (45, true), .mov (.t 1)⟩,
    ⟨some 47, some (45, true), .call F.cores_Set_Unplug [.t 46, .c (.int .i64 0)]⟩,
    ⟨some 48, some (45, true), .bin .eql (.t 47) (.c (.int .i64 17))⟩,
    ⟨some 49, none, .pick (.t 45) (.t 48) (.c (.bool false))⟩,
    ⟨some 50, none, .mov (.t 49)⟩,
    ⟨some 51, some (50, true), .mov (.t 1)⟩,
    ⟨some 52, some (50, true), .call F.cores_Set_Plug [.t 51, .c (.int .i64 1)]⟩,
    ⟨some 53, some (50, true), .bin .eql (.t 52) (.c (.int .i64 15))⟩,
    ⟨some 54, none, .pick (.t 50) (.t 53) (.c (.bool false))⟩,
    ⟨some 55, none, .mov (.t 54)⟩,
    ⟨some 56, some (55, true), .mov (.t 1)⟩,
    ⟨some 57, some (55, true), .bslice [(.int .i64 0)] [(0, 1, .c (.int .i64 1))] 1 1⟩,
    ⟨some 58, some (55, true), .call F.cores_Set_Count [.t 56, .t 57]⟩,
    ⟨some 59, some (55, true), .bin .eql (.t 58) (.c (.int .i64 1))⟩,
    ⟨some 60, none, .pick (.t 55) (.t 59) (.c (.bool false))⟩,
    ⟨some 0, none, .mov (.t 60)⟩]
    [0])
  .ret))))))⟩

def RC.ref27_New : RFn := ⟨1, [.slot 2],
  (.seq (.region [⟨some 2, none, .mov (.c (.slice none 0 0))⟩]
    [0])
  (.seq (.region [⟨some 5, none, .bslice [] [] 0 1⟩,
    ⟨some 3, none, .mov (.t 5)⟩]
    [0, 3])
  (.seq (.seq (.region [⟨some 4, none, .mov (.c (.int .i64 0))⟩]
    [0, 3, 4])
  (.block 0
    (.loop [0, 3, 4]
      (.seq (.seq (.region [⟨some 6, none, .mov (.t 4)⟩,
        ⟨some 7, none, .mov (.t 0)⟩,
        ⟨some 8, none, .bin .lss (.t 6) (.t 7)⟩]
        [0, 3, 4, 8])
      (.cond (.t 8)
        .skip
        (.exit 0)))
      (.seq (.block 1
        (.region [⟨some 11, none, .mov (.t 3)⟩,
          ⟨some 12, none, .bslice [(.int .i64 0)] [(0, 1, .c (.int .i64 1))] 1 1⟩,
          ⟨some 13, none, .app 1 8 (.t 11) (.t 12)⟩,
          ⟨some 3, none, .mov (.t 13)⟩]
          [0, 3, 4]) [0, 3, 4])
      (.region [⟨some 9, none, .mov (.t 4)⟩,
        ⟨some 10, none, .bin .add (.t 9) (.c (.int .i64 1))⟩,
        ⟨some 4, none, .mov (.t 10)⟩]
        [0, 3, 4])))) [3]))
  (.seq (.region [⟨some 14, none, .mov (.t 3)⟩,
    ⟨some 2, none, .mov (.t 14)⟩]
    [2])
  .ret))))⟩

def RC.law27_step : RFn := ⟨3, [.slot 6, .slot 7, .slot 8],
  (.seq (.region [⟨some 5, none, .box (.t 2)⟩,
    ⟨some 6, none, .mov (.c (.pointer none))⟩,
    ⟨some 7, none, .mov (.c (.slice none 0 0))⟩,
    ⟨some 8, none, .mov (.c (.bool false))⟩]
    [0, 1, 5])
  (.seq (.region [⟨some 16, none, .fieldAddr 0 (.t 5)⟩,
    ⟨some 17, none, .load false 1 (.t 16)⟩]
    [0, 1, 5, 17])
  (.block 0
    (.seq (.seq (.region [⟨some 21, none, .bin .eql (.t 17) (.c (.int .i64 0))⟩,
      ⟨some 20, none, .mov (.t 21)⟩]
      [0, 1, 5, 17, 20])
    (.cond (.t 20)
      .skip
      (.region [⟨some 22, none, .bin .eql (.t 17) (.c (.int .i64 1))⟩,
        ⟨some 20, none, .mov (.t 22)⟩]
        [0, 1, 5, 17, 20])))
    (.cond (.t 20)
      (.seq (.region [⟨some 24, none, .mov (.t 1)⟩,
        ⟨some 25, none, .fieldAddr 1 (.t 5)⟩,
        ⟨some 26, none, .load false 1 (.t 25)⟩,
        ⟨some 27, none, .call F.ref27_Plug [.t 24, .t 26]⟩,
        ⟨some 23, none, .mov (.t 27)⟩,
        ⟨some 28, none, .ext 0 (.t 23)⟩,
        ⟨some 29, none, .ext 1 (.t 23)⟩,
        ⟨some 9, none, .mov (.t 28)⟩,
        ⟨some 10, none, .mov (.t 29)⟩]
        [0, 5, 9, 10])
      (.seq (.region [⟨some 30, none, .mov (.t 0)⟩,
        ⟨some 31, none, .mov (.t 9)⟩,
        ⟨some 32, none, .mov (.t 0)⟩,
        ⟨some 33, none, .fieldAddr 1 (.t 5)⟩,
        ⟨some 34, none, .load false 1 (.t 33)⟩,
        ⟨some 35, none, .call F.cores_Set_Plug [.t 32, .t 34]⟩,
        ⟨some 36, none, .mov (.t 10)⟩,
        ⟨some 37, none, .bin .eql (.t 35) (.t 36)⟩,
        ⟨some 6, none, .mov (.t 30)⟩,
        ⟨some 7, none, .mov (.t 31)⟩,
        ⟨some 8, none, .mov (.t 37)⟩]
        [6, 7, 8])
      .ret))
      (.seq (.seq (.region [⟨some 39, none, .bin .eql (.t 17) (.c (.int .i64 2))⟩,
        ⟨some 38, none, .mov (.t 39)⟩]
        [0, 1, 5, 17, 38])
      (.cond (.t 38)
        .skip
        (.region [⟨some 40, none, .bin .eql (.t 17) (.c (.int .i64 3))⟩,
          ⟨some 38, none, .mov (.t 40)⟩]
          [0, 1, 5, 17, 38])))
      (.cond (.t 38)
        (.seq (.region [⟨some 42, none, .mov (.t 1)⟩,
          ⟨some 43, none, .fieldAddr 1 (.t 5)⟩,
          ⟨some 44, none, .load false 1 (.t 43)⟩,
          ⟨some 45, none, .call F.ref27_Unplug [.t 42, .t 44]⟩,
          ⟨some 41, none, .mov (.t 45)⟩,
          ⟨some 46, none, .ext 0 (.t 41)⟩,
          ⟨some 47, none, .ext 1 (.t 41)⟩,
          ⟨some 11, none, .mov (.t 46)⟩,
          ⟨some 12, none, .mov (.t 47)⟩]
          [0, 5, 11, 12])
        (.seq (.region [⟨some 48, none, .mov (.t 0)⟩,
          ⟨some 49, none, .mov (.t 11)⟩,
          ⟨some 50, none, .mov (.t 0)⟩,
          ⟨some 51, none, .fieldAddr 1 (.t 5)⟩,
          ⟨some 52, none, .load false 1 (.t 51)⟩,
          ⟨some 53, none, .call F.cores_Set_Unplug [.t 50, .t 52]⟩,
          ⟨some 54, none, .mov (.t 12)⟩,
          ⟨some 55, none, .bin .eql (.t 53) (.t 54)⟩,
          ⟨some 6, none, .mov (.t 48)⟩,
          ⟨some 7, none, .mov (.t 49)⟩,
          ⟨some 8, none, .mov (.t 55)⟩]
          [6, 7, 8])
        .ret))
        (.seq (.seq (.region [⟨some 57, none, .bin .eql (.t 17) (.c (.int .i64 4))⟩,
          ⟨some 56, none, .mov (.t 57)⟩]
          [0, 1, 5, 17, 56])
        (.cond (.t 56)
          .skip
          (.region [⟨some 58, none, .bin .eql (.t 17) (.c (.int .i64 5))⟩,
            ⟨some 56, none, .mov (.t 58)⟩]
            [0, 1, 5, 17, 56])))
        (.cond (.t 56)
          (.seq (.region [⟨some 60, none, .mov (.t 0)⟩,
            ⟨some 61, none, .call F.cores_Set_Turn [.t 60]⟩,
            ⟨some 59, none, .mov (.t 61)⟩,
            ⟨some 62, none, .ext 0 (.t 59)⟩,
            ⟨some 63, none, .ext 1 (.t 59)⟩,
            ⟨some 13, none, .mov (.t 62)⟩,
            ⟨some 14, none, .mov (.t 63)⟩]
            [0, 1, 13, 14])
          (.seq (.region [⟨some 64, none, .mov (.t 0)⟩,
            ⟨some 65, none, .mov (.t 1)⟩,
            ⟨some 66, none, .call F.ref27_Turn [.t 65]⟩,
            ⟨some 67, none, .mov (.t 13)⟩,
            ⟨some 68, none, .mov (.t 1)⟩,
            ⟨some 69, none, .call F.ref27_Bits [.t 68, .c (.int .i64 4)]⟩,
            ⟨some 70, none, .bin .eql (.t 67) (.t 69)⟩,
            ⟨some 71, none, .mov (.t 70)⟩,
            ⟨some 72, some (71, true), .mov (.t 14)⟩,
            ⟨some 73, some (71, true), .mov (.t 1)⟩,
            ⟨some 74, some (71, true), .call F.ref27_Bits [.t 73, .c (.int .i64 2)]⟩,
            ⟨some 75, some (71, true), .bin .eql (.t 72) (.t 74)⟩,
            ⟨some 76, none, .pick (.t 71) (.t 75) (.c (.bool false))⟩,
            ⟨some 6, none, .mov (.t 64)⟩,
            ⟨some 7, none, .mov (.t 66)⟩,
            ⟨some 8, none, .mov (.t 76)⟩]
            [6, 7, 8])
          .ret))
          (.seq (.region [⟨some 78, none, .bin .eql (.t 17) (.c (.int .i64 6))⟩,
            ⟨some 77, none, .mov (.t 78)⟩]
            [0, 1, 5, 77])
          (.cond (.t 77)
            (.seq (.region [⟨some 79, none, .mov (.t 0)⟩,
              ⟨some 80, none, .call F.cores_Set_Fork [.t 79]⟩,
              ⟨some 15, none, .mov (.t 80)⟩]
              [0, 1, 5, 15])
            (.seq (.region [⟨some 81, none, .mov (.t 0)⟩,
              ⟨some 82, none, .fieldAddr 1 (.t 5)⟩,
              ⟨some 83, none, .load false 1 (.t 82)⟩,
              ⟨some 84, none, .call F.cores_Set_Unplug [.t 81, .t 83]⟩]
              [0, 1, 15])
            (.seq (.region [⟨some 85, none, .mov (.t 0)⟩,
              ⟨some 86, none, .call F.cores_Set_Turn [.t 85]⟩]
              [1, 15])
            (.seq (.region [⟨some 87, none, .mov (.t 15)⟩,
              ⟨some 88, none, .mov (.t 1)⟩,
              ⟨some 89, none, .mov (.t 15)⟩,
              ⟨some 90, none, .eq true .ptr (.t 89) (.c (.pointer none))⟩,
              ⟨some 6, none, .mov (.t 87)⟩,
              ⟨some 7, none, .mov (.t 88)⟩,
              ⟨some 8, none, .mov (.t 90)⟩]
              [6, 7, 8])
            .ret))))
            (.seq (.region [⟨some 18, none, .mov (.t 0)⟩,
              ⟨some 19, none, .mov (.t 1)⟩,
              ⟨some 6, none, .mov (.t 18)⟩,
              ⟨some 7, none, .mov (.t 19)⟩,
              ⟨some 8, none, .mov (.c (.bool true))⟩]
              [6, 7, 8])
            .ret))))))))) [6, 7, 8])))⟩

def RC.cores_Set_State : RFn := ⟨2, [.slot 4, .slot 5],
  (.seq (.region [⟨some 4, none, .mov (.c (.int .i64 0))⟩,
    ⟨some 5, none, .mov (.c (.bool false))⟩]
    [0, 1])
  (.seq (.seq (.region [⟨some 6, none, .mov (.t 1)⟩,
    ⟨some 7, none, .bin .lss (.t 6) (.c (.int .i64 0))⟩,
    ⟨some 8, none, .mov (.t 7)⟩,
    ⟨some 9, some (8, false), .mov (.t 1)⟩,
    ⟨some 10, some (8, false), .mov (.t 0)⟩,
    ⟨some 11, some (8, false), .call F.cores_Set_Len [.t 10]⟩,
    ⟨some 12, some (8, false), .bin .geq (.t 9) (.t 11)⟩,
    ⟨some 13, none, .pick (.t 8) (.c (.bool true)) (.t 12)⟩]
    [0, 1, 13])
  (.cond (.t 13)
    (.seq (.region [⟨some 4, none, .mov (.c (.int .i64 0))⟩,
      ⟨some 5, none, .mov (.c (.bool false))⟩]
      [4, 5])
    .ret)
    .skip))
  (.seq (.region [⟨some 14, none, .mov (.t 0)⟩,
    ⟨some 15, none, .nilchk (.t 14)⟩,
    ⟨some 16, none, .fieldAddr 0 (.t 15)⟩,
    ⟨some 17, none, .load false 1 (.t 16)⟩,
    ⟨some 18, none, .mov (.t 1)⟩,
    ⟨some 19, none, .idxS 1 (.t 17) (.t 18)⟩,
    ⟨some 20, none, .load false 1 (.t 19)⟩,
    ⟨some 4, none, .mov (.t 20)⟩,
    ⟨some 5, none, .mov (.c (.bool true))⟩]
    [4, 5])
  .ret)))⟩

def RC.cores_Set_Len : RFn := ⟨1, [.slot 2],
  (.seq (.region [⟨some 2, none, .mov (.c (.int .i64 0))⟩]
    [0])
  (.seq (.seq (.region [⟨some 3, none, .mov (.t 0)⟩,
    ⟨some 4, none, .eq false .ptr (.t 3) (.c (.pointer none))⟩]
    [0, 4])
  (.cond (.t 4)
    (.seq (.region [⟨some 2, none, .mov (.c (.int .i64 0))⟩]
      [2])
    .ret)
    .skip))
  (.seq (.region [⟨some 5, none, .mov (.t 0)⟩,
    ⟨some 6, none, .nilchk (.t 5)⟩,
    ⟨some 7, none, .fieldAddr 0 (.t 6)⟩,
    ⟨some 8, none, .load false 1 (.t 7)⟩,
    ⟨some 9, none, .len (.t 8)⟩,
    ⟨some 2, none, .mov (.t 9)⟩]
    [2])
  .ret)))⟩

def RC.cores_Set_In : RFn := ⟨2, [.slot 4],
  (.seq (.region [⟨some 4, none, .mov (.c (u32 0#32))⟩]
    [0, 1])
  (.seq (.region [⟨some 5, none, .mov (.c (u32 0#32))⟩]
    [0, 1, 5])
  (.seq (.seq (.region [⟨some 7, none, .mov (.t 0)⟩,
    ⟨some 8, none, .call F.cores_Set_Len [.t 7]⟩,
    ⟨some 9, none, .mov (.c (.int .i64 0))⟩]
    [0, 1, 5, 8, 9])
  (.block 0
    (.loop [0, 1, 5, 8, 9]
      (.seq (.region [⟨some 10, none, .bin .lss (.t 9) (.t 8)⟩]
        [0, 1, 5, 8, 9, 10])
      (.seq (.cond (.t 10)
        .skip
        (.exit 0))
      (.seq (.block 1
        (.seq (.region [⟨some 11, none, .mov (.t 9)⟩,
          ⟨some 6, none, .mov (.t 11)⟩]
          [0, 1, 5, 6, 8, 9])
        (.seq (.region [⟨some 12, none, .mov (.t 1)⟩,
          ⟨some 13, none, .mov (.t 0)⟩,
          ⟨some 14, none, .nilchk (.t 13)⟩,
          ⟨some 15, none, .fieldAddr 0 (.t 14)⟩,
          ⟨some 16, none, .load false 1 (.t 15)⟩,
          ⟨some 17, none, .mov (.t 6)⟩,
          ⟨some 18, none, .idxS 1 (.t 16) (.t 17)⟩,
          ⟨some 19, none, .load false 1 (.t 18)⟩,
          ⟨some 20, none, .call F.slices_Contains_int_int [.t 12, .t 19]⟩]
          [0, 1, 5, 6, 8, 9, 20])
        (.cond (.t 20)
          (.region [⟨some 21, none, .mov (.t 5)⟩,
            ⟨some 22, none, .mov (.t 6)⟩,
            ⟨some 23, none, .bin .shl (.c (u32 1#32)) (.t 22)⟩,
            ⟨some 24, none, .bin .or (.t 21) (.t 23)⟩,
            ⟨some 5, none, .mov (.t 24)⟩]
            [0, 1, 5, 8, 9])
          .skip))) [0, 1, 5, 8, 9])
      (.region [⟨some 25, none, .bin .add (.t 9) (.c (.int .i64 1))⟩,
        ⟨some 9, none, .mov (.t 25)⟩]
        [0, 1, 5, 8, 9]))))) [5]))
  (.seq (.region [⟨some 26, none, .mov (.t 5)⟩,
    ⟨some 4, none, .mov (.t 26)⟩]
    [4])
  .ret))))⟩

def RC.ref27_Bits : RFn := ⟨2, [.slot 4],
  (.seq (.region [⟨some 4, none, .mov (.c (u32 0#32))⟩]
    [0, 1])
  (.seq (.region [⟨some 5, none, .mov (.c (u32 0#32))⟩]
    [0, 1, 5])
  (.seq (.region [⟨some 6, none, .mov (.c (u32 1#32))⟩]
    [0, 1, 5, 6])
  (.seq (.seq (.region [⟨some 7, none, .mov (.c (.int .i64 0))⟩]
    [0, 1, 5, 6, 7])
  (.block 0
    (.loop [0, 1, 5, 6, 7]
      (.seq (.seq (.region [⟨some 8, none, .mov (.t 7)⟩,
        ⟨some 9, none, .mov (.t 0)⟩,
        ⟨some 10, none, .len (.t 9)⟩,
        ⟨some 11, none, .bin .lss (.t 8) (.t 10)⟩]
        [0, 1, 5, 6, 7, 11])
      (.cond (.t 11)
        .skip
        (.exit 0)))
      (.seq (.block 1
        (.seq (.seq (.region [⟨some 14, none, .mov (.t 0)⟩,
          ⟨some 15, none, .mov (.t 7)⟩,
          ⟨some 16, none, .idxS 1 (.t 14) (.t 15)⟩,
          ⟨some 17, none, .load false 1 (.t 16)⟩,
          ⟨some 18, none, .mov (.t 1)⟩,
          ⟨some 19, none, .bin .eql (.t 17) (.t 18)⟩]
          [0, 1, 5, 6, 7, 19])
        (.cond (.t 19)
          (.region [⟨some 20, none, .mov (.t 5)⟩,
            ⟨some 21, none, .mov (.t 6)⟩,
            ⟨some 22, none, .bin .add (.t 20) (.t 21)⟩,
            ⟨some 5, none, .mov (.t 22)⟩]
            [0, 1, 5, 6, 7])
          .skip))
        (.region [⟨some 23, none, .mov (.t 6)⟩,
          ⟨some 24, none, .bin .mul (.c (u32 2#32)) (.t 23)⟩,
          ⟨some 6, none, .mov (.t 24)⟩]
          [0, 1, 5, 6, 7])) [0, 1, 5, 6, 7])
      (.region [⟨some 12, none, .mov (.t 7)⟩,
        ⟨some 13, none, .bin .add (.t 12) (.c (.int .i64 1))⟩,
        ⟨some 7, none, .mov (.t 13)⟩]
        [0, 1, 5, 6, 7])))) [5]))
  (.seq (.region [⟨some 25, none, .mov (.t 5)⟩,
    ⟨some 4, none, .mov (.t 25)⟩]
    [4])
  .ret)))))⟩

def RC.cores_Set_Count : RFn := ⟨2, [.slot 4],
  (.seq (.region [⟨some 4, none, .mov (.c (.int .i64 0))⟩]
    [0, 1])
  (.seq (.region [⟨some 5, none, .mov (.t 0)⟩,
    ⟨some 6, none, .mov (.t 1)⟩,
    ⟨some 7, none, .call F.cores_Set_In [.t 5, .t 6]⟩,
    ⟨some 8, none, .call F.math_bits_OnesCount32 [.t 7]⟩,
    ⟨some 4, none, .mov (.t 8)⟩]
    [4])
  .ret))⟩

def RC.ref27_Count : RFn := ⟨2, [.slot 4],
  (.seq (.region [⟨some 4, none, .mov (.c (.int .i64 0))⟩]
    [0, 1])
  (.seq (.region [⟨some 5, none, .mov (.c (.int .i64 0))⟩]
    [0, 1, 5])
  (.seq (.seq (.region [⟨some 6, none, .mov (.c (.int .i64 0))⟩]
    [0, 1, 5, 6])
  (.block 0
    (.loop [0, 1, 5, 6]
      (.seq (.seq (.region [⟨some 7, none, .mov (.t 6)⟩,
        ⟨some 8, none, .mov (.t 0)⟩,
        ⟨some 9, none, .len (.t 8)⟩,
        ⟨some 10, none, .bin .lss (.t 7) (.t 9)⟩]
        [0, 1, 5, 6, 10])
      (.cond (.t 10)
        .skip
        (.exit 0)))
      (.seq (.block 1
        (.seq (.region [⟨some 13, none, .mov (.t 0)⟩,
          ⟨some 14, none, .mov (.t 6)⟩,
          ⟨some 15, none, .idxS 1 (.t 13) (.t 14)⟩,
          ⟨some 16, none, .load false 1 (.t 15)⟩,
          ⟨some 17, none, .mov (.t 1)⟩,
          ⟨some 18, none, .bin .eql (.t 16) (.t 17)⟩]
          [0, 1, 5, 6, 18])
        (.cond (.t 18)
          (.region [⟨some 19, none, .mov (.t 5)⟩,
            ⟨some 20, none, .bin .add (.t 19) (.c (.int .i64 1))⟩,
            ⟨some 5, none, .mov (.t 20)⟩]
            [0, 1, 5, 6])
          .skip)) [0, 1, 5, 6])
      (.region [⟨some 11, none, .mov (.t 6)⟩,
        ⟨some 12, none, .bin .add (.t 11) (.c (.int .i64 1))⟩,
        ⟨some 6, none, .mov (.t 12)⟩]
        [0, 1, 5, 6])))) [5]))
  (.seq (.region [⟨some 21, none, .mov (.t 5)⟩,
    ⟨some 4, none, .mov (.t 21)⟩]
    [4])
  .ret))))⟩

def RC.cores_Set_Unplug : RFn := ⟨2, [.slot 4],
  (.seq (.region [⟨some 4, none, .mov (.c (.int .i64 0))⟩]
    [0, 1])
  (.seq (.region [⟨some 5, none, .mov (.t 0)⟩,
    ⟨some 6, none, .mov (.t 1)⟩,
    ⟨some 7, none, .call F.cores_Set_change [.t 5, .t 6, .c (.int .i64 1), .c (.int .i64 2)]⟩,
    ⟨some 4, none, .mov (.t 7)⟩]
    [4])
  .ret))⟩

def RC.cores_Set_Turn : RFn := ⟨1, [.slot 2, .slot 3],
  (.seq (.region [⟨some 2, none, .mov (.c (u32 0#32))⟩,
    ⟨some 3, none, .mov (.c (u32 0#32))⟩]
    [0, 2, 3])
  (.seq (.seq (.region [⟨some 6, none, .mov (.t 0)⟩,
    ⟨some 7, none, .eq false .ptr (.t 6) (.c (.pointer none))⟩]
    [0, 2, 3, 7])
  (.cond (.t 7)
    (.seq (.region [⟨some 2, none, .mov (.c (u32 0#32))⟩,
      ⟨some 3, none, .mov (.c (u32 0#32))⟩]
      [2, 3])
    .ret)
    .skip))
  (.seq (.seq (.region [⟨some 8, none, .mov (.t 0)⟩,
    ⟨some 9, none, .nilchk (.t 8)⟩,
    ⟨some 10, none, .fieldAddr 0 (.t 9)⟩,
    ⟨some 11, none, .load false 1 (.t 10)⟩,
    ⟨some 12, none, .len (.t 11)⟩,
    ⟨some 13, none, .mov (.c (.int .i64 0))⟩]
    [0, 2, 3, 11, 12, 13])
  (.block 0
    (.loop [0, 2, 3, 11, 12, 13]
      (.seq (.region [⟨some 14, none, .bin .lss (.t 13) (.t 12)⟩]
        [0, 2, 3, 11, 12, 13, 14])
      (.seq (.cond (.t 14)
        .skip
        (.exit 0))
      (.seq (.block 1
        (.seq (.region [⟨some 15, none, .mov (.t 13)⟩,
          ⟨some 16, none, .idxS 1 (.t 11) (.t 13)⟩,
          ⟨some 17, none, .load false 1 (.t 16)⟩,
          ⟨some 4, none, .mov (.t 15)⟩,
          ⟨some 5, none, .mov (.t 17)⟩]
          [0, 2, 3, 4, 5, 11, 12, 13])
        (.seq (.region [⟨some 18, none, .mov (.t 5)⟩]
          [0, 2, 3, 4, 11, 12, 13, 18])
        (.block 2
          (.seq (.region [⟨some 20, none, .bin .eql (.t 18) (.c (.int .i64 4))⟩,
            ⟨some 19, none, .mov (.t 20)⟩]
            [0, 2, 3, 4, 11, 12, 13, 18, 19])
          (.cond (.t 19)
            (.seq (.region [⟨some 21, none, .mov (.t 0)⟩,
              ⟨some 22, none, .nilchk (.t 21)⟩,
              ⟨some 23, none, .fieldAddr 0 (.t 22)⟩,
              ⟨some 24, none, .load false 1 (.t 23)⟩,
              ⟨some 25, none, .mov (.t 4)⟩,
              ⟨some 26, none, .idxS 1 (.t 24) (.t 25)⟩,
              ⟨none, none, .store 1 (.t 26) (.c (.int .i64 1))⟩]
              [0, 2, 3, 4, 11, 12, 13])
            (.region [⟨some 27, none, .mov (.t 2)⟩,
              ⟨some 28, none, .mov (.t 4)⟩,
              ⟨some 29, none, .bin .shl (.c (u32 1#32)) (.t 28)⟩,
              ⟨some 30, none, .bin .or (.t 27) (.t 29)⟩,
              ⟨some 2, none, .mov (.t 30)⟩]
              [0, 2, 3, 11, 12, 13]))
            (.seq (.region [⟨some 32, none, .bin .eql (.t 18) (.c (.int .i64 2))⟩,
              ⟨some 31, none, .mov (.t 32)⟩]
              [0, 2, 3, 4, 11, 12, 13, 18, 31])
            (.cond (.t 31)
              (.seq (.region [⟨some 33, none, .mov (.t 0)⟩,
                ⟨some 34, none, .nilchk (.t 33)⟩,
                ⟨some 35, none, .fieldAddr 0 (.t 34)⟩,
                ⟨some 36, none, .load false 1 (.t 35)⟩,
                ⟨some 37, none, .mov (.t 4)⟩,
                ⟨some 38, none, .idxS 1 (.t 36) (.t 37)⟩,
                ⟨none, none, .store 1 (.t 38) (.c (.int .i64 3))⟩]
                [0, 2, 3, 4, 11, 12, 13])
              (.region [⟨some 39, none, .mov (.t 3)⟩,
                ⟨some 40, none, .mov (.t 4)⟩,
                ⟨some 41, none, .bin .shl (.c (u32 1#32)) (.t 40)⟩,
                ⟨some 42, none, .bin .or (.t 39) (.t 41)⟩,
                ⟨some 3, none, .mov (.t 42)⟩]
                [0, 2, 3, 11, 12, 13]))
              (.seq (.region [⟨some 44, none, .bin .eql (.t 18) (.c (.int .i64 3))⟩,
                ⟨some 43, none, .mov (.t 44)⟩]
                [0, 2, 3, 4, 11, 12, 13, 43])
              (.cond (.t 43)
                (.region [⟨some 45, none, .mov (.t 0)⟩,
                  ⟨some 46, none, .nilchk (.t 45)⟩,
                  ⟨some 47, none, .fieldAddr 0 (.t 46)⟩,
                  ⟨some 48, none, .load false 1 (.t 47)⟩,
                  ⟨some 49, none, .mov (.t 4)⟩,
                  ⟨some 50, none, .idxS 1 (.t 48) (.t 49)⟩,
                  ⟨none, none, .store 1 (.t 50) (.c (.int .i64 0))⟩]
                  [0, 2, 3, 11, 12, 13])
                .skip)))))) [0, 2, 3, 11, 12, 13]))) [0, 2, 3, 11, 12, 13])
      (.region [⟨some 51, none, .bin .add (.t 13) (.c (.int .i64 1))⟩,
        ⟨some 13, none, .mov (.t 51)⟩]
        [0, 2, 3, 11, 12, 13]))))) [2, 3]))
  (.seq (.region [⟨some 52, none, .mov (.t 2)⟩,
    ⟨some 53, none, .mov (.t 3)⟩,
    ⟨some 2, none, .mov (.t 52)⟩,
    ⟨some 3, none, .mov (.t 53)⟩]
    [2, 3])
  .ret))))⟩

def RC.cores_Set_Plug : RFn := ⟨2, [.slot 4],
  (.seq (.region [⟨some 4, none, .mov (.c (.int .i64 0))⟩]
    [0, 1])
  (.seq (.region [⟨some 5, none, .mov (.t 0)⟩,
    ⟨some 6, none, .mov (.t 1)⟩,
    ⟨some 7, none, .call F.cores_Set_change [.t 5, .t 6, .c (.int .i64 0), .c (.int .i64 4)]⟩,
    ⟨some 4, none, .mov (.t 7)⟩]
    [4])
  .ret))⟩

def RC.cores_Set_Fork : RFn := ⟨1, [.slot 2],
  (.seq (.region [⟨some 2, none, .mov (.c (.pointer none))⟩]
    [0])
  (.seq (.seq (.region [⟨some 3, none, .mov (.t 0)⟩,
    ⟨some 4, none, .call F.cores_Set_Len [.t 3]⟩,
    ⟨some 5, none, .bin .eql (.t 4) (.c (.int .i64 0))⟩]
    [0, 5])
  (.cond (.t 5)
    (.seq (.region [⟨some 2, none, .mov (.c (.pointer none))⟩]
      [2])
    .ret)
    .skip))
  (.seq (.region [⟨some 6, none, .mov (.t 0)⟩,
    ⟨some 7, none, .nilchk (.t 6)⟩,
    ⟨some 8, none, .fieldAddr 0 (.t 7)⟩,
    ⟨some 9, none, .load false 1 (.t 8)⟩,
    ⟨some 10, none, .call F.slices_Clone_int_int [.t 9]⟩,
    ⟨some 11, none, .build [(.slice none 0 0)] [(0, 1, .t 10)]⟩,
    ⟨some 12, none, .box (.t 11)⟩,
    ⟨some 2, none, .mov (.t 12)⟩]
    [2])
  .ret)))⟩

def RC.slices_Repeat_int_int : RFn := ⟨2, [.slot 4],
  (.seq (.region [⟨some 4, none, .mov (.c (.slice none 0 0))⟩]
    [0, 1])
  (.seq (.seq (.region [⟨some 9, none, .mov (.t 1)⟩,
    ⟨some 10, none, .bin .lss (.t 9) (.c (.int .i64 0))⟩]
    [0, 1, 10])
  (.cond (.t 10)
    (.region [⟨some 11, none, .stop⟩,
      ⟨none, none, .stop⟩]
      [0, 1])
    .skip))
  (.seq (.region [⟨some 13, none, .mov (.t 0)⟩,
    ⟨some 14, none, .len (.t 13)⟩,
    ⟨some 15, none, .conv .u64 (.t 14)⟩,
    ⟨some 16, none, .mov (.t 1)⟩,
    ⟨some 17, none, .conv .u64 (.t 16)⟩,
    ⟨some 18, none, .call F.math_bits_Mul [.t 15, .t 17]⟩,
    ⟨some 12, none, .mov (.t 18)⟩,
    ⟨some 19, none, .ext 0 (.t 12)⟩,
    ⟨some 20, none, .ext 1 (.t 12)⟩,
    ⟨some 5, none, .mov (.t 19)⟩,
    ⟨some 6, none, .mov (.t 20)⟩]
    [0, 5, 6])
  (.seq (.seq (.region [⟨some 21, none, .mov (.t 5)⟩,
    ⟨some 22, none, .bin .gtr (.t 21) (.c (u64 0#64))⟩,
    ⟨some 23, none, .mov (.t 22)⟩,
    ⟨some 24, some (23, false), .mov (.t 6)⟩,
    ⟨some 25, some (23, false), .bin .gtr (.t 24) (.c (u64 9223372036854775807#64))⟩,
    ⟨some 26, none, .pick (.t 23) (.c (.bool true)) (.t 25)⟩]
    [0, 6, 26])
  (.cond (.t 26)
    (.region [⟨some 27, none, .stop⟩,
      ⟨none, none, .stop⟩]
      [0, 6])
    .skip))
  (.seq (.region [⟨some 28, none, .mov (.t 6)⟩,
    ⟨some 29, none, .conv .i64 (.t 28)⟩,
    ⟨some 30, none, .mkslice 1 8 [(.int .i64 0)] (.t 29) (.t 29)⟩,
    ⟨some 7, none, .mov (.t 30)⟩]
    [0, 7])
  (.seq (.region [⟨some 31, none, .mov (.t 7)⟩,
    ⟨some 32, none, .mov (.t 0)⟩,
    ⟨some 33, none, .copy 1 (.t 31) (.t 32)⟩,
    ⟨some 8, none, .mov (.t 33)⟩]
    [7, 8])
  (.seq (.block 0
    (.loop [7, 8]
      (.seq (.seq (.region [⟨some 34, none, .mov (.t 8)⟩,
        ⟨some 35, none, .mov (.t 7)⟩,
        ⟨some 36, none, .len (.t 35)⟩,
        ⟨some 37, none, .bin .lss (.t 34) (.t 36)⟩]
        [7, 8, 37])
      (.cond (.t 37)
        .skip
        (.exit 0)))
      (.block 1
        (.drawn [⟨some 38, none, .mov (.t 8)⟩,
          ⟨some 39, none, .mov (.t 7)⟩,
          ⟨some 40, none, .mov (.t 8)⟩,
          ⟨some 41, none, .sub 1 (.t 39) (some (.t 40)) none none⟩,
          ⟨some 42, none, .mov (.t 7)⟩,
          ⟨some 43, none, .mov (.t 8)⟩,
          ⟨some 44, none, .sub 1 (.t 42) none (some (.t 43)) none⟩,
          ⟨some 45, none, .copy 1 (.t 41) (.t 44)⟩,
          ⟨some 46, none, .bin .add (.t 38) (.t 45)⟩,
          ⟨some 8, none, .mov (.t 46)⟩]
          [[], [], [], [1, 2], [], [], [4, 5], [3, 6], [0, 7], [8, 7, 0, 1, 2, 3, 4, 5, 6, 7, 8]]
          [(0, []), (1, []), (2, []), (4, []), (5, []), (3, []), (6, []), (7, []), (8, []), (9, [])]
          [[], [], [], [1, 2], [], [], [4, 5], [1, 2, 3, 4, 5, 6], [0, 1, 2, 3, 4, 5, 6, 7], [0, 1, 2, 3, 4, 5, 6, 7, 8]]
          [7, 8]) [7, 8]))) [7])
  (.seq (.region [⟨some 47, none, .mov (.t 7)⟩,
    ⟨some 4, none, .mov (.t 47)⟩]
    [4])
  .ret))))))))⟩

def RC.ref27_Plug : RFn := ⟨2, [.slot 4, .slot 5],
  (.seq (.region [⟨some 4, none, .mov (.c (.slice none 0 0))⟩,
    ⟨some 5, none, .mov (.c (.int .i64 0))⟩]
    [0, 1])
  (.seq (.seq (.region [⟨some 6, none, .mov (.t 1)⟩,
    ⟨some 7, none, .bin .lss (.t 6) (.c (.int .i64 0))⟩,
    ⟨some 8, none, .mov (.t 7)⟩,
    ⟨some 9, some (8, false), .mov (.t 1)⟩,
    ⟨some 10, some (8, false), .mov (.t 0)⟩,
    ⟨some 11, some (8, false), .len (.t 10)⟩,
    ⟨some 12, some (8, false), .bin .geq (.t 9) (.t 11)⟩,
    ⟨some 13, none, .pick (.t 8) (.c (.bool true)) (.t 12)⟩]
    [0, 1, 13])
  (.cond (.t 13)
    (.seq (.region [⟨some 14, none, .mov (.t 0)⟩,
      ⟨some 4, none, .mov (.t 14)⟩,
      ⟨some 5, none, .mov (.c (.int .i64 24))⟩]
      [4, 5])
    .ret)
    .skip))
  (.seq (.seq (.region [⟨some 15, none, .mov (.t 0)⟩,
    ⟨some 16, none, .mov (.t 1)⟩,
    ⟨some 17, none, .idxS 1 (.t 15) (.t 16)⟩,
    ⟨some 18, none, .load false 1 (.t 17)⟩,
    ⟨some 19, none, .bin .neq (.t 18) (.c (.int .i64 0))⟩]
    [0, 1, 19])
  (.cond (.t 19)
    (.seq (.region [⟨some 20, none, .mov (.t 0)⟩,
      ⟨some 4, none, .mov (.t 20)⟩,
      ⟨some 5, none, .mov (.c (.int .i64 15))⟩]
      [4, 5])
    .ret)
    .skip))
  (.seq (.region [⟨some 21, none, .mov (.t 0)⟩,
    ⟨some 22, none, .mov (.t 1)⟩,
    ⟨some 23, none, .call F.ref27_with [.t 21, .t 22, .c (.int .i64 4)]⟩,
    ⟨some 4, none, .mov (.t 23)⟩,
    ⟨some 5, none, .mov (.c (.int .i64 0))⟩]
    [4, 5])
  .ret))))⟩

def RC.ref27_Unplug : RFn := ⟨2, [.slot 4, .slot 5],
  (.seq (.region [⟨some 4, none, .mov (.c (.slice none 0 0))⟩,
    ⟨some 5, none, .mov (.c (.int .i64 0))⟩]
    [0, 1])
  (.seq (.seq (.region [⟨some 6, none, .mov (.t 1)⟩,
    ⟨some 7, none, .bin .lss (.t 6) (.c (.int .i64 0))⟩,
    ⟨some 8, none, .mov (.t 7)⟩,
    ⟨some 9, some (8, false), .mov (.t 1)⟩,
    ⟨some 10, some (8, false), .mov (.t 0)⟩,
    ⟨some 11, some (8, false), .len (.t 10)⟩,
    ⟨some 12, some (8, false), .bin .geq (.t 9) (.t 11)⟩,
    ⟨some 13, none, .pick (.t 8) (.c (.bool true)) (.t 12)⟩]
    [0, 1, 13])
  (.cond (.t 13)
    (.seq (.region [⟨some 14, none, .mov (.t 0)⟩,
      ⟨some 4, none, .mov (.t 14)⟩,
      ⟨some 5, none, .mov (.c (.int .i64 24))⟩]
      [4, 5])
    .ret)
    .skip))
  (.seq (.seq (.region [⟨some 15, none, .mov (.t 0)⟩,
    ⟨some 16, none, .mov (.t 1)⟩,
    ⟨some 17, none, .idxS 1 (.t 15) (.t 16)⟩,
    ⟨some 18, none, .load false 1 (.t 17)⟩,
    ⟨some 19, none, .bin .neq (.t 18) (.c (.int .i64 1))⟩]
    [0, 1, 19])
  (.cond (.t 19)
    (.seq (.region [⟨some 20, none, .mov (.t 0)⟩,
      ⟨some 4, none, .mov (.t 20)⟩,
      ⟨some 5, none, .mov (.c (.int .i64 15))⟩]
      [4, 5])
    .ret)
    .skip))
  (.seq (.seq (.region [⟨some 21, none, .mov (.t 0)⟩,
    ⟨some 22, none, .call F.ref27_Count [.t 21, .c (.int .i64 1)]⟩,
    ⟨some 23, none, .bin .eql (.t 22) (.c (.int .i64 1))⟩]
    [0, 1, 23])
  (.cond (.t 23)
    (.seq (.region [⟨some 24, none, .mov (.t 0)⟩,
      ⟨some 4, none, .mov (.t 24)⟩,
      ⟨some 5, none, .mov (.c (.int .i64 17))⟩]
      [4, 5])
    .ret)
    .skip))
  (.seq (.region [⟨some 25, none, .mov (.t 0)⟩,
    ⟨some 26, none, .mov (.t 1)⟩,
    ⟨some 27, none, .call F.ref27_with [.t 25, .t 26, .c (.int .i64 2)]⟩,
    ⟨some 4, none, .mov (.t 27)⟩,
    ⟨some 5, none, .mov (.c (.int .i64 0))⟩]
    [4, 5])
  .ret)))))⟩

def RC.ref27_Turn : RFn := ⟨1, [.slot 2],
  (.seq (.region [⟨some 2, none, .mov (.c (.slice none 0 0))⟩]
    [0])
  (.seq (.region [⟨some 6, none, .bslice [] [] 0 1⟩,
    ⟨some 3, none, .mov (.t 6)⟩]
    [0, 3])
  (.seq (.seq (.region [⟨some 4, none, .mov (.c (.int .i64 0))⟩]
    [0, 3, 4])
  (.block 0
    (.loop [0, 3, 4]
      (.seq (.seq (.region [⟨some 7, none, .mov (.t 4)⟩,
        ⟨some 8, none, .mov (.t 0)⟩,
        ⟨some 9, none, .len (.t 8)⟩,
        ⟨some 10, none, .bin .lss (.t 7) (.t 9)⟩]
        [0, 3, 4, 10])
      (.cond (.t 10)
        .skip
        (.exit 0)))
      (.seq (.block 1
        (.seq (.region [⟨some 13, none, .mov (.t 0)⟩,
          ⟨some 14, none, .mov (.t 4)⟩,
          ⟨some 15, none, .idxS 1 (.t 13) (.t 14)⟩,
          ⟨some 16, none, .load false 1 (.t 15)⟩,
          ⟨some 5, none, .mov (.t 16)⟩]
          [0, 3, 4, 5])
        (.seq (.seq (.region [⟨some 17, none, .mov (.t 0)⟩,
          ⟨some 18, none, .mov (.t 4)⟩,
          ⟨some 19, none, .idxS 1 (.t 17) (.t 18)⟩,
          ⟨some 20, none, .load false 1 (.t 19)⟩]
          [0, 3, 4, 5, 20])
        (.block 2
          (.seq (.region [⟨some 22, none, .bin .eql (.t 20) (.c (.int .i64 2))⟩,
            ⟨some 21, none, .mov (.t 22)⟩]
            [0, 3, 4, 5, 20, 21])
          (.cond (.t 21)
            (.region [⟨some 5, none, .mov (.c (.int .i64 3))⟩]
              [0, 3, 4, 5])
            (.seq (.region [⟨some 24, none, .bin .eql (.t 20) (.c (.int .i64 3))⟩,
              ⟨some 23, none, .mov (.t 24)⟩]
              [0, 3, 4, 5, 20, 23])
            (.cond (.t 23)
              (.region [⟨some 5, none, .mov (.c (.int .i64 0))⟩]
                [0, 3, 4, 5])
              (.seq (.region [⟨some 26, none, .bin .eql (.t 20) (.c (.int .i64 4))⟩,
                ⟨some 25, none, .mov (.t 26)⟩]
                [0, 3, 4, 5, 25])
              (.cond (.t 25)
                (.region [⟨some 5, none, .mov (.c (.int .i64 1))⟩]
                  [0, 3, 4, 5])
                .skip)))))) [0, 3, 4, 5]))
        (.region [⟨some 27, none, .mov (.t 3)⟩,
          ⟨some 28, none, .mov (.t 5)⟩,
          ⟨some 29, none, .bslice [(.int .i64 0)] [(0, 1, .t 28)] 1 1⟩,
          ⟨some 30, none, .app 1 8 (.t 27) (.t 29)⟩,
          ⟨some 3, none, .mov (.t 30)⟩]
          [0, 3, 4]))) [0, 3, 4])
      (.region [⟨some 11, none, .mov (.t 4)⟩,
        ⟨some 12, none, .bin .add (.t 11) (.c (.int .i64 1))⟩,
        ⟨some 4, none, .mov (.t 12)⟩]
        [0, 3, 4])))) [3]))
  (.seq (.region [⟨some 31, none, .mov (.t 3)⟩,
    ⟨some 2, none, .mov (.t 31)⟩]
    [2])
  .ret))))⟩

def RC.slices_Contains_int_int : RFn := ⟨2, [.slot 4],
  (.seq (.region [⟨some 4, none, .mov (.c (.bool false))⟩]
    [0, 1])
  (.seq (.region [⟨some 5, none, .mov (.t 0)⟩,
    ⟨some 6, none, .mov (.t 1)⟩,
    ⟨some 7, none, .call F.slices_Index_int_int [.t 5, .t 6]⟩,
    ⟨some 8, none, .bin .geq (.t 7) (.c (.int .i64 0))⟩,
    ⟨some 4, none, .mov (.t 8)⟩]
    [4])
  .ret))⟩

def RC.math_bits_OnesCount32 : RFn := ⟨1, [.slot 2],
  (.seq (.region [⟨some 2, none, .mov (.c (.int .i64 0))⟩]
    [0])
  (.seq (.drawn [⟨some 3, none, .mov (.t 0)⟩,
    ⟨some 4, none, .bin .shr (.t 3) (.c (u64 24#64))⟩,
    ⟨some 5, none, .idxStr (.c (.string ⟨#[0, 1, 1, 2, 1, 2, 2, 3, 1, 2, 2, 3, 2, 3, 3, 4, 1, 2, 2, 3, 2, 3, 3, 4, 2, 3, 3, 4, 3, 4, 4, 5, 1, 2, 2, 3, 2, 3, 3, 4, 2, 3, 3, 4, 3, 4, 4, 5, 2, 3, 3, 4, 3, 4, 4, 5, 3, 4, 4, 5, 4, 5, 5, 6, 1, 2, 2, 3, 2, 3, 3, 4, 2, 3, 3, 4, 3, 4, 4, 5, 2, 3, 3, 4, 3, 4, 4, 5, 3, 4, 4, 5, 4, 5, 5, 6, 2, 3, 3, 4, 3, 4, 4, 5, 3, 4, 4, 5, 4, 5, 5, 6, 3, 4, 4, 5, 4, 5, 5, 6, 4, 5, 5, 6, 5, 6, 6, 7, 1, 2, 2, 3, 2, 3, 3, 4, 2, 3, 3, 4, 3, 4, 4, 5, 2, 3, 3, 4, 3, 4, 4, 5, 3, 4, 4, 5, 4, 5, 5, 6, 2, 3, 3, 4, 3, 4, 4, 5, 3, 4, 4, 5, 4, 5, 5, 6, 3, 4, 4, 5, 4, 5, 5, 6, 4, 5, 5, 6, 5, 6, 6, 7, 2, 3, 3, 4, 3, 4, 4, 5, 3, 4, 4, 5, 4, 5, 5, 6, 3, 4, 4, 5, 4, 5, 5, 6, 4, 5, 5, 6, 5, 6, 6, 7, 3, 4, 4, 5, 4, 5, 5, 6, 4, 5, 5, 6, 5, 6, 6, 7, 4, 5, 5, 6, 5, 6, 6, 7, 5, 6, 6, 7, 6, 7, 7, 8]⟩)) (.t 4)⟩,
    ⟨some 6, none, .mov (.t 0)⟩,
    ⟨some 7, none, .bin .shr (.t 6) (.c (u64 16#64))⟩,
    ⟨some 8, none, .bin .and (.t 7) (.c (u32 255#32))⟩,
    ⟨some 9, none, .idxStr (.c (.string ⟨#[0, 1, 1, 2, 1, 2, 2, 3, 1, 2, 2, 3, 2, 3, 3, 4, 1, 2, 2, 3, 2, 3, 3, 4, 2, 3, 3, 4, 3, 4, 4, 5, 1, 2, 2, 3, 2, 3, 3, 4, 2, 3, 3, 4, 3, 4, 4, 5, 2, 3, 3, 4, 3, 4, 4, 5, 3, 4, 4, 5, 4, 5, 5, 6, 1, 2, 2, 3, 2, 3, 3, 4, 2, 3, 3, 4, 3, 4, 4, 5, 2, 3, 3, 4, 3, 4, 4, 5, 3, 4, 4, 5, 4, 5, 5, 6, 2, 3, 3, 4, 3, 4, 4, 5, 3, 4, 4, 5, 4, 5, 5, 6, 3, 4, 4, 5, 4, 5, 5, 6, 4, 5, 5, 6, 5, 6, 6, 7, 1, 2, 2, 3, 2, 3, 3, 4, 2, 3, 3, 4, 3, 4, 4, 5, 2, 3, 3, 4, 3, 4, 4, 5, 3, 4, 4, 5, 4, 5, 5, 6, 2, 3, 3, 4, 3, 4, 4, 5, 3, 4, 4, 5, 4, 5, 5, 6, 3, 4, 4, 5, 4, 5, 5, 6, 4, 5, 5, 6, 5, 6, 6, 7, 2, 3, 3, 4, 3, 4, 4, 5, 3, 4, 4, 5, 4, 5, 5, 6, 3, 4, 4, 5, 4, 5, 5, 6, 4, 5, 5, 6, 5, 6, 6, 7, 3, 4, 4, 5, 4, 5, 5, 6, 4, 5, 5, 6, 5, 6, 6, 7, 4, 5, 5, 6, 5, 6, 6, 7, 5, 6, 6, 7, 6, 7, 7, 8]⟩)) (.t 8)⟩,
    ⟨some 10, none, .bin .add (.t 5) (.t 9)⟩,
    ⟨some 11, none, .mov (.t 0)⟩,
    ⟨some 12, none, .bin .shr (.t 11) (.c (u64 8#64))⟩,
    ⟨some 13, none, .bin .and (.t 12) (.c (u32 255#32))⟩,
    ⟨some 14, none, .idxStr (.c (.string ⟨#[0, 1, 1, 2, 1, 2, 2, 3, 1, 2, 2, 3, 2, 3, 3, 4, 1, 2, 2, 3, 2, 3, 3, 4, 2, 3, 3, 4, 3, 4, 4, 5, 1, 2, 2, 3, 2, 3, 3, 4, 2, 3, 3, 4, 3, 4, 4, 5, 2, 3, 3, 4, 3, 4, 4, 5, 3, 4, 4, 5, 4, 5, 5, 6, 1, 2, 2, 3, 2, 3, 3, 4, 2, 3, 3, 4, 3, 4, 4, 5, 2, 3, 3, 4, 3, 4, 4, 5, 3, 4, 4, 5, 4, 5, 5, 6, 2, 3, 3, 4, 3, 4, 4, 5, 3, 4, 4, 5, 4, 5, 5, 6, 3, 4, 4, 5, 4, 5, 5, 6, 4, 5, 5, 6, 5, 6, 6, 7, 1, 2, 2, 3, 2, 3, 3, 4, 2, 3, 3, 4, 3, 4, 4, 5, 2, 3, 3, 4, 3, 4, 4, 5, 3, 4, 4, 5, 4, 5, 5, 6, 2, 3, 3, 4, 3, 4, 4, 5, 3, 4, 4, 5, 4, 5, 5, 6, 3, 4, 4, 5, 4, 5, 5, 6, 4, 5, 5, 6, 5, 6, 6, 7, 2, 3, 3, 4, 3, 4, 4, 5, 3, 4, 4, 5, 4, 5, 5, 6, 3, 4, 4, 5, 4, 5, 5, 6, 4, 5, 5, 6, 5, 6, 6, 7, 3, 4, 4, 5, 4, 5, 5, 6, 4, 5, 5, 6, 5, 6, 6, 7, 4, 5, 5, 6, 5, 6, 6, 7, 5, 6, 6, 7, 6, 7, 7, 8]⟩)) (.t 13)⟩,
    ⟨some 15, none, .bin .add (.t 10) (.t 14)⟩,
    ⟨some 16, none, .mov (.t 0)⟩,
    ⟨some 17, none, .bin .and (.t 16) (.c (u32 255#32))⟩,
    ⟨some 18, none, .idxStr (.c (.string ⟨#[0, 1, 1, 2, 1, 2, 2, 3, 1, 2, 2, 3, 2, 3, 3, 4, 1, 2, 2, 3, 2, 3, 3, 4, 2, 3, 3, 4, 3, 4, 4, 5, 1, 2, 2, 3, 2, 3, 3, 4, 2, 3, 3, 4, 3, 4, 4, 5, 2, 3, 3, 4, 3, 4, 4, 5, 3, 4, 4, 5, 4, 5, 5, 6, 1, 2, 2, 3, 2, 3, 3, 4, 2, 3, 3, 4, 3, 4, 4, 5, 2, 3, 3, 4, 3, 4, 4, 5, 3, 4, 4, 5, 4, 5, 5, 6, 2, 3, 3, 4, 3, 4, 4, 5, 3, 4, 4, 5, 4, 5, 5, 6, 3, 4, 4, 5, 4, 5, 5, 6, 4, 5, 5, 6, 5, 6, 6, 7, 1, 2, 2, 3, 2, 3, 3, 4, 2, 3, 3, 4, 3, 4, 4, 5, 2, 3, 3, 4, 3, 4, 4, 5, 3, 4, 4, 5, 4, 5, 5, 6, 2, 3, 3, 4, 3, 4, 4, 5, 3, 4, 4, 5, 4, 5, 5, 6, 3, 4, 4, 5, 4, 5, 5, 6, 4, 5, 5, 6, 5, 6, 6, 7, 2, 3, 3, 4, 3, 4, 4, 5, 3, 4, 4, 5, 4, 5, 5, 6, 3, 4, 4, 5, 4, 5, 5, 6, 4, 5, 5, 6, 5, 6, 6, 7, 3, 4, 4, 5, 4, 5, 5, 6, 4, 5, 5, 6, 5, 6, 6, 7, 4, 5, 5, 6, 5, 6, 6, 7, 5, 6, 6, 7, 6, 7, 7, 8]⟩)) (.t 17)⟩,
    ⟨some 19, none, .bin .add (.t 15) (.t 18)⟩,
    ⟨some 20, none, .conv .i64 (.t 19)⟩,
    ⟨some 2, none, .mov (.t 20)⟩]
    [[], [0], [1], [], [3], [4], [5], [2, 6], [], [8], [9], [10], [7, 11], [], [13], [14], [12, 15], [16], [17, 0, 1, 2, 3, 4, 5, 6, 7, 8, 9, 10, 11, 12, 13, 14, 15, 16, 17]]
    [(0, []), (1, []), (2, []), (3, []), (4, []), (5, []), (6, []), (7, []), (8, []), (9, []), (10, []), (11, []), (12, []), (13, []), (14, []), (15, []), (16, []), (17, []), (18, [])]
    [[], [0], [0, 1], [], [3], [3, 4], [3, 4, 5], [0, 1, 2, 3, 4, 5, 6], [], [8], [8, 9], [8, 9, 10], [0, 1, 2, 3, 4, 5, 6, 7, 8, 9, 10, 11], [], [13], [13, 14], [0, 1, 2, 3, 4, 5, 6, 7, 8, 9, 10, 11, 12, 13, 14, 15], [0, 1, 2, 3, 4, 5, 6, 7, 8, 9, 10, 11, 12, 13, 14, 15, 16], [0, 1, 2, 3, 4, 5, 6, 7, 8, 9, 10, 11, 12, 13, 14, 15, 16, 17]]
    [2])
  .ret))⟩

def RC.cores_Set_change : RFn := ⟨4, [.slot 8],
  (.seq (.region [⟨some 8, none, .mov (.c (.int .i64 0))⟩]
    [0, 1, 2, 3])
  (.seq (.seq (.region [⟨some 11, none, .mov (.t 0)⟩,
    ⟨some 12, none, .call F.cores_Set_Len [.t 11]⟩,
    ⟨some 13, none, .bin .eql (.t 12) (.c (.int .i64 0))⟩]
    [0, 1, 2, 3, 13])
  (.cond (.t 13)
    (.seq (.region [⟨some 8, none, .mov (.c (.int .i64 2))⟩]
      [8])
    .ret)
    .skip))
  (.seq (.seq (.region [⟨some 15, none, .mov (.t 0)⟩,
    ⟨some 16, none, .mov (.t 1)⟩,
    ⟨some 17, none, .call F.cores_Set_State [.t 15, .t 16]⟩,
    ⟨some 14, none, .mov (.t 17)⟩,
    ⟨some 18, none, .ext 0 (.t 14)⟩,
    ⟨some 19, none, .ext 1 (.t 14)⟩,
    ⟨some 9, none, .mov (.t 18)⟩,
    ⟨some 10, none, .mov (.t 19)⟩]
    [0, 1, 2, 3, 9, 10])
  (.block 0
    (.seq (.region [⟨some 21, none, .mov (.t 10)⟩,
      ⟨some 22, none, .un .not (.t 21)⟩,
      ⟨some 20, none, .mov (.t 22)⟩]
      [0, 1, 2, 3, 9, 20])
    (.cond (.t 20)
      (.seq (.region [⟨some 8, none, .mov (.c (.int .i64 24))⟩]
        [8])
      .ret)
      (.seq (.region [⟨some 24, none, .mov (.t 9)⟩,
        ⟨some 25, none, .mov (.t 2)⟩,
        ⟨some 26, none, .bin .neq (.t 24) (.t 25)⟩,
        ⟨some 23, none, .mov (.t 26)⟩]
        [0, 1, 3, 23])
      (.cond (.t 23)
        (.seq (.region [⟨some 8, none, .mov (.c (.int .i64 15))⟩]
          [8])
        .ret)
        (.seq (.region [⟨some 28, none, .mov (.t 3)⟩,
          ⟨some 29, none, .bin .eql (.t 28) (.c (.int .i64 2))⟩,
          ⟨some 30, none, .mov (.t 29)⟩,
          ⟨some 31, some (30, true), .mov (.t 0)⟩,
          ⟨some 32, some (30, true), .bslice [(.int .i64 0)] [(0, 1, .c (.int .i64 1))] 1 1⟩,
          ⟨some 33, some (30, true), .call F.cores_Set_Count [.t 31, .t 32]⟩,
          ⟨some 34, some (30, true), .bin .eql (.t 33) (.c (.int .i64 1))⟩,
          ⟨some 35, none, .pick (.t 30) (.t 34) (.c (.bool false))⟩,
          ⟨some 27, none, .mov (.t 35)⟩]
          [0, 1, 3, 27])
        (.cond (.t 27)
          (.seq (.region [⟨some 8, none, .mov (.c (.int .i64 17))⟩]
            [8])
          .ret)
          .skip)))))) [0, 1, 3]))
  (.seq (.region [⟨some 36, none, .mov (.t 0)⟩,
    ⟨some 37, none, .nilchk (.t 36)⟩,
    ⟨some 38, none, .fieldAddr 0 (.t 37)⟩,
    ⟨some 39, none, .load false 1 (.t 38)⟩,
    ⟨some 40, none, .mov (.t 1)⟩,
    ⟨some 41, none, .mov (.t 3)⟩,
    ⟨some 42, none, .idxS 1 (.t 39) (.t 40)⟩,
    ⟨none, none, .store 1 (.t 42) (.t 41)⟩]
    [])
  (.seq (.region [⟨some 8, none, .mov (.c (.int .i64 0))⟩]
    [8])
  .ret)))))⟩

def RC.slices_Clone_int_int : RFn := ⟨1, [.slot 2],
  (.seq (.region [⟨some 2, none, .mov (.c (.slice none 0 0))⟩]
    [0])
  (.seq (.seq (.region [⟨some 3, none, .mov (.t 0)⟩,
    ⟨some 4, none, .eq false .slice (.t 3) (.c (.slice none 0 0))⟩]
    [0, 4])
  (.cond (.t 4)
    (.seq (.region [⟨some 2, none, .mov (.c (.slice none 0 0))⟩]
      [2])
    .ret)
    .skip))
  (.seq (.region [⟨some 5, none, .bslice [] [] 0 1⟩,
    ⟨some 6, none, .mov (.t 0)⟩,
    ⟨some 7, none, .app 1 8 (.t 5) (.t 6)⟩,
    ⟨some 2, none, .mov (.t 7)⟩]
    [2])
  .ret)))⟩

def RC.math_bits_Mul : RFn := ⟨2, [.slot 4, .slot 5],
  (.seq (.region [⟨some 4, none, .mov (.c (u64 0#64))⟩,
    ⟨some 5, none, .mov (.c (u64 0#64))⟩]
    [0, 1])
  (.seq (.cond (.c (.bool false))
    (.seq (.region [⟨some 11, none, .mov (.t 0)⟩,
      ⟨some 12, none, .conv .u32 (.t 11)⟩,
      ⟨some 13, none, .mov (.t 1)⟩,
      ⟨some 14, none, .conv .u32 (.t 13)⟩,
      ⟨some 15, none, .call F.math_bits_Mul32 [.t 12, .t 14]⟩,
      ⟨some 10, none, .mov (.t 15)⟩,
      ⟨some 16, none, .ext 0 (.t 10)⟩,
      ⟨some 17, none, .ext 1 (.t 10)⟩,
      ⟨some 6, none, .mov (.t 16)⟩,
      ⟨some 7, none, .mov (.t 17)⟩]
      [6, 7])
    (.seq (.region [⟨some 18, none, .mov (.t 6)⟩,
      ⟨some 19, none, .conv .u64 (.t 18)⟩,
      ⟨some 20, none, .mov (.t 7)⟩,
      ⟨some 21, none, .conv .u64 (.t 20)⟩,
      ⟨some 4, none, .mov (.t 19)⟩,
      ⟨some 5, none, .mov (.t 21)⟩]
      [4, 5])
    .ret))
    .skip)
  (.seq (.region [⟨some 23, none, .mov (.t 0)⟩,
    ⟨some 24, none, .mov (.t 1)⟩,
    ⟨some 25, none, .call F.math_bits_Mul64 [.t 23, .t 24]⟩,
    ⟨some 22, none, .mov (.t 25)⟩,
    ⟨some 26, none, .ext 0 (.t 22)⟩,
    ⟨some 27, none, .ext 1 (.t 22)⟩,
    ⟨some 8, none, .mov (.t 26)⟩,
    ⟨some 9, none, .mov (.t 27)⟩]
    [8, 9])
  (.seq (.region [⟨some 28, none, .mov (.t 8)⟩,
    ⟨some 29, none, .mov (.t 9)⟩,
    ⟨some 4, none, .mov (.t 28)⟩,
    ⟨some 5, none, .mov (.t 29)⟩]
    [4, 5])
  .ret))))⟩

def RC.ref27_with : RFn := ⟨3, [.slot 6],
  (.seq (.region [⟨some 6, none, .mov (.c (.slice none 0 0))⟩]
    [0, 1, 2])
  (.seq (.region [⟨some 8, none, .bslice [] [] 0 1⟩,
    ⟨some 9, none, .mov (.t 0)⟩,
    ⟨some 10, none, .app 1 8 (.t 8) (.t 9)⟩,
    ⟨some 7, none, .mov (.t 10)⟩]
    [1, 2, 7])
  (.seq (.region [⟨some 11, none, .mov (.t 7)⟩,
    ⟨some 12, none, .mov (.t 1)⟩,
    ⟨some 13, none, .mov (.t 2)⟩,
    ⟨some 14, none, .idxS 1 (.t 11) (.t 12)⟩,
    ⟨none, none, .store 1 (.t 14) (.t 13)⟩]
    [7])
  (.seq (.region [⟨some 15, none, .mov (.t 7)⟩,
    ⟨some 6, none, .mov (.t 15)⟩]
    [6])
  .ret))))⟩

def RC.slices_Index_int_int : RFn := ⟨2, [.slot 4],
  (.seq (.region [⟨some 4, none, .mov (.c (.int .i64 0))⟩]
    [0, 1])
  (.seq (.seq (.region [⟨some 6, none, .mov (.t 0)⟩,
    ⟨some 7, none, .len (.t 6)⟩,
    ⟨some 8, none, .mov (.c (.int .i64 0))⟩]
    [0, 1, 7, 8])
  (.block 0
    (.loop [0, 1, 7, 8]
      (.seq (.region [⟨some 9, none, .bin .lss (.t 8) (.t 7)⟩]
        [0, 1, 7, 8, 9])
      (.seq (.cond (.t 9)
        .skip
        (.exit 0))
      (.seq (.block 1
        (.seq (.region [⟨some 10, none, .mov (.t 8)⟩,
          ⟨some 5, none, .mov (.t 10)⟩]
          [0, 1, 5, 7, 8])
        (.seq (.region [⟨some 11, none, .mov (.t 1)⟩,
          ⟨some 12, none, .mov (.t 0)⟩,
          ⟨some 13, none, .mov (.t 5)⟩,
          ⟨some 14, none, .idxS 1 (.t 12) (.t 13)⟩,
          ⟨some 15, none, .load false 1 (.t 14)⟩,
          ⟨some 16, none, .bin .eql (.t 11) (.t 15)⟩]
          [0, 1, 5, 7, 8, 16])
        (.cond (.t 16)
          (.seq (.region [⟨some 17, none, .mov (.t 5)⟩,
            ⟨some 4, none, .mov (.t 17)⟩]
            [4])
          .ret)
          .skip))) [0, 1, 7, 8])
      (.region [⟨some 18, none, .bin .add (.t 8) (.c (.int .i64 1))⟩,
        ⟨some 8, none, .mov (.t 18)⟩]
        [0, 1, 7, 8]))))) []))
  (.seq (.region [⟨some 4, none, .mov (.c (.int .i64 (-1)))⟩]
    [4])
  .ret)))⟩

def RC.math_bits_Mul32 : RFn := ⟨2, [.slot 4, .slot 5],
  (.seq (.region [⟨some 4, none, .mov (.c (u32 0#32))⟩,
    ⟨some 5, none, .mov (.c (u32 0#32))⟩]
    [0, 1])
  (.seq (.region [⟨some 7, none, .mov (.t 0)⟩,
    ⟨some 8, none, .conv .u64 (.t 7)⟩,
    ⟨some 9, none, .mov (.t 1)⟩,
    ⟨some 10, none, .conv .u64 (.t 9)⟩,
    ⟨some 11, none, .bin .mul (.t 8) (.t 10)⟩,
    ⟨some 6, none, .mov (.t 11)⟩]
    [6])
  (.seq (.region [⟨some 12, none, .mov (.t 6)⟩,
    ⟨some 13, none, .bin .shr (.t 12) (.c (u64 32#64))⟩,
    ⟨some 14, none, .conv .u32 (.t 13)⟩,
    ⟨some 15, none, .mov (.t 6)⟩,
    ⟨some 16, none, .conv .u32 (.t 15)⟩,
    ⟨some 4, none, .mov (.t 14)⟩,
    ⟨some 5, none, .mov (.t 16)⟩]
    [4, 5])
  .ret)))⟩

def RC.math_bits_Mul64 : RFn := ⟨2, [.slot 4, .slot 5],
  (.seq (.region [⟨some 4, none, .mov (.c (u64 0#64))⟩,
    ⟨some 5, none, .mov (.c (u64 0#64))⟩]
    [0, 1])
  (.seq (.region [⟨some 14, none, .mov (.t 0)⟩,
    ⟨some 15, none, .bin .and (.t 14) (.c (u64 4294967295#64))⟩,
    ⟨some 6, none, .mov (.t 15)⟩]
    [0, 1, 6])
  (.seq (.region [⟨some 16, none, .mov (.t 0)⟩,
    ⟨some 17, none, .bin .shr (.t 16) (.c (u64 32#64))⟩,
    ⟨some 7, none, .mov (.t 17)⟩]
    [0, 1, 6, 7])
  (.seq (.region [⟨some 18, none, .mov (.t 1)⟩,
    ⟨some 19, none, .bin .and (.t 18) (.c (u64 4294967295#64))⟩,
    ⟨some 8, none, .mov (.t 19)⟩]
    [0, 1, 6, 7, 8])
  (.seq (.region [⟨some 20, none, .mov (.t 1)⟩,
    ⟨some 21, none, .bin .shr (.t 20) (.c (u64 32#64))⟩,
    ⟨some 9, none, .mov (.t 21)⟩]
    [0, 1, 6, 7, 8, 9])
  (.seq (.region [⟨some 22, none, .mov (.t 6)⟩,
    ⟨some 23, none, .mov (.t 8)⟩,
    ⟨some 24, none, .bin .mul (.t 22) (.t 23)⟩,
    ⟨some 10, none, .mov (.t 24)⟩]
    [0, 1, 6, 7, 8, 9, 10])
  (.seq (.region [⟨some 25, none, .mov (.t 7)⟩,
    ⟨some 26, none, .mov (.t 8)⟩,
    ⟨some 27, none, .bin .mul (.t 25) (.t 26)⟩,
    ⟨some 28, none, .mov (.t 10)⟩,
    ⟨some 29, none, .bin .shr (.t 28) (.c (u64 32#64))⟩,
    ⟨some 30, none, .bin .add (.t 27) (.t 29)⟩,
    ⟨some 11, none, .mov (.t 30)⟩]
    [0, 1, 6, 7, 9, 11])
  (.seq (.region [⟨some 31, none, .mov (.t 11)⟩,
    ⟨some 32, none, .bin .and (.t 31) (.c (u64 4294967295#64))⟩,
    ⟨some 12, none, .mov (.t 32)⟩]
    [0, 1, 6, 7, 9, 11, 12])
  (.seq (.region [⟨some 33, none, .mov (.t 11)⟩,
    ⟨some 34, none, .bin .shr (.t 33) (.c (u64 32#64))⟩,
    ⟨some 13, none, .mov (.t 34)⟩]
    [0, 1, 6, 7, 9, 12, 13])
  (.seq (.region [⟨some 35, none, .mov (.t 12)⟩,
    ⟨some 36, none, .mov (.t 6)⟩,
    ⟨some 37, none, .mov (.t 9)⟩,
    ⟨some 38, none, .bin .mul (.t 36) (.t 37)⟩,
    ⟨some 39, none, .bin .add (.t 35) (.t 38)⟩,
    ⟨some 12, none, .mov (.t 39)⟩]
    [0, 1, 7, 9, 12, 13])
  (.seq (.region [⟨some 40, none, .mov (.t 7)⟩,
    ⟨some 41, none, .mov (.t 9)⟩,
    ⟨some 42, none, .bin .mul (.t 40) (.t 41)⟩,
    ⟨some 43, none, .mov (.t 13)⟩,
    ⟨some 44, none, .bin .add (.t 42) (.t 43)⟩,
    ⟨some 45, none, .mov (.t 12)⟩,
    ⟨some 46, none, .bin .shr (.t 45) (.c (u64 32#64))⟩,
    ⟨some 47, none, .bin .add (.t 44) (.t 46)⟩,
    ⟨some 4, none, .mov (.t 47)⟩]
    [0, 1, 4])
  (.seq (.region [⟨some 48, none, .mov (.t 0)⟩,
    ⟨some 49, none, .mov (.t 1)⟩,
    ⟨some 50, none, .bin .mul (.t 48) (.t 49)⟩,
    ⟨some 5, none, .mov (.t 50)⟩]
    [4, 5])
  .ret))))))))))))⟩

def tab0 : List (Nat × FEnt) := [(F.law27_CoresPlay, .rc RC.law27_CoresPlay),
  (F.law27_CoresNever, .rc RC.law27_CoresNever),
  (F.law27_CoresTwo, .rc RC.law27_CoresTwo),
  (F.law27_CoresNobody, .rc RC.law27_CoresNobody),
  (F.cores_New, .rc RC.cores_New),
  (F.law27_awake, .rc RC.law27_awake),
  (F.ref27_New, .rc RC.ref27_New),
  (F.law27_step, .rc RC.law27_step),
  (F.cores_Set_State, .rc RC.cores_Set_State),
  (F.cores_Set_Len, .rc RC.cores_Set_Len),
  (F.cores_Set_In, .rc RC.cores_Set_In),
  (F.ref27_Bits, .rc RC.ref27_Bits),
  (F.cores_Set_Count, .rc RC.cores_Set_Count),
  (F.ref27_Count, .rc RC.ref27_Count),
  (F.cores_Set_Unplug, .rc RC.cores_Set_Unplug),
  (F.cores_Set_Turn, .rc RC.cores_Set_Turn),
  (F.cores_Set_Plug, .rc RC.cores_Set_Plug),
  (F.cores_Set_Fork, .rc RC.cores_Set_Fork),
  (F.slices_Repeat_int_int, .rc RC.slices_Repeat_int_int),
  (F.ref27_Plug, .rc RC.ref27_Plug),
  (F.ref27_Unplug, .rc RC.ref27_Unplug),
  (F.ref27_Turn, .rc RC.ref27_Turn),
  (F.slices_Contains_int_int, .rc RC.slices_Contains_int_int),
  (F.math_bits_OnesCount32, .rc RC.math_bits_OnesCount32),
  (F.cores_Set_change, .rc RC.cores_Set_change),
  (F.slices_Clone_int_int, .rc RC.slices_Clone_int_int),
  (F.math_bits_Mul, .rc RC.math_bits_Mul),
  (F.ref27_with, .rc RC.ref27_with),
  (F.slices_Index_int_int, .rc RC.slices_Index_int_int),
  (F.math_bits_Mul32, .rc RC.math_bits_Mul32),
  (F.math_bits_Mul64, .rc RC.math_bits_Mul64)]
/-- What each number stands for. -/
def R0 : Nat → Option FEnt := lookF tab0
/-- The same, with the examples as known. -/
def tab : List (Nat × FEnt) := (F.law27_awake, .ext X.ok) :: tab0
def R : Nat → Option FEnt := lookF tab
theorem R.law27_awake : R F.law27_awake = some (.ext X.ok) := by with_unfolding_all rfl
theorem R.law27_CoresPlay : R F.law27_CoresPlay = some (.rc RC.law27_CoresPlay) := by with_unfolding_all rfl
theorem R.law27_CoresNever : R F.law27_CoresNever = some (.rc RC.law27_CoresNever) := by with_unfolding_all rfl
theorem R.law27_CoresTwo : R F.law27_CoresTwo = some (.rc RC.law27_CoresTwo) := by with_unfolding_all rfl
theorem R.law27_CoresNobody : R F.law27_CoresNobody = some (.rc RC.law27_CoresNobody) := by with_unfolding_all rfl
theorem R.cores_New : R F.cores_New = some (.rc RC.cores_New) := by with_unfolding_all rfl
theorem R.ref27_New : R F.ref27_New = some (.rc RC.ref27_New) := by with_unfolding_all rfl
theorem R.law27_step : R F.law27_step = some (.rc RC.law27_step) := by with_unfolding_all rfl
theorem R.cores_Set_State : R F.cores_Set_State = some (.rc RC.cores_Set_State) := by with_unfolding_all rfl
theorem R.cores_Set_Len : R F.cores_Set_Len = some (.rc RC.cores_Set_Len) := by with_unfolding_all rfl
theorem R.cores_Set_In : R F.cores_Set_In = some (.rc RC.cores_Set_In) := by with_unfolding_all rfl
theorem R.ref27_Bits : R F.ref27_Bits = some (.rc RC.ref27_Bits) := by with_unfolding_all rfl
theorem R.cores_Set_Count : R F.cores_Set_Count = some (.rc RC.cores_Set_Count) := by with_unfolding_all rfl
theorem R.ref27_Count : R F.ref27_Count = some (.rc RC.ref27_Count) := by with_unfolding_all rfl
theorem R.cores_Set_Unplug : R F.cores_Set_Unplug = some (.rc RC.cores_Set_Unplug) := by with_unfolding_all rfl
theorem R.cores_Set_Turn : R F.cores_Set_Turn = some (.rc RC.cores_Set_Turn) := by with_unfolding_all rfl
theorem R.cores_Set_Plug : R F.cores_Set_Plug = some (.rc RC.cores_Set_Plug) := by with_unfolding_all rfl
theorem R.cores_Set_Fork : R F.cores_Set_Fork = some (.rc RC.cores_Set_Fork) := by with_unfolding_all rfl
theorem R.slices_Repeat_int_int : R F.slices_Repeat_int_int = some (.rc RC.slices_Repeat_int_int) := by with_unfolding_all rfl
theorem R.ref27_Plug : R F.ref27_Plug = some (.rc RC.ref27_Plug) := by with_unfolding_all rfl
theorem R.ref27_Unplug : R F.ref27_Unplug = some (.rc RC.ref27_Unplug) := by with_unfolding_all rfl
theorem R.ref27_Turn : R F.ref27_Turn = some (.rc RC.ref27_Turn) := by with_unfolding_all rfl
theorem R.slices_Contains_int_int : R F.slices_Contains_int_int = some (.rc RC.slices_Contains_int_int) := by with_unfolding_all rfl
theorem R.math_bits_OnesCount32 : R F.math_bits_OnesCount32 = some (.rc RC.math_bits_OnesCount32) := by with_unfolding_all rfl
theorem R.cores_Set_change : R F.cores_Set_change = some (.rc RC.cores_Set_change) := by with_unfolding_all rfl
theorem R.slices_Clone_int_int : R F.slices_Clone_int_int = some (.rc RC.slices_Clone_int_int) := by with_unfolding_all rfl
theorem R.math_bits_Mul : R F.math_bits_Mul = some (.rc RC.math_bits_Mul) := by with_unfolding_all rfl
theorem R.ref27_with : R F.ref27_with = some (.rc RC.ref27_with) := by with_unfolding_all rfl
theorem R.slices_Index_int_int : R F.slices_Index_int_int = some (.rc RC.slices_Index_int_int) := by with_unfolding_all rfl
theorem R.math_bits_Mul32 : R F.math_bits_Mul32 = some (.rc RC.math_bits_Mul32) := by with_unfolding_all rfl
theorem R.math_bits_Mul64 : R F.math_bits_Mul64 = some (.rc RC.math_bits_Mul64) := by with_unfolding_all rfl
end Go.Am


/- The table of the layer cores is as the program has it. Printed by lawgen.py. -/
namespace Go.Am
open Go.Proofs
set_option maxRecDepth 100000

/-- Nothing is asked of the world. -/
def G : Nat → World → Prop := fun _ _ => True
instance : Keeps G := ⟨fun _ _ _ _ h => h⟩
instance : Rises G := ⟨fun _ _ _ _ h => h⟩
theorem hmix : Try.prog.follows .mixedOrders = true := by kernel_rfl
theorem E.law27_CoresPlay : EntOk Try.prog G F.law27_CoresPlay (.rc RC.law27_CoresPlay) := ⟨Try.f3, by unfold F.law27_CoresPlay; exact Try.func3, by kernel_rfl, by kernel_rfl⟩
theorem E.law27_CoresNever : EntOk Try.prog G F.law27_CoresNever (.rc RC.law27_CoresNever) := ⟨Try.f4, by unfold F.law27_CoresNever; exact Try.func4, by kernel_rfl, by kernel_rfl⟩
theorem E.law27_CoresTwo : EntOk Try.prog G F.law27_CoresTwo (.rc RC.law27_CoresTwo) := ⟨Try.f5, by unfold F.law27_CoresTwo; exact Try.func5, by kernel_rfl, by kernel_rfl⟩
theorem E.law27_CoresNobody : EntOk Try.prog G F.law27_CoresNobody (.rc RC.law27_CoresNobody) := ⟨Try.f6, by unfold F.law27_CoresNobody; exact Try.func6, by kernel_rfl, by kernel_rfl⟩
theorem E.cores_New : EntOk Try.prog G F.cores_New (.rc RC.cores_New) := ⟨Try.f7, by unfold F.cores_New; exact Try.func7, by kernel_rfl, by kernel_rfl⟩
theorem E.law27_awake : EntOk Try.prog G F.law27_awake (.rc RC.law27_awake) := ⟨Try.f8, by unfold F.law27_awake; exact Try.func8, by kernel_rfl, by kernel_rfl⟩
theorem E.ref27_New : EntOk Try.prog G F.ref27_New (.rc RC.ref27_New) := ⟨Try.f9, by unfold F.ref27_New; exact Try.func9, by kernel_rfl, by kernel_rfl⟩
theorem E.law27_step : EntOk Try.prog G F.law27_step (.rc RC.law27_step) := ⟨Try.f10, by unfold F.law27_step; exact Try.func10, by kernel_rfl, by kernel_rfl⟩
theorem E.cores_Set_State : EntOk Try.prog G F.cores_Set_State (.rc RC.cores_Set_State) := ⟨Try.f11, by unfold F.cores_Set_State; exact Try.func11, by kernel_rfl, by kernel_rfl⟩
theorem E.cores_Set_Len : EntOk Try.prog G F.cores_Set_Len (.rc RC.cores_Set_Len) := ⟨Try.f12, by unfold F.cores_Set_Len; exact Try.func12, by kernel_rfl, by kernel_rfl⟩
theorem E.cores_Set_In : EntOk Try.prog G F.cores_Set_In (.rc RC.cores_Set_In) := ⟨Try.f13, by unfold F.cores_Set_In; exact Try.func13, by kernel_rfl, by kernel_rfl⟩
theorem E.ref27_Bits : EntOk Try.prog G F.ref27_Bits (.rc RC.ref27_Bits) := ⟨Try.f14, by unfold F.ref27_Bits; exact Try.func14, by kernel_rfl, by kernel_rfl⟩
theorem E.cores_Set_Count : EntOk Try.prog G F.cores_Set_Count (.rc RC.cores_Set_Count) := ⟨Try.f15, by unfold F.cores_Set_Count; exact Try.func15, by kernel_rfl, by kernel_rfl⟩
theorem E.ref27_Count : EntOk Try.prog G F.ref27_Count (.rc RC.ref27_Count) := ⟨Try.f16, by unfold F.ref27_Count; exact Try.func16, by kernel_rfl, by kernel_rfl⟩
theorem E.cores_Set_Unplug : EntOk Try.prog G F.cores_Set_Unplug (.rc RC.cores_Set_Unplug) := ⟨Try.f17, by unfold F.cores_Set_Unplug; exact Try.func17, by kernel_rfl, by kernel_rfl⟩
theorem E.cores_Set_Turn : EntOk Try.prog G F.cores_Set_Turn (.rc RC.cores_Set_Turn) := ⟨Try.f18, by unfold F.cores_Set_Turn; exact Try.func18, by kernel_rfl, by kernel_rfl⟩
theorem E.cores_Set_Plug : EntOk Try.prog G F.cores_Set_Plug (.rc RC.cores_Set_Plug) := ⟨Try.f19, by unfold F.cores_Set_Plug; exact Try.func19, by kernel_rfl, by kernel_rfl⟩
theorem E.cores_Set_Fork : EntOk Try.prog G F.cores_Set_Fork (.rc RC.cores_Set_Fork) := ⟨Try.f20, by unfold F.cores_Set_Fork; exact Try.func20, by kernel_rfl, by kernel_rfl⟩
theorem E.slices_Repeat_int_int : EntOk Try.prog G F.slices_Repeat_int_int (.rc RC.slices_Repeat_int_int) := ⟨Try.f21, by unfold F.slices_Repeat_int_int; exact Try.func21, by kernel_rfl, by kernel_rfl⟩
theorem E.ref27_Plug : EntOk Try.prog G F.ref27_Plug (.rc RC.ref27_Plug) := ⟨Try.f22, by unfold F.ref27_Plug; exact Try.func22, by kernel_rfl, by kernel_rfl⟩
theorem E.ref27_Unplug : EntOk Try.prog G F.ref27_Unplug (.rc RC.ref27_Unplug) := ⟨Try.f23, by unfold F.ref27_Unplug; exact Try.func23, by kernel_rfl, by kernel_rfl⟩
theorem E.ref27_Turn : EntOk Try.prog G F.ref27_Turn (.rc RC.ref27_Turn) := ⟨Try.f24, by unfold F.ref27_Turn; exact Try.func24, by kernel_rfl, by kernel_rfl⟩
theorem E.slices_Contains_int_int : EntOk Try.prog G F.slices_Contains_int_int (.rc RC.slices_Contains_int_int) := ⟨Try.f25, by unfold F.slices_Contains_int_int; exact Try.func25, by kernel_rfl, by kernel_rfl⟩
theorem E.math_bits_OnesCount32 : EntOk Try.prog G F.math_bits_OnesCount32 (.rc RC.math_bits_OnesCount32) := ⟨Try.f26, by unfold F.math_bits_OnesCount32; exact Try.func26, by kernel_rfl, by kernel_rfl⟩
theorem E.cores_Set_change : EntOk Try.prog G F.cores_Set_change (.rc RC.cores_Set_change) := ⟨Try.f27, by unfold F.cores_Set_change; exact Try.func27, by kernel_rfl, by kernel_rfl⟩
theorem E.slices_Clone_int_int : EntOk Try.prog G F.slices_Clone_int_int (.rc RC.slices_Clone_int_int) := ⟨Try.f28, by unfold F.slices_Clone_int_int; exact Try.func28, by kernel_rfl, by kernel_rfl⟩
theorem E.math_bits_Mul : EntOk Try.prog G F.math_bits_Mul (.rc RC.math_bits_Mul) := ⟨Try.f29, by unfold F.math_bits_Mul; exact Try.func29, by kernel_rfl, by kernel_rfl⟩
theorem E.ref27_with : EntOk Try.prog G F.ref27_with (.rc RC.ref27_with) := ⟨Try.f30, by unfold F.ref27_with; exact Try.func30, by kernel_rfl, by kernel_rfl⟩
theorem E.slices_Index_int_int : EntOk Try.prog G F.slices_Index_int_int (.rc RC.slices_Index_int_int) := ⟨Try.f31, by unfold F.slices_Index_int_int; exact Try.func31, by kernel_rfl, by kernel_rfl⟩
theorem E.math_bits_Mul32 : EntOk Try.prog G F.math_bits_Mul32 (.rc RC.math_bits_Mul32) := ⟨Try.f32, by unfold F.math_bits_Mul32; exact Try.func32, by kernel_rfl, by kernel_rfl⟩
theorem E.math_bits_Mul64 : EntOk Try.prog G F.math_bits_Mul64 (.rc RC.math_bits_Mul64) := ⟨Try.f33, by unfold F.math_bits_Mul64; exact Try.func33, by kernel_rfl, by kernel_rfl⟩
theorem ents : EntsOk Try.prog G tab0 := ⟨E.law27_CoresPlay, E.law27_CoresNever, E.law27_CoresTwo, E.law27_CoresNobody, E.cores_New, E.law27_awake, E.ref27_New, E.law27_step, E.cores_Set_State, E.cores_Set_Len, E.cores_Set_In, E.ref27_Bits, E.cores_Set_Count, E.ref27_Count, E.cores_Set_Unplug, E.cores_Set_Turn, E.cores_Set_Plug, E.cores_Set_Fork, E.slices_Repeat_int_int, E.ref27_Plug, E.ref27_Unplug, E.ref27_Turn, E.slices_Contains_int_int, E.math_bits_OnesCount32, E.cores_Set_change, E.slices_Clone_int_int, E.math_bits_Mul, E.ref27_with, E.slices_Index_int_int, E.math_bits_Mul32, E.math_bits_Mul64, trivial⟩
theorem tabOk0 : TabOk Try.prog G R0 := TabOk.of ents
theorem C.law27_awake : EntOk Try.prog G F.law27_awake (.ext X.ok) := X.ok_sim (const_sim hmix tabOk0 (n := 1000) (by kernel_rfl))
theorem tabOk : TabOk Try.prog G R := TabOk.of (l := tab) (⟨C.law27_awake, ents⟩)
end Go.Am


/- Counting the bits of a word by halves, as math/bits does: what it comes to. -/
namespace Go.Am

/-- How many of the first n bits are set. -/
def popN : Nat → Nat → Nat
  | 0, _ => 0
  | n + 1, x => x % 2 + popN n (x / 2)

theorem and_split (a b : Nat) : a &&& b = ((a % 256) &&& (b % 256)) + 256 * ((a / 256) &&& (b / 256)) := by
  have h1 : (a &&& b) % 256 = (a % 256) &&& (b % 256) := by
    have := Nat.and_mod_two_pow (a := a) (b := b) (n := 8)
    simpa using this
  have h2 : (a &&& b) / 256 = (a / 256) &&& (b / 256) := by
    have := Nat.and_div_two_pow (a := a) (b := b) (n := 8)
    simpa using this
  rw [← h1, ← h2]; omega

def rep (m : Nat) : Nat → Nat
  | 0 => 0
  | n + 1 => m + 256 * rep m n

def halves (s m n x : Nat) : Nat := ((x / 2 ^ s) &&& rep m n) + (x &&& rep m n)

theorem halves_step {s m n d x : Nat} (hd : d < 256) (hm : m < 256) (hs : s < 8) (hlow : ∀ c, c < 2 ^ s → ∀ d, d < 256 → ((d / 2 ^ s + 2 ^ (8 - s) * c) &&& m) = (d / 2 ^ s) &&& m) :
    halves s m (n + 1) (d + 256 * x) = halves s m 1 d + 256 * halves s m n x := by
  have e256 : (256 : Nat) = 2 ^ s * 2 ^ (8 - s) := by rw [← Nat.pow_add, show s + (8 - s) = 8 by omega]
  have hp : 0 < 2 ^ s := Nat.pow_pos (by omega)
  have hq : 0 < 2 ^ (8 - s) := Nat.pow_pos (by omega)
  have hdq : d / 2 ^ s < 2 ^ (8 - s) := by
    rw [Nat.div_lt_iff_lt_mul hp, Nat.mul_comm, ← e256]; exact hd
  have hdiv : (d + 256 * x) / 2 ^ s = (d / 2 ^ s + 2 ^ (8 - s) * (x % 2 ^ s)) + 256 * (x / 2 ^ s) := by
    have hx : x = x % 2 ^ s + 2 ^ s * (x / 2 ^ s) := (Nat.mod_add_div x (2 ^ s)).symm
    have : d + 256 * x = d + 2 ^ s * (2 ^ (8 - s) * x) := by rw [← Nat.mul_assoc, ← e256]
    rw [this, Nat.add_mul_div_left _ _ hp]
    conv => lhs; rw [hx]
    rw [Nat.mul_add, ← Nat.mul_assoc, Nat.mul_comm (2 ^ (8 - s)) (2 ^ s), ← e256]; omega
  have hlo : d / 2 ^ s + 2 ^ (8 - s) * (x % 2 ^ s) < 256 := by
    have : x % 2 ^ s < 2 ^ s := Nat.mod_lt _ hp
    have h2 : 2 ^ (8 - s) * (x % 2 ^ s) + 2 ^ (8 - s) ≤ 256 := by
      rw [e256, Nat.mul_comm (2 ^ s), ← Nat.mul_succ]; exact Nat.mul_le_mul_left _ this
    omega
  unfold halves
  simp only [rep, Nat.mul_zero, Nat.add_zero]
  rw [hdiv, and_split (_ + 256 * (x / 2 ^ s)), and_split (d + 256 * x)]
  rw [Nat.add_mul_mod_self_left, Nat.add_mul_mod_self_left, Nat.mod_eq_of_lt hlo, Nat.mod_eq_of_lt hm, Nat.add_mul_mod_self_left, Nat.mod_eq_of_lt hd]
  rw [Nat.add_mul_div_left _ _ (by omega), Nat.add_mul_div_left _ _ (by omega), Nat.add_mul_div_left _ _ (by omega), Nat.div_eq_of_lt hlo, Nat.div_eq_of_lt hm, Nat.div_eq_of_lt hd]
  simp only [Nat.zero_add]
  rw [hlow _ (Nat.mod_lt _ hp) _ hd]
  omega

/-- The third step: one sum, then the mask. -/
def thirds (n x : Nat) : Nat := (x / 16 + x) &&& rep 15 n

theorem thirds_step {n d x : Nat} (hd : d % 16 ≤ 4 ∧ d / 16 ≤ 4) (hx : x % 16 ≤ 4) : thirds (n + 1) (d + 256 * x) = (d / 16 + d % 16) + 256 * thirds n x := by
  unfold thirds
  simp only [rep]
  have h1 : (d + 256 * x) / 16 + (d + 256 * x) = (d / 16 + 16 * (x % 16) + d) + 256 * (x / 16 + x) := by omega
  have h2 : d / 16 + 16 * (x % 16) + d < 256 := by omega
  rw [h1, and_split, Nat.add_mul_mod_self_left, Nat.mod_eq_of_lt h2, Nat.add_mul_div_left _ _ (by omega), Nat.div_eq_of_lt h2]
  rw [show (15 + 256 * rep 15 n) % 256 = 15 by omega, show (15 + 256 * rep 15 n) / 256 = rep 15 n by omega]
  have h3 : (d / 16 + 16 * (x % 16) + d) &&& 15 = (d / 16 + 16 * (x % 16) + d) % 16 := Nat.and_two_pow_sub_one_eq_mod _ 4
  rw [h3, Nat.zero_add]
  omega

/-- The bytes of a number, each counted. -/
def counted : Nat → Nat → Nat
  | 0, _ => 0
  | n + 1, x => popN 8 (x % 256) + 256 * counted n (x / 256)

theorem byte_fact : ∀ d, d < 256 → halves 2 51 1 (halves 1 85 1 d) / 16 + halves 2 51 1 (halves 1 85 1 d) % 16 = popN 8 d ∧ halves 1 85 1 d < 256 ∧
    halves 2 51 1 (halves 1 85 1 d) < 256 ∧ halves 2 51 1 (halves 1 85 1 d) % 16 ≤ 4 ∧ halves 2 51 1 (halves 1 85 1 d) / 16 ≤ 4 := by decide +kernel

theorem low1 : ∀ c, c < 2 ^ 1 → ∀ d, d < 256 → ((d / 2 ^ 1 + 2 ^ (8 - 1) * c) &&& 85) = (d / 2 ^ 1) &&& 85 := by decide +kernel
theorem low2 : ∀ c, c < 2 ^ 2 → ∀ d, d < 256 → ((d / 2 ^ 2 + 2 ^ (8 - 2) * c) &&& 51) = (d / 2 ^ 2) &&& 51 := by decide +kernel

theorem bytes_all : ∀ (n x : Nat), thirds n (halves 2 51 n (halves 1 85 n x)) = counted n x ∧ (0 < n → halves 2 51 n (halves 1 85 n x) % 16 ≤ 4)
  | 0, x => by simp [thirds, halves, rep, counted]
  | n + 1, x => by
    have hd : x % 256 < 256 := Nat.mod_lt _ (by omega)
    obtain ⟨f1, f2, f3, f4, f5⟩ := byte_fact _ hd
    have hx : x = x % 256 + 256 * (x / 256) := by omega
    obtain ⟨i1, i2⟩ := bytes_all n (x / 256)
    have h1 := halves_step (s := 1) (m := 85) (n := n) (x := x / 256) hd (by omega) (by omega) low1
    have h2 := halves_step (s := 2) (m := 51) (n := n) (x := halves 1 85 n (x / 256)) f2 (by omega) (by omega) low2
    rw [← hx] at h1
    rw [h1, h2]
    have hm : halves 2 51 n (halves 1 85 n (x / 256)) % 16 ≤ 4 := by
      cases n with
      | zero => simp [halves, rep]
      | succ n => exact i2 (by omega)
    refine ⟨?_, fun _ => by omega⟩
    rw [thirds_step ⟨f4, f5⟩ hm, i1, f1]
    rfl

theorem popN_le : ∀ (n x : Nat), popN n x ≤ n
  | 0, _ => Nat.le_refl _
  | n + 1, x => by have := popN_le n (x / 2); simp only [popN]; omega

theorem popN_add : ∀ (a b x : Nat), popN (a + b) x = popN a x + popN b (x / 2 ^ a)
  | 0, b, x => by simp [popN]
  | a + 1, b, x => by
    rw [show a + 1 + b = (a + b) + 1 by omega]
    simp only [popN]
    rw [popN_add a b (x / 2), Nat.div_div_eq_div_mul, Nat.pow_succ, Nat.mul_comm 2]
    omega

theorem popN_mod : ∀ (n x : Nat), popN n (x % 2 ^ n) = popN n x
  | 0, _ => rfl
  | n + 1, x => by
    simp only [popN]
    have h1 : x % 2 ^ (n + 1) % 2 = x % 2 := Nat.mod_mod_of_dvd _ ⟨2 ^ n, by rw [Nat.pow_succ, Nat.mul_comm]⟩
    have h2 : x % 2 ^ (n + 1) / 2 = x / 2 % 2 ^ n := by rw [Nat.pow_succ, Nat.mul_comm, Nat.mod_mul_right_div_self]
    rw [h1, h2, popN_mod n]

theorem pop_bytes (x : Nat) : popN 64 x = popN 8 (x % 256) + (popN 8 (x / 256 % 256) + (popN 8 (x / 65536 % 256) + (popN 8 (x / 16777216 % 256) + (popN 8 (x / 4294967296 % 256) + (popN 8 (x / 1099511627776 % 256) + (popN 8 (x / 281474976710656 % 256) + popN 8 (x / 72057594037927936 % 256))))))) := by
  have m : ∀ y, popN 8 (y % 256) = popN 8 y := fun y => popN_mod 8 y
  rw [m, m, m, m, m, m, m, m]
  have h (b y : Nat) : popN (8 + b) y = popN 8 y + popN b (y / 256) := popN_add 8 b y
  have h1 := h 56 x
  have h2 := h 48 (x / 256)
  have h3 := h 40 (x / 65536)
  have h4 := h 32 (x / 16777216)
  have h5 := h 24 (x / 4294967296)
  have h6 := h 16 (x / 1099511627776)
  have h7 := h 8 (x / 281474976710656)
  rw [Nat.div_div_eq_div_mul] at h2 h3 h4 h5 h6 h7
  rw [h1, h2, h3, h4, h5, h6, h7]

theorem sum_nums {c0 c1 c2 c3 c4 c5 c6 c7 y1 y2 : Nat} (p0 : c0 ≤ 8) (p1 : c1 ≤ 8) (p2 : c2 ≤ 8) (p3 : c3 ≤ 8) (p4 : c4 ≤ 8) (p5 : c5 ≤ 8) (p6 : c6 ≤ 8) (p7 : c7 ≤ 8)
    (h1 : y1 = (c0 + 256 * c1 + 65536 * c2 + 16777216 * c3 + 4294967296 * c4 + 1099511627776 * c5 + 281474976710656 * c6 + 72057594037927936 * c7) + (c1 + 256 * c2 + 65536 * c3 + 16777216 * c4 + 4294967296 * c5 + 1099511627776 * c6 + 281474976710656 * c7))
    (h2 : y2 = y1 + y1 / 65536) : (y2 + y2 / 4294967296) % 128 = c0 + c1 + c2 + c3 + c4 + c5 + c6 + c7 ∧ y1 < 18446744073709551616 ∧ y2 < 18446744073709551616 ∧ y2 + y2 / 4294967296 < 18446744073709551616 := by
  have a2 : y1 / 65536 = (c2 + c3) + 256 * (c3 + c4) + 65536 * (c4 + c5) + 16777216 * (c5 + c6) + 4294967296 * (c6 + c7) + 1099511627776 * c7 := by omega
  rw [a2] at h2
  have a3 : y2 / 4294967296 = (c4 + c5 + c6 + c7) + 256 * (c5 + c6 + c7) + 65536 * (c6 + c7) + 16777216 * c7 := by omega
  rw [a3]
  refine ⟨?_, ?_, ?_, ?_⟩
  · clear a2 a3; subst h1; subst h2; omega
  · omega
  · omega
  · omega

def pop (x : BitVec 64) : Nat := popN 64 x.toNat

theorem rep85 : rep 85 8 = 6148914691236517205 := by decide
theorem rep51 : rep 51 8 = 3689348814741910323 := by decide
theorem rep15 : rep 15 8 = 1085102592571150095 := by decide

theorem pop1 (x : BitVec 64) : ((x >>> 1 &&& 6148914691236517205#64) + (x &&& 6148914691236517205#64)).toNat = halves 1 85 8 x.toNat := by
  unfold halves
  rw [rep85]
  have h1 : (x.toNat / 2 ^ 1) &&& 6148914691236517205 ≤ 6148914691236517205 := Nat.and_le_right
  have h2 : x.toNat &&& 6148914691236517205 ≤ 6148914691236517205 := Nat.and_le_right
  rw [BitVec.toNat_add, BitVec.toNat_and, BitVec.toNat_and, BitVec.toNat_ushiftRight, Nat.shiftRight_eq_div_pow]
  exact Nat.mod_eq_of_lt (by simp only [BitVec.toNat_ofNat, Nat.reducePow, Nat.reduceMod] at *; omega)

theorem pop2 (x : BitVec 64) : ((x >>> 2 &&& 3689348814741910323#64) + (x &&& 3689348814741910323#64)).toNat = halves 2 51 8 x.toNat := by
  unfold halves
  rw [rep51]
  have h1 : (x.toNat / 2 ^ 2) &&& 3689348814741910323 ≤ 3689348814741910323 := Nat.and_le_right
  have h2 : x.toNat &&& 3689348814741910323 ≤ 3689348814741910323 := Nat.and_le_right
  rw [BitVec.toNat_add, BitVec.toNat_and, BitVec.toNat_and, BitVec.toNat_ushiftRight, Nat.shiftRight_eq_div_pow]
  exact Nat.mod_eq_of_lt (by simp only [BitVec.toNat_ofNat, Nat.reducePow, Nat.reduceMod] at *; omega)

theorem pop3 (x : BitVec 64) (hx : x.toNat ≤ 2 * rep 51 8) : ((x >>> 4 + x) &&& 1085102592571150095#64).toNat = thirds 8 x.toNat := by
  unfold thirds
  rw [rep15]
  rw [rep51] at hx
  rw [BitVec.toNat_and, BitVec.toNat_add, BitVec.toNat_ushiftRight, Nat.shiftRight_eq_div_pow, Nat.mod_eq_of_lt (by omega)]
  rfl

theorem add_shr (x : BitVec 64) (k q : Nat) (hq : 2 ^ k = q) (h : x.toNat + x.toNat / q < 18446744073709551616) : (x + x >>> k).toNat = x.toNat + x.toNat / q := by
  subst hq
  rw [BitVec.toNat_add, BitVec.toNat_ushiftRight, Nat.shiftRight_eq_div_pow]
  exact Nat.mod_eq_of_lt h

theorem counted8 (y : Nat) : counted 8 y = popN 8 (y % 256) + 256 * (popN 8 (y / 256 % 256) + 256 * (popN 8 (y / 65536 % 256) + 256 * (popN 8 (y / 16777216 % 256) + 256 * (popN 8 (y / 4294967296 % 256) + 256 * (popN 8 (y / 1099511627776 % 256) + 256 * (popN 8 (y / 281474976710656 % 256) + 256 * popN 8 (y / 72057594037927936 % 256))))))) := by
  simp only [counted, Nat.div_div_eq_div_mul, Nat.reduceMul, Nat.mul_zero, Nat.add_zero]

theorem final_nums {c0 c1 c2 c3 c4 c5 c6 c7 : Nat} {c d e f : BitVec 64} (p0 : c0 ≤ 8) (p1 : c1 ≤ 8) (p2 : c2 ≤ 8) (p3 : c3 ≤ 8) (p4 : c4 ≤ 8) (p5 : c5 ≤ 8) (p6 : c6 ≤ 8) (p7 : c7 ≤ 8)
    (h4 : c.toNat = c0 + 256 * (c1 + 256 * (c2 + 256 * (c3 + 256 * (c4 + 256 * (c5 + 256 * (c6 + 256 * c7)))))))
    (hd : d = c + c >>> 8) (he : e = d + d >>> 16) (hf : f = e + e >>> 32) : f.toNat % 128 = c0 + (c1 + (c2 + (c3 + (c4 + (c5 + (c6 + c7)))))) := by
  obtain ⟨cn, hcn⟩ : ∃ n, n = c.toNat := ⟨_, rfl⟩
  obtain ⟨y1, hy1⟩ : ∃ n, n = cn + cn / 256 := ⟨_, rfl⟩
  obtain ⟨y2, hy2⟩ : ∃ n, n = y1 + y1 / 65536 := ⟨_, rfl⟩
  obtain ⟨y3, hy3⟩ : ∃ n, n = y2 + y2 / 4294967296 := ⟨_, rfl⟩
  have e0 : y1 = (c0 + 256 * c1 + 65536 * c2 + 16777216 * c3 + 4294967296 * c4 + 1099511627776 * c5 + 281474976710656 * c6 + 72057594037927936 * c7) + (c1 + 256 * c2 + 65536 * c3 + 16777216 * c4 + 4294967296 * c5 + 1099511627776 * c6 + 281474976710656 * c7) := by omega
  obtain ⟨s1, s2, s3, s4⟩ := sum_nums p0 p1 p2 p3 p4 p5 p6 p7 e0 hy2
  have hd2 : d.toNat = y1 := by
    have := add_shr c 8 256 rfl (by rw [← hcn, ← hy1]; exact s2)
    rw [← hd, ← hcn, ← hy1] at this; exact this
  have he2 : e.toNat = y2 := by
    have := add_shr d 16 65536 rfl (by rw [hd2, ← hy2]; exact s3)
    rw [← he, hd2, ← hy2] at this; exact this
  have hf2 : f.toNat = y3 := by
    have := add_shr e 32 4294967296 rfl (by rw [he2]; exact s4)
    rw [← hf, he2, ← hy3] at this; exact this
  rw [hf2, hy3, s1]
  simp only [Nat.add_assoc]

attribute [local irreducible] popN counted halves thirds rep

/-- What math/bits computes: the number of the bits. -/
theorem pop_word (x : BitVec 64) (a b c d e f : BitVec 64) (ha : a = (x >>> 1 &&& 6148914691236517205#64) + (x &&& 6148914691236517205#64)) (hb : b = (a >>> 2 &&& 3689348814741910323#64) + (a &&& 3689348814741910323#64))
    (hc : c = (b >>> 4 + b) &&& 1085102592571150095#64) (hd : d = c + c >>> 8) (he : e = d + d >>> 16) (hf : f = e + e >>> 32) : f.toNat % 128 = pop x := by
  have h1 : a.toNat = halves 1 85 8 x.toNat := by rw [ha]; exact pop1 x
  have h2 : b.toNat = halves 2 51 8 a.toNat := by rw [hb]; exact pop2 a
  have h3 : c.toNat = thirds 8 b.toNat := by
    rw [hc]; refine pop3 b ?_
    rw [h2]; unfold halves
    have h4 : (a.toNat / 2 ^ 2) &&& rep 51 8 ≤ rep 51 8 := Nat.and_le_right
    have h5 : a.toNat &&& rep 51 8 ≤ rep 51 8 := Nat.and_le_right
    omega
  have h4 : c.toNat = counted 8 x.toNat := by rw [h3, h2, h1]; exact (bytes_all 8 x.toNat).1
  rw [counted8] at h4
  unfold pop
  rw [pop_bytes]
  have p := fun y => popN_le 8 y
  exact final_nums (p _) (p _) (p _) (p _) (p _) (p _) (p _) (p _) h4 hd he hf
end Go.Am


/- Cores: the plain words. -/
set_option linter.unusedVariables false
namespace Go.Am

/-- The members' bits. -/
def mkN (p : Int → Bool) : List Int → Nat
  | [] => 0
  | a :: r => (if p a then 1 else 0) + 2 * mkN p r

theorem mkN_lt {p : Int → Bool} : ∀ {L : List Int}, mkN p L < 2 ^ L.length
  | [] => by simp [mkN]
  | a :: r => by
    have := mkN_lt (p := p) (L := r)
    simp only [mkN, List.length_cons, Nat.pow_succ]
    split <;> omega

theorem mkN_snoc {p : Int → Bool} {a : Int} : ∀ {L : List Int}, mkN p (L ++ [a]) = mkN p L + (if p a then 2 ^ L.length else 0)
  | [] => by simp [mkN]
  | b :: r => by
    simp only [List.cons_append, mkN, mkN_snoc (L := r), List.length_cons, Nat.pow_succ]
    split <;> split <;> omega

theorem mkN_take {p : Int → Bool} {L : List Int} {i : Nat} (h : i < L.length) : mkN p (L.take (i + 1)) = mkN p (L.take i) + (if p L[i] then 2 ^ i else 0) := by
  rw [List.take_succ_eq_append_getElem h, mkN_snoc, List.length_take, Nat.min_eq_left (by omega)]

def mk32 (p : Int → Bool) (L : List Int) : BitVec 32 := BitVec.ofNat 32 (mkN p L)

theorem mk_or {p : Int → Bool} {L : List Int} {i : Nat} (h : i < L.length) (hl : L.length ≤ 16) (hp : p L[i] = true) : mk32 p (L.take i) ||| (1#32 <<< i) = mk32 p (L.take (i + 1)) := by
  apply BitVec.eq_of_toNat_eq
  have h1 : mkN p (L.take i) < 2 ^ i := by
    have := mkN_lt (p := p) (L := L.take i)
    rwa [List.length_take, Nat.min_eq_left (by omega)] at this
  have h2 : 2 ^ i ≤ 2 ^ 16 := Nat.pow_le_pow_right (by omega) (by omega)
  have h3 : (2 : Nat) ^ 16 = 65536 := by decide
  unfold mk32
  rw [BitVec.toNat_or, BitVec.toNat_shiftLeft, BitVec.toNat_ofNat, BitVec.toNat_ofNat, BitVec.toNat_ofNat, mkN_take h, if_pos hp, Nat.mod_eq_of_lt (by omega), Nat.mod_eq_of_lt (by omega), Nat.mod_eq_of_lt (by omega), Nat.shiftLeft_eq, Nat.mod_eq_of_lt (by omega)]
  have := Nat.two_pow_add_eq_or_of_lt h1 1
  rw [Nat.mul_one] at this
  rw [Nat.one_mul, Nat.or_comm, ← this]; omega

theorem mk_skip {p : Int → Bool} {L : List Int} {i : Nat} (h : i < L.length) (hp : p L[i] = false) : mk32 p (L.take (i + 1)) = mk32 p (L.take i) := by
  unfold mk32; rw [mkN_take h, hp]; simp

theorem mk_add {p : Int → Bool} {L : List Int} {i : Nat} (h : i < L.length) (hp : p L[i] = true) : mk32 p (L.take i) + BitVec.ofNat 32 (2 ^ i) = mk32 p (L.take (i + 1)) := by
  unfold mk32; rw [mkN_take h, if_pos hp, BitVec.ofNat_add]

theorem pop_mk {p : Int → Bool} : ∀ {n : Nat} {L : List Int}, L.length ≤ n → popN n (mkN p L) = L.countP p
  | n, [], _ => by
    have : ∀ n, popN n 0 = 0 := by intro n; induction n with
      | zero => rfl
      | succ n ih => simp [popN, ih]
    simp [mkN, this]
  | n + 1, a :: r, h => by
    have h1 := pop_mk (p := p) (n := n) (L := r) (by simpa using h)
    simp only [popN, mkN, List.countP_cons]
    rw [show ((if p a = true then 1 else 0) + 2 * mkN p r) / 2 = mkN p r by split <;> omega, h1]
    split <;> omega

def tab8 : List Nat := (List.range 256).map fun x => popN 8 x

theorem popN_split : ∀ (a b n : Nat), popN (a + b) n = popN a (n % 2 ^ a) + popN b (n / 2 ^ a)
  | 0, b, n => by simp [popN]
  | a + 1, b, n => by
    rw [show a + 1 + b = (a + b) + 1 by omega]
    simp only [popN]
    rw [popN_split a b (n / 2), Nat.pow_succ]
    have e1 : n % (2 ^ a * 2) % 2 = n % 2 := by rw [Nat.mul_comm]; exact Nat.mod_mul_right_mod _ _ _
    have e2 : n % (2 ^ a * 2) / 2 = n / 2 % 2 ^ a := by rw [Nat.mul_comm, Nat.mod_mul_right_div_self]
    rw [e1, e2, Nat.div_div_eq_div_mul, Nat.mul_comm 2 (2 ^ a)]; omega
end Go.Am


/- Blocks, by their numbers: loads and stores as what they do to a block's cells. -/
set_option linter.unusedVariables false
namespace Go.Am

def ldW : Option AObj → Nat → Option Value
  | some (.cells c _), o => c[o]?
  | _, _ => none
def ldA : Option AObj → Nat → Nat → Option Value
  | some (.cells c _), o, sz => if o + sz ≤ c.length then some (.agg ((c.drop o).take sz).toArray) else none
  | _, _, _ => none
def stB (m : Mem) (b : Nat) : Option AObj → Nat → List Value → Option Mem
  | some (.cells c (some u)), o, vs => if o + vs.length ≤ c.length ∧ oneCells vs = true then some (m.set b (some (.cells (writeL c o vs) (some u)))) else none
  | _, _, _ => none

theorem ldW_c {c : List Value} {own : Option Nat} {o : Nat} : ldW (some (.cells c own)) o = c[o]? := rfl
theorem ldA_c {c : List Value} {own : Option Nat} {o sz : Nat} : ldA (some (.cells c own)) o sz = if o + sz ≤ c.length then some (.agg ((c.drop o).take sz).toArray) else none := rfl
theorem stB_c {m : Mem} {b u o : Nat} {c vs : List Value} : stB m b (some (.cells c (some u))) o vs = if o + vs.length ≤ c.length ∧ oneCells vs = true then some (m.set b (some (.cells (writeL c o vs) (some u)))) else none := rfl

theorem load_w {m : Mem} {sz b o : Nat} : aLoad false sz m (.pointer (some ⟨b, o, none⟩)) = ldW (m.blk b) o := by
  simp only [aLoad, Bool.false_eq_true, if_false]
  unfold ldW
  split <;> simp_all
theorem load_a {m : Mem} {sz b o : Nat} : aLoad true sz m (.pointer (some ⟨b, o, none⟩)) = ldA (m.blk b) o sz := by
  simp only [aLoad, if_true]
  unfold ldA
  split <;> simp_all
theorem store_b {m : Mem} {sz b o : Nat} {v : Value} : aStore sz m (.pointer (some ⟨b, o, none⟩)) v = if v.cells.size = sz then stB m b (m.blk b) o v.cells.toList else none := by
  simp only [aStore]
  split
  · unfold aWrite stB
    split <;> simp_all
  · rfl
theorem idxS_b {u b o n c : Nat} {k : IntKind} {i : Int} : aIdxS u (.slice (some ⟨b, o, none⟩) n c) (.int k i) = if 0 ≤ i ∧ i < n then some (.pointer (some ⟨b, o + i.toNat * u, none⟩)) else none := rfl
theorem set_blk {m : Mem} {b k : Nat} {o : Option AObj} : (m.set b o).blk k = if k = b then o else m.blk k := rfl
theorem new_blk {m : Mem} {k : Nat} {o : AObj} : (m.new o).blk k = if k = m.next then some o else m.blk k := rfl
theorem set_next {m : Mem} {b : Nat} {o : Option AObj} : (m.set b o).next = m.next := rfl
theorem new_next {m : Mem} {o : AObj} : (m.new o).next = m.next + 1 := rfl
theorem len_s {a : Option Addr} {n c : Nat} : aLen (.slice a n c) = some (.int .i64 n) := rfl
theorem writeL_one {cs : List Value} {i : Nat} {v : Value} (h : i < cs.length) : writeL cs i [v] = cs.set i v := writeL_set h
theorem toArr_one {v : Value} : (#[v] : Array Value).toList = [v] := rfl
theorem size_one {v : Value} : (#[v] : Array Value).size = 1 := rfl
theorem toList_toArr {l : List Value} : l.toArray.toList = l := rfl
theorem size_toArr {l : List Value} : l.toArray.size = l.length := by simp

/-- What is at these blocks may have changed; all else is as it was. -/
structure Upd (m m' : Mem) (fp : List Nat) : Prop where
  next : m.next ≤ m'.next
  same : ∀ b, b < m.next → b ∉ fp → m'.blk b = m.blk b

theorem Upd.refl (m : Mem) (fp : List Nat) : Upd m m fp := ⟨Nat.le_refl _, fun _ _ _ => rfl⟩
theorem Upd.trans {a b c : Mem} {fp fq fr : List Nat} (h : Upd a b fp) (k : Upd b c fq) (h1 : ∀ x ∈ fp, x ∈ fr) (h2 : ∀ x ∈ fq, x ∈ fr ∨ a.next ≤ x) : Upd a c fr :=
  ⟨Nat.le_trans h.next k.next, fun x hx hn => by
    rw [k.same x (Nat.lt_of_lt_of_le hx h.next) (fun hm => by rcases h2 x hm with h3 | h3; exact hn h3; omega), h.same x hx (fun hm => hn (h1 x hm))]⟩
theorem Ext.upd {m m' : Mem} (h : Ext m m') {fp : List Nat} : Upd m m' fp := ⟨h.next, fun b hb _ => h.same b hb⟩
theorem Upd.ext {m m' : Mem} (h : Upd m m' []) : Ext m m' := ⟨h.next, fun b hb => h.same b hb (by simp)⟩
theorem Upd.set {m : Mem} {b : Nat} {o : Option AObj} {fp : List Nat} (h : b ∈ fp) : Upd m (m.set b o) fp :=
  ⟨Nat.le_refl _, fun x hx hn => by rw [set_blk, if_neg (fun e => hn (by rw [e]; exact h))]⟩
/-- Only blocks from some number on have changed. -/
theorem Upd.ext_of {m0 m m' : Mem} {fp : List Nat} (h0 : Ext m0 m) (h : Upd m m' fp) (hf : ∀ x ∈ fp, m0.next ≤ x) : Ext m0 m' :=
  ⟨Nat.le_trans h0.next h.next, fun b hb => by
    rw [h.same b (Nat.lt_of_lt_of_le hb h0.next) (fun hm => by have := hf b hm; omega), h0.same b hb]⟩
end Go.Am


/- Cores: walks of what asks. -/
set_option linter.unusedVariables false
set_option linter.unusedSimpArgs false
namespace Go.Am
variable {m : Mem}

theorem tab_all : ((List.range 256).all fun y => match aIdxStr (.string ⟨#[0, 1, 1, 2, 1, 2, 2, 3, 1, 2, 2, 3, 2, 3, 3, 4, 1, 2, 2, 3, 2, 3, 3, 4, 2, 3, 3, 4, 3, 4, 4, 5, 1, 2, 2, 3, 2, 3, 3, 4, 2, 3, 3, 4, 3, 4, 4, 5, 2, 3, 3, 4, 3, 4, 4, 5, 3, 4, 4, 5, 4, 5, 5, 6, 1, 2, 2, 3, 2, 3, 3, 4, 2, 3, 3, 4, 3, 4, 4, 5, 2, 3, 3, 4, 3, 4, 4, 5, 3, 4, 4, 5, 4, 5, 5, 6, 2, 3, 3, 4, 3, 4, 4, 5, 3, 4, 4, 5, 4, 5, 5, 6, 3, 4, 4, 5, 4, 5, 5, 6, 4, 5, 5, 6, 5, 6, 6, 7, 1, 2, 2, 3, 2, 3, 3, 4, 2, 3, 3, 4, 3, 4, 4, 5, 2, 3, 3, 4, 3, 4, 4, 5, 3, 4, 4, 5, 4, 5, 5, 6, 2, 3, 3, 4, 3, 4, 4, 5, 3, 4, 4, 5, 4, 5, 5, 6, 3, 4, 4, 5, 4, 5, 5, 6, 4, 5, 5, 6, 5, 6, 6, 7, 2, 3, 3, 4, 3, 4, 4, 5, 3, 4, 4, 5, 4, 5, 5, 6, 3, 4, 4, 5, 4, 5, 5, 6, 4, 5, 5, 6, 5, 6, 6, 7, 3, 4, 4, 5, 4, 5, 5, 6, 4, 5, 5, 6, 5, 6, 6, 7, 4, 5, 5, 6, 5, 6, 6, 7, 5, 6, 6, 7, 6, 7, 7, 8]⟩) (.int .u32 y) with | some (.int .u8 v) => decide (v = (popN 8 y : Nat)) | _ => false) = true := by decide +kernel
theorem tab_at {y : Nat} (h : y < 256) : aIdxStr (.string ⟨#[0, 1, 1, 2, 1, 2, 2, 3, 1, 2, 2, 3, 2, 3, 3, 4, 1, 2, 2, 3, 2, 3, 3, 4, 2, 3, 3, 4, 3, 4, 4, 5, 1, 2, 2, 3, 2, 3, 3, 4, 2, 3, 3, 4, 3, 4, 4, 5, 2, 3, 3, 4, 3, 4, 4, 5, 3, 4, 4, 5, 4, 5, 5, 6, 1, 2, 2, 3, 2, 3, 3, 4, 2, 3, 3, 4, 3, 4, 4, 5, 2, 3, 3, 4, 3, 4, 4, 5, 3, 4, 4, 5, 4, 5, 5, 6, 2, 3, 3, 4, 3, 4, 4, 5, 3, 4, 4, 5, 4, 5, 5, 6, 3, 4, 4, 5, 4, 5, 5, 6, 4, 5, 5, 6, 5, 6, 6, 7, 1, 2, 2, 3, 2, 3, 3, 4, 2, 3, 3, 4, 3, 4, 4, 5, 2, 3, 3, 4, 3, 4, 4, 5, 3, 4, 4, 5, 4, 5, 5, 6, 2, 3, 3, 4, 3, 4, 4, 5, 3, 4, 4, 5, 4, 5, 5, 6, 3, 4, 4, 5, 4, 5, 5, 6, 4, 5, 5, 6, 5, 6, 6, 7, 2, 3, 3, 4, 3, 4, 4, 5, 3, 4, 4, 5, 4, 5, 5, 6, 3, 4, 4, 5, 4, 5, 5, 6, 4, 5, 5, 6, 5, 6, 6, 7, 3, 4, 4, 5, 4, 5, 5, 6, 4, 5, 5, 6, 5, 6, 6, 7, 4, 5, 5, 6, 5, 6, 6, 7, 5, 6, 6, 7, 6, 7, 7, 8]⟩) (.int .u32 y) = some (.int .u8 (popN 8 y : Nat)) := by
  have := List.all_eq_true.1 tab_all y (List.mem_range.2 h)
  generalize aIdxStr (.string ⟨#[0, 1, 1, 2, 1, 2, 2, 3, 1, 2, 2, 3, 2, 3, 3, 4, 1, 2, 2, 3, 2, 3, 3, 4, 2, 3, 3, 4, 3, 4, 4, 5, 1, 2, 2, 3, 2, 3, 3, 4, 2, 3, 3, 4, 3, 4, 4, 5, 2, 3, 3, 4, 3, 4, 4, 5, 3, 4, 4, 5, 4, 5, 5, 6, 1, 2, 2, 3, 2, 3, 3, 4, 2, 3, 3, 4, 3, 4, 4, 5, 2, 3, 3, 4, 3, 4, 4, 5, 3, 4, 4, 5, 4, 5, 5, 6, 2, 3, 3, 4, 3, 4, 4, 5, 3, 4, 4, 5, 4, 5, 5, 6, 3, 4, 4, 5, 4, 5, 5, 6, 4, 5, 5, 6, 5, 6, 6, 7, 1, 2, 2, 3, 2, 3, 3, 4, 2, 3, 3, 4, 3, 4, 4, 5, 2, 3, 3, 4, 3, 4, 4, 5, 3, 4, 4, 5, 4, 5, 5, 6, 2, 3, 3, 4, 3, 4, 4, 5, 3, 4, 4, 5, 4, 5, 5, 6, 3, 4, 4, 5, 4, 5, 5, 6, 4, 5, 5, 6, 5, 6, 6, 7, 2, 3, 3, 4, 3, 4, 4, 5, 3, 4, 4, 5, 4, 5, 5, 6, 3, 4, 4, 5, 4, 5, 5, 6, 4, 5, 5, 6, 5, 6, 6, 7, 3, 4, 4, 5, 4, 5, 5, 6, 4, 5, 5, 6, 5, 6, 6, 7, 4, 5, 5, 6, 5, 6, 6, 7, 5, 6, 6, 7, 6, 7, 7, 8]⟩) (.int .u32 y) = r at *
  split at this
  · rename_i v; simp only [decide_eq_true_eq] at this; rw [this]
  · cases this
theorem tab_at' {y : BitVec 32} (h : y.toNat < 256) : aIdxStr (.string ⟨#[0, 1, 1, 2, 1, 2, 2, 3, 1, 2, 2, 3, 2, 3, 3, 4, 1, 2, 2, 3, 2, 3, 3, 4, 2, 3, 3, 4, 3, 4, 4, 5, 1, 2, 2, 3, 2, 3, 3, 4, 2, 3, 3, 4, 3, 4, 4, 5, 2, 3, 3, 4, 3, 4, 4, 5, 3, 4, 4, 5, 4, 5, 5, 6, 1, 2, 2, 3, 2, 3, 3, 4, 2, 3, 3, 4, 3, 4, 4, 5, 2, 3, 3, 4, 3, 4, 4, 5, 3, 4, 4, 5, 4, 5, 5, 6, 2, 3, 3, 4, 3, 4, 4, 5, 3, 4, 4, 5, 4, 5, 5, 6, 3, 4, 4, 5, 4, 5, 5, 6, 4, 5, 5, 6, 5, 6, 6, 7, 1, 2, 2, 3, 2, 3, 3, 4, 2, 3, 3, 4, 3, 4, 4, 5, 2, 3, 3, 4, 3, 4, 4, 5, 3, 4, 4, 5, 4, 5, 5, 6, 2, 3, 3, 4, 3, 4, 4, 5, 3, 4, 4, 5, 4, 5, 5, 6, 3, 4, 4, 5, 4, 5, 5, 6, 4, 5, 5, 6, 5, 6, 6, 7, 2, 3, 3, 4, 3, 4, 4, 5, 3, 4, 4, 5, 4, 5, 5, 6, 3, 4, 4, 5, 4, 5, 5, 6, 4, 5, 5, 6, 5, 6, 6, 7, 3, 4, 4, 5, 4, 5, 5, 6, 4, 5, 5, 6, 5, 6, 6, 7, 4, 5, 5, 6, 5, 6, 6, 7, 5, 6, 6, 7, 6, 7, 7, 8]⟩) (u32 y) = some (.int .u8 (popN 8 y.toNat : Nat)) := tab_at h

theorem pop8_le : ∀ (n x : Nat), popN n x ≤ n
  | 0, _ => by simp [popN]
  | n + 1, x => by have := pop8_le n (x / 2); simp only [popN]; omega

theorem wrap_u8 {n : Nat} (h : n < 256) : IntKind.wrap .u8 (n : Int) = n := by
  simp [IntKind.wrap, IntKind.bits, IntKind.signed]; omega

theorem pop_sum {a b c d : Nat} (ha : a ≤ 8) (hb : b ≤ 8) (hc : c ≤ 8) (hd : d ≤ 8) :
    IntKind.i64.wrap (IntKind.u8.wrap (IntKind.u8.wrap (IntKind.u8.wrap ((a : Int) + (b : Int)) + (c : Int)) + (d : Int))) = ((d + c + b + a : Nat) : Int) := by
  rw [← Int.natCast_add, wrap_u8 (by omega), ← Int.natCast_add, wrap_u8 (by omega), ← Int.natCast_add, wrap_u8 (by omega), wrap_i64 (by omega) (by omega)]
  omega

set_option maxRecDepth 20000 in
theorem ones32_spec {x : BitVec 32} : WC R F.math_bits_OnesCount32 [u32 x] m fun v m' => v = .int .i64 (popN 32 x.toNat) ∧ m' = m := by
  refine WC.of R.math_bits_OnesCount32 rfl ?_
  have hx := x.isLt
  have d1 : (x >>> 24).toNat < 256 := by simp [Nat.shiftRight_eq_div_pow]; omega
  have m1 : ∀ y : BitVec 32, (y &&& 255#32).toNat = y.toNat % 256 := fun y => by
    rw [BitVec.toNat_and]; exact Nat.and_two_pow_sub_one_eq_mod _ 8
  have d2 : ∀ y : BitVec 32, (y &&& 255#32).toNat < 256 := fun y => by rw [m1]; omega
  have e : popN 32 x.toNat = popN 8 (x.toNat % 256) + popN 8 (x.toNat / 256 % 256) + popN 8 (x.toNat / 65536 % 256) + popN 8 (x.toNat / 16777216) := by
    rw [popN_split 8 24 x.toNat, popN_split 8 16 (x.toNat / 2 ^ 8), popN_split 8 8 (x.toNat / 2 ^ 8 / 2 ^ 8), Nat.div_div_eq_div_mul, Nat.div_div_eq_div_mul]
    simp only [Nat.reducePow, Nat.reduceMul]; omega
  have l1 := pop8_le 8 (x.toNat % 256); have l2 := pop8_le 8 (x.toNat / 256 % 256); have l3 := pop8_le 8 (x.toNat / 65536 % 256); have l4 := pop8_le 8 (x.toNat / 16777216)
  simp only [RC.math_bits_OnesCount32, go_sem, Int.reduceBEq, Int.reduceBNe, Int.reduceNeg, not_true_eq_false, beq_self_eq_true, bne_self_eq_false, Bool.false_eq_true, if_false, if_true, Int.cast_ofNat_Int, decide_true, decide_false, reduceCtorEq, Nat.reduceEqDiff, Nat.reduceAdd, ne_eq, not_false_eq_true, Option.map_some, Option.bind_some, Option.map_none, Option.bind_none, true_and, and_true, Bool.not_true, Bool.not_false, Nat.reduceLeDiff, Nat.reduceMul, Nat.reduceSub, Nat.le_refl, Int.reduceToNat, Int.reduceLT, Int.reduceLE, Nat.one_mul, Nat.mul_one, BitVec.toNat_ofNat, Nat.reducePow, Nat.reduceMod, tab_at' d1, tab_at' (d2 _), m1, BitVec.toNat_ushiftRight, Nat.shiftRight_eq_div_pow]
  rw [pop_sum l4 l3 l2 l1, e]

theorem stI {m : Mem} {b i : Nat} {K : List Int} {y : Int} (h : i < K.length) : stB m b (some (.cells (intsZ K) (some 1))) i [.int .i64 y] = some (m.set b (some (.cells (intsZ (K.set i y)) (some 1)))) := by
  have hl : (intsZ K).length = K.length := by simp [intsZ]
  rw [stB_c, if_pos ⟨by simp [hl]; omega, rfl⟩, writeL_one (by omega)]
  unfold intsZ; rw [List.map_set]

/-- Cores: the object. -/
def CS (m : Mem) (b bl : Nat) (L : List Int) : Prop :=
  m.blk b = some (.cells [.slice (some ⟨bl, 0, none⟩) L.length L.length] (some 1)) ∧ m.blk bl = some (.cells (intsZ L) (some 1)) ∧ b ≠ bl ∧ b < m.next ∧ bl < m.next
def pt (b : Nat) : Value := .pointer (some ⟨b, 0, none⟩)

theorem intsZ_get' {l : List Int} {i : Nat} (h : i < l.length) : (intsZ l)[i]? = some (.int .i64 l[i]) := by
  unfold intsZ; rw [List.getElem?_map, List.getElem?_eq_getElem h]; rfl
theorem intsZ_len {l : List Int} : (intsZ l).length = l.length := by simp [intsZ]

theorem Len_spec {b bl : Nat} {L : List Int} (h : CS m b bl L) : WC R F.cores_Set_Len [pt b] m fun v m' => v = .int .i64 L.length ∧ m' = m := by
  refine WC.of R.cores_Set_Len rfl ?_
  simp only [RC.cores_Set_Len, pt, go_sem, Int.reduceBEq, Int.reduceBNe, Int.reduceNeg, not_true_eq_false, beq_self_eq_true, bne_self_eq_false, Bool.false_eq_true, if_false, if_true, Int.cast_ofNat_Int, decide_true, decide_false, reduceCtorEq, Nat.reduceEqDiff, Nat.reduceAdd, ne_eq, not_false_eq_true, Option.map_some, Option.bind_some, Option.map_none, Option.bind_none, true_and, and_true, Bool.not_true, Bool.not_false, Nat.reduceLeDiff, Nat.reduceMul, Nat.reduceSub, Nat.le_refl, Int.reduceToNat, Int.reduceLT, Int.reduceLE, Nat.one_mul, Nat.mul_one, load_w, load_a, store_b, idxS_b, set_blk, new_blk, set_next, new_next, len_s, ldW_c, ldA_c, stB_c, toArr_one, size_one, toList_toArr, size_toArr, List.length_cons, List.length_nil, List.getElem?_cons_zero, List.getElem?_cons_succ, Nat.zero_add, Nat.add_zero, h.1]

theorem State_spec {b bl : Nat} {L : List Int} {c : Int} (h : CS m b bl L) : WC R F.cores_Set_State [pt b, .int .i64 c] m fun v m' =>
    ((∃ (i : Nat) (hi : i < L.length), c = i ∧ v = .tuple #[.int .i64 L[i], .bool true]) ∨ ((c < 0 ∨ L.length ≤ c) ∧ v = .tuple #[.int .i64 0, .bool false])) ∧ m' = m := by
  refine WC.of R.cores_Set_State rfl ?_
  simp only [RC.cores_Set_State, pt, go_sem, Int.reduceBEq, Int.reduceBNe, Int.reduceNeg, not_true_eq_false, beq_self_eq_true, bne_self_eq_false, Bool.false_eq_true, if_false, if_true, Int.cast_ofNat_Int, decide_true, decide_false, reduceCtorEq, Nat.reduceEqDiff, Nat.reduceAdd, ne_eq, not_false_eq_true, Option.map_some, Option.bind_some, Option.map_none, Option.bind_none, true_and, and_true, Bool.not_true, Bool.not_false, Nat.reduceLeDiff, Nat.reduceMul, Nat.reduceSub, Nat.le_refl, Int.reduceToNat, Int.reduceLT, Int.reduceLE, Nat.one_mul, Nat.mul_one]
  refine gT.of (fun h1 => ?_) (fun h1 => ?_)
  · simp only [go_sem, Int.reduceBEq, Int.reduceBNe, Int.reduceNeg, not_true_eq_false, beq_self_eq_true, bne_self_eq_false, Bool.false_eq_true, if_false, if_true, Int.cast_ofNat_Int, decide_true, decide_false, reduceCtorEq, Nat.reduceEqDiff, Nat.reduceAdd, ne_eq, not_false_eq_true, Option.map_some, Option.bind_some, Option.map_none, Option.bind_none, true_and, and_true, Bool.not_true, Bool.not_false, Nat.reduceLeDiff, Nat.reduceMul, Nat.reduceSub, Nat.le_refl, Int.reduceToNat, Int.reduceLT, Int.reduceLE, Nat.one_mul, Nat.mul_one, h1]
    simp only [decide_eq_true_eq] at h1
    exact .inr (.inl h1)
  · simp only [go_sem, Int.reduceBEq, Int.reduceBNe, Int.reduceNeg, not_true_eq_false, beq_self_eq_true, bne_self_eq_false, Bool.false_eq_true, if_false, if_true, Int.cast_ofNat_Int, decide_true, decide_false, reduceCtorEq, Nat.reduceEqDiff, Nat.reduceAdd, ne_eq, not_false_eq_true, Option.map_some, Option.bind_some, Option.map_none, Option.bind_none, true_and, and_true, Bool.not_true, Bool.not_false, Nat.reduceLeDiff, Nat.reduceMul, Nat.reduceSub, Nat.le_refl, Int.reduceToNat, Int.reduceLT, Int.reduceLE, Nat.one_mul, Nat.mul_one, h1]
    refine gC.of (Len_spec h) ?_
    rintro _ m_ ⟨rfl, hm_⟩
    replace hm_ := hm_.symm
    subst hm_
    simp only [go_sem, Int.reduceBEq, Int.reduceBNe, Int.reduceNeg, not_true_eq_false, beq_self_eq_true, bne_self_eq_false, Bool.false_eq_true, if_false, if_true, Int.cast_ofNat_Int, decide_true, decide_false, reduceCtorEq, Nat.reduceEqDiff, Nat.reduceAdd, ne_eq, not_false_eq_true, Option.map_some, Option.bind_some, Option.map_none, Option.bind_none, true_and, and_true, Bool.not_true, Bool.not_false, Nat.reduceLeDiff, Nat.reduceMul, Nat.reduceSub, Nat.le_refl, Int.reduceToNat, Int.reduceLT, Int.reduceLE, Nat.one_mul, Nat.mul_one]
    refine gT.of (fun h2 => ?_) (fun h2 => ?_)
    · simp only [go_sem, Int.reduceBEq, Int.reduceBNe, Int.reduceNeg, not_true_eq_false, beq_self_eq_true, bne_self_eq_false, Bool.false_eq_true, if_false, if_true, Int.cast_ofNat_Int, decide_true, decide_false, reduceCtorEq, Nat.reduceEqDiff, Nat.reduceAdd, ne_eq, not_false_eq_true, Option.map_some, Option.bind_some, Option.map_none, Option.bind_none, true_and, and_true, Bool.not_true, Bool.not_false, Nat.reduceLeDiff, Nat.reduceMul, Nat.reduceSub, Nat.le_refl, Int.reduceToNat, Int.reduceLT, Int.reduceLE, Nat.one_mul, Nat.mul_one, h2]
      simp only [decide_eq_true_eq] at h2
      exact .inr (.inr h2)
    · simp only [decide_eq_false_iff_not] at h1 h2
      obtain ⟨i, rfl⟩ : ∃ i : Nat, c = i := ⟨c.toNat, by omega⟩
      have hi : i < L.length := by omega
      have g1 : (0 ≤ (i : Int) ∧ (i : Int) < L.length) := by omega
      simp only [pt, go_sem, Int.reduceBEq, Int.reduceBNe, Int.reduceNeg, not_true_eq_false, beq_self_eq_true, bne_self_eq_false, Bool.false_eq_true, if_false, if_true, Int.cast_ofNat_Int, decide_true, decide_false, reduceCtorEq, Nat.reduceEqDiff, Nat.reduceAdd, ne_eq, not_false_eq_true, Option.map_some, Option.bind_some, Option.map_none, Option.bind_none, true_and, and_true, Bool.not_true, Bool.not_false, Nat.reduceLeDiff, Nat.reduceMul, Nat.reduceSub, Nat.le_refl, Int.reduceToNat, Int.reduceLT, Int.reduceLE, Nat.one_mul, Nat.mul_one, h1, h2, load_w, load_a, store_b, idxS_b, set_blk, new_blk, set_next, new_next, len_s, ldW_c, ldA_c, stB_c, toArr_one, size_one, toList_toArr, size_toArr, List.length_cons, List.length_nil, List.getElem?_cons_zero, List.getElem?_cons_succ, Nat.zero_add, Nat.add_zero, h.1, h.2.1, if_pos g1, Int.toNat_natCast, intsZ_get' hi]
      exact .inl ⟨i, hi, rfl, rfl⟩

theorem Index_spec {v : Value} {S : List Int} {x : Int} (hs : Sl m 1 S.length (intsZ S) v) (hl : S.length < 1000000) : WC R F.slices_Index_int_int [v, .int .i64 x] m fun r m' => (∃ n : Int, r = .int .i64 n ∧ (0 ≤ n ↔ x ∈ S)) ∧ m' = m := by
  refine WC.of R.slices_Index_int_int rfl ?_
  simp only [RC.slices_Index_int_int, go_sem, Int.reduceBEq, Int.reduceBNe, Int.reduceNeg, not_true_eq_false, beq_self_eq_true, bne_self_eq_false, Bool.false_eq_true, if_false, if_true, Int.cast_ofNat_Int, decide_true, decide_false, reduceCtorEq, Nat.reduceEqDiff, Nat.reduceAdd, ne_eq, not_false_eq_true, Option.map_some, Option.bind_some, Option.map_none, Option.bind_none, true_and, and_true, Bool.not_true, Bool.not_false, Nat.reduceLeDiff, Nat.reduceMul, Nat.reduceSub, Nat.le_refl, Int.reduceToNat, Int.reduceLT, Int.reduceLE, Nat.one_mul, Nat.mul_one, hs.len]
  refine WL.of (fun n e m' => ∃ i : Nat, i ≤ S.length ∧ n = S.length - i ∧ e = [(0, v), (1, .int .i64 x), (7, .int .i64 S.length), (8, .int .i64 i)] ∧ (∀ j (hj : j < S.length), j < i → S[j] ≠ x) ∧ m' = m) S.length ⟨0, by omega, by omega, by simp only [go_sem, Int.reduceBEq, Int.reduceBNe, Int.reduceNeg, not_true_eq_false, beq_self_eq_true, bne_self_eq_false, Bool.false_eq_true, if_false, if_true, Int.cast_ofNat_Int, decide_true, decide_false, reduceCtorEq, Nat.reduceEqDiff, Nat.reduceAdd, ne_eq, not_false_eq_true, Option.map_some, Option.bind_some, Option.map_none, Option.bind_none, true_and, and_true, Bool.not_true, Bool.not_false, Nat.reduceLeDiff, Nat.reduceMul, Nat.reduceSub, Nat.le_refl, Int.reduceToNat, Int.reduceLT, Int.reduceLE, Nat.one_mul, Nat.mul_one] <;> rfl, by omega, rfl⟩ ?_
  rintro _ _ _ ⟨i, hi, rfl, rfl, hn, rfl⟩
  simp only [go_sem, Int.reduceBEq, Int.reduceBNe, Int.reduceNeg, not_true_eq_false, beq_self_eq_true, bne_self_eq_false, Bool.false_eq_true, if_false, if_true, Int.cast_ofNat_Int, decide_true, decide_false, reduceCtorEq, Nat.reduceEqDiff, Nat.reduceAdd, ne_eq, not_false_eq_true, Option.map_some, Option.bind_some, Option.map_none, Option.bind_none, true_and, and_true, Bool.not_true, Bool.not_false, Nat.reduceLeDiff, Nat.reduceMul, Nat.reduceSub, Nat.le_refl, Int.reduceToNat, Int.reduceLT, Int.reduceLE, Nat.one_mul, Nat.mul_one]
  refine gT.of (fun h => ?_) (fun h => ?_)
  · simp only [decide_eq_true_eq] at h
    have hil : i < S.length := by omega
    obtain ⟨p, e1, e2⟩ := hs.get (k := .i64) (i := i) hil
    rw [intsZ_get' hil] at e2
    simp only [go_sem, Int.reduceBEq, Int.reduceBNe, Int.reduceNeg, not_true_eq_false, beq_self_eq_true, bne_self_eq_false, Bool.false_eq_true, if_false, if_true, Int.cast_ofNat_Int, decide_true, decide_false, reduceCtorEq, Nat.reduceEqDiff, Nat.reduceAdd, ne_eq, not_false_eq_true, Option.map_some, Option.bind_some, Option.map_none, Option.bind_none, true_and, and_true, Bool.not_true, Bool.not_false, Nat.reduceLeDiff, Nat.reduceMul, Nat.reduceSub, Nat.le_refl, Int.reduceToNat, Int.reduceLT, Int.reduceLE, Nat.one_mul, Nat.mul_one, h, e1, e2]
    refine gT.of (fun h2 => ?_) (fun h2 => ?_)
    · simp only [go_sem, Int.reduceBEq, Int.reduceBNe, Int.reduceNeg, not_true_eq_false, beq_self_eq_true, bne_self_eq_false, Bool.false_eq_true, if_false, if_true, Int.cast_ofNat_Int, decide_true, decide_false, reduceCtorEq, Nat.reduceEqDiff, Nat.reduceAdd, ne_eq, not_false_eq_true, Option.map_some, Option.bind_some, Option.map_none, Option.bind_none, true_and, and_true, Bool.not_true, Bool.not_false, Nat.reduceLeDiff, Nat.reduceMul, Nat.reduceSub, Nat.le_refl, Int.reduceToNat, Int.reduceLT, Int.reduceLE, Nat.one_mul, Nat.mul_one]
      simp only [beq_iff_eq] at h2
      exact ⟨_, rfl, fun _ => by rw [h2]; exact List.getElem_mem hil, fun _ => by omega⟩
    · simp only [go_sem, Int.reduceBEq, Int.reduceBNe, Int.reduceNeg, not_true_eq_false, beq_self_eq_true, bne_self_eq_false, Bool.false_eq_true, if_false, if_true, Int.cast_ofNat_Int, decide_true, decide_false, reduceCtorEq, Nat.reduceEqDiff, Nat.reduceAdd, ne_eq, not_false_eq_true, Option.map_some, Option.bind_some, Option.map_none, Option.bind_none, true_and, and_true, Bool.not_true, Bool.not_false, Nat.reduceLeDiff, Nat.reduceMul, Nat.reduceSub, Nat.le_refl, Int.reduceToNat, Int.reduceLT, Int.reduceLE, Nat.one_mul, Nat.mul_one]
      simp only [beq_eq_false_iff_ne] at h2
      refine ⟨S.length - (i + 1), by omega, i + 1, by omega, rfl, ?_, fun j hj hji => ?_⟩
      · rw [wrap_i64 (by omega) (by omega)]; rfl
      · by_cases e : j = i
        · subst e; exact fun e => h2 e.symm
        · exact hn j hj (by omega)
  · simp only [go_sem, Int.reduceBEq, Int.reduceBNe, Int.reduceNeg, not_true_eq_false, beq_self_eq_true, bne_self_eq_false, Bool.false_eq_true, if_false, if_true, Int.cast_ofNat_Int, decide_true, decide_false, reduceCtorEq, Nat.reduceEqDiff, Nat.reduceAdd, ne_eq, not_false_eq_true, Option.map_some, Option.bind_some, Option.map_none, Option.bind_none, true_and, and_true, Bool.not_true, Bool.not_false, Nat.reduceLeDiff, Nat.reduceMul, Nat.reduceSub, Nat.le_refl, Int.reduceToNat, Int.reduceLT, Int.reduceLE, Nat.one_mul, Nat.mul_one, h]
    simp only [decide_eq_false_iff_not] at h
    refine ⟨_, rfl, ?_⟩
    constructor
    · intro h; omega
    · intro hm
      obtain ⟨j, hj, e⟩ := List.getElem_of_mem hm
      exact absurd e (hn j hj (by omega))

theorem Contains_spec {v : Value} {S : List Int} {x : Int} (hs : Sl m 1 S.length (intsZ S) v) (hl : S.length < 1000000) : WC R F.slices_Contains_int_int [v, .int .i64 x] m fun r m' => r = .bool (decide (x ∈ S)) ∧ m' = m := by
  refine WC.of R.slices_Contains_int_int rfl ?_
  simp only [RC.slices_Contains_int_int, go_sem, Int.reduceBEq, Int.reduceBNe, Int.reduceNeg, not_true_eq_false, beq_self_eq_true, bne_self_eq_false, Bool.false_eq_true, if_false, if_true, Int.cast_ofNat_Int, decide_true, decide_false, reduceCtorEq, Nat.reduceEqDiff, Nat.reduceAdd, ne_eq, not_false_eq_true, Option.map_some, Option.bind_some, Option.map_none, Option.bind_none, true_and, and_true, Bool.not_true, Bool.not_false, Nat.reduceLeDiff, Nat.reduceMul, Nat.reduceSub, Nat.le_refl, Int.reduceToNat, Int.reduceLT, Int.reduceLE, Nat.one_mul, Nat.mul_one]
  refine gC.of (Index_spec hs hl) ?_
  rintro _ _ ⟨⟨n, rfl, hn⟩, rfl⟩
  simp only [go_sem, Int.reduceBEq, Int.reduceBNe, Int.reduceNeg, not_true_eq_false, beq_self_eq_true, bne_self_eq_false, Bool.false_eq_true, if_false, if_true, Int.cast_ofNat_Int, decide_true, decide_false, reduceCtorEq, Nat.reduceEqDiff, Nat.reduceAdd, ne_eq, not_false_eq_true, Option.map_some, Option.bind_some, Option.map_none, Option.bind_none, true_and, and_true, Bool.not_true, Bool.not_false, Nat.reduceLeDiff, Nat.reduceMul, Nat.reduceSub, Nat.le_refl, Int.reduceToNat, Int.reduceLT, Int.reduceLE, Nat.one_mul, Nat.mul_one]
  congr 2; exact propext hn
end Go.Am


/- Cores: walks of the object's functions. -/
set_option linter.unusedVariables false
set_option linter.unusedSimpArgs false
namespace Go.Am
variable {m : Mem}

theorem In_spec {b bl : Nat} {L S : List Int} {v : Value} (h : CS m b bl L) (h16 : L.length ≤ 16) (hs : Sl m 1 S.length (intsZ S) v) (hl : S.length < 1000000) :
    WC R F.cores_Set_In [pt b, v] m fun r m' => r = u32 (mk32 (fun x => decide (x ∈ S)) L) ∧ m' = m := by
  refine WC.of R.cores_Set_In rfl ?_
  simp only [RC.cores_Set_In, go_sem, Int.reduceBEq, Int.reduceBNe, Int.reduceNeg, not_true_eq_false, beq_self_eq_true, bne_self_eq_false, Bool.false_eq_true, if_false, if_true, Int.cast_ofNat_Int, decide_true, decide_false, reduceCtorEq, Nat.reduceEqDiff, Nat.reduceAdd, ne_eq, not_false_eq_true, Option.map_some, Option.bind_some, Option.map_none, Option.bind_none, true_and, and_true, Bool.not_true, Bool.not_false, Nat.reduceLeDiff, Nat.reduceMul, Nat.reduceSub, Nat.le_refl, Int.reduceToNat, Int.reduceLT, Int.reduceLE, Nat.one_mul, Nat.mul_one]
  refine gC.of (Len_spec h) ?_
  rintro _ m_ ⟨rfl, hm_⟩
  replace hm_ := hm_.symm
  subst hm_
  simp only [go_sem, Int.reduceBEq, Int.reduceBNe, Int.reduceNeg, not_true_eq_false, beq_self_eq_true, bne_self_eq_false, Bool.false_eq_true, if_false, if_true, Int.cast_ofNat_Int, decide_true, decide_false, reduceCtorEq, Nat.reduceEqDiff, Nat.reduceAdd, ne_eq, not_false_eq_true, Option.map_some, Option.bind_some, Option.map_none, Option.bind_none, true_and, and_true, Bool.not_true, Bool.not_false, Nat.reduceLeDiff, Nat.reduceMul, Nat.reduceSub, Nat.le_refl, Int.reduceToNat, Int.reduceLT, Int.reduceLE, Nat.one_mul, Nat.mul_one]
  refine WL.of (fun n e m' => ∃ i : Nat, i ≤ L.length ∧ n = L.length - i ∧ e = [(0, pt b), (1, v), (5, u32 (mk32 (fun x => decide (x ∈ S)) (L.take i))), (8, .int .i64 L.length), (9, .int .i64 i)] ∧ m' = m) L.length ⟨0, by omega, by omega, by simp only [go_sem, Int.reduceBEq, Int.reduceBNe, Int.reduceNeg, not_true_eq_false, beq_self_eq_true, bne_self_eq_false, Bool.false_eq_true, if_false, if_true, Int.cast_ofNat_Int, decide_true, decide_false, reduceCtorEq, Nat.reduceEqDiff, Nat.reduceAdd, ne_eq, not_false_eq_true, Option.map_some, Option.bind_some, Option.map_none, Option.bind_none, true_and, and_true, Bool.not_true, Bool.not_false, Nat.reduceLeDiff, Nat.reduceMul, Nat.reduceSub, Nat.le_refl, Int.reduceToNat, Int.reduceLT, Int.reduceLE, Nat.one_mul, Nat.mul_one] <;> rfl, rfl⟩ ?_
  rintro _ _ _ ⟨i, hi, rfl, rfl, rfl⟩
  simp only [go_sem, Int.reduceBEq, Int.reduceBNe, Int.reduceNeg, not_true_eq_false, beq_self_eq_true, bne_self_eq_false, Bool.false_eq_true, if_false, if_true, Int.cast_ofNat_Int, decide_true, decide_false, reduceCtorEq, Nat.reduceEqDiff, Nat.reduceAdd, ne_eq, not_false_eq_true, Option.map_some, Option.bind_some, Option.map_none, Option.bind_none, true_and, and_true, Bool.not_true, Bool.not_false, Nat.reduceLeDiff, Nat.reduceMul, Nat.reduceSub, Nat.le_refl, Int.reduceToNat, Int.reduceLT, Int.reduceLE, Nat.one_mul, Nat.mul_one]
  refine gT.of (fun h1 => ?_) (fun h1 => ?_)
  · simp only [decide_eq_true_eq] at h1
    have hil : i < L.length := by omega
    have g1 : (0 ≤ (i : Int) ∧ (i : Int) < L.length) := by omega
    have e1 : IntKind.wrap .i64 ((i : Int) + 1) = ((i + 1 : Nat) : Int) := by rw [wrap_i64 (by omega) (by omega)]; rfl
    simp only [pt, go_sem, Int.reduceBEq, Int.reduceBNe, Int.reduceNeg, not_true_eq_false, beq_self_eq_true, bne_self_eq_false, Bool.false_eq_true, if_false, if_true, Int.cast_ofNat_Int, decide_true, decide_false, reduceCtorEq, Nat.reduceEqDiff, Nat.reduceAdd, ne_eq, not_false_eq_true, Option.map_some, Option.bind_some, Option.map_none, Option.bind_none, true_and, and_true, Bool.not_true, Bool.not_false, Nat.reduceLeDiff, Nat.reduceMul, Nat.reduceSub, Nat.le_refl, Int.reduceToNat, Int.reduceLT, Int.reduceLE, Nat.one_mul, Nat.mul_one, load_w, load_a, store_b, idxS_b, set_blk, new_blk, set_next, new_next, len_s, ldW_c, ldA_c, stB_c, toArr_one, size_one, toList_toArr, size_toArr, List.length_cons, List.length_nil, List.getElem?_cons_zero, List.getElem?_cons_succ, Nat.zero_add, Nat.add_zero, h.1, h.2.1, if_pos g1, Int.toNat_natCast, intsZ_get' hil]
    refine gC.of (Contains_spec hs hl) ?_
    rintro _ _ ⟨rfl, rfl⟩
    simp only [go_sem, Int.reduceBEq, Int.reduceBNe, Int.reduceNeg, not_true_eq_false, beq_self_eq_true, bne_self_eq_false, Bool.false_eq_true, if_false, if_true, Int.cast_ofNat_Int, decide_true, decide_false, reduceCtorEq, Nat.reduceEqDiff, Nat.reduceAdd, ne_eq, not_false_eq_true, Option.map_some, Option.bind_some, Option.map_none, Option.bind_none, true_and, and_true, Bool.not_true, Bool.not_false, Nat.reduceLeDiff, Nat.reduceMul, Nat.reduceSub, Nat.le_refl, Int.reduceToNat, Int.reduceLT, Int.reduceLE, Nat.one_mul, Nat.mul_one]
    refine gT.of (fun h2 => ?_) (fun h2 => ?_)
    · have g2 : (0 : Int) ≤ i := by omega
      simp only [go_sem, Int.reduceBEq, Int.reduceBNe, Int.reduceNeg, not_true_eq_false, beq_self_eq_true, bne_self_eq_false, Bool.false_eq_true, if_false, if_true, Int.cast_ofNat_Int, decide_true, decide_false, reduceCtorEq, Nat.reduceEqDiff, Nat.reduceAdd, ne_eq, not_false_eq_true, Option.map_some, Option.bind_some, Option.map_none, Option.bind_none, true_and, and_true, Bool.not_true, Bool.not_false, Nat.reduceLeDiff, Nat.reduceMul, Nat.reduceSub, Nat.le_refl, Int.reduceToNat, Int.reduceLT, Int.reduceLE, Nat.one_mul, Nat.mul_one, e1, if_pos g2, g2, Int.toNat_natCast]
      refine ⟨L.length - (i + 1), by omega, i + 1, by omega, rfl, ?_⟩
      rw [mk_or hil h16 h2]
    · simp only [go_sem, Int.reduceBEq, Int.reduceBNe, Int.reduceNeg, not_true_eq_false, beq_self_eq_true, bne_self_eq_false, Bool.false_eq_true, if_false, if_true, Int.cast_ofNat_Int, decide_true, decide_false, reduceCtorEq, Nat.reduceEqDiff, Nat.reduceAdd, ne_eq, not_false_eq_true, Option.map_some, Option.bind_some, Option.map_none, Option.bind_none, true_and, and_true, Bool.not_true, Bool.not_false, Nat.reduceLeDiff, Nat.reduceMul, Nat.reduceSub, Nat.le_refl, Int.reduceToNat, Int.reduceLT, Int.reduceLE, Nat.one_mul, Nat.mul_one, e1]
      refine ⟨L.length - (i + 1), by omega, i + 1, by omega, rfl, ?_⟩
      rw [mk_skip hil h2]
  · simp only [go_sem, Int.reduceBEq, Int.reduceBNe, Int.reduceNeg, not_true_eq_false, beq_self_eq_true, bne_self_eq_false, Bool.false_eq_true, if_false, if_true, Int.cast_ofNat_Int, decide_true, decide_false, reduceCtorEq, Nat.reduceEqDiff, Nat.reduceAdd, ne_eq, not_false_eq_true, Option.map_some, Option.bind_some, Option.map_none, Option.bind_none, true_and, and_true, Bool.not_true, Bool.not_false, Nat.reduceLeDiff, Nat.reduceMul, Nat.reduceSub, Nat.le_refl, Int.reduceToNat, Int.reduceLT, Int.reduceLE, Nat.one_mul, Nat.mul_one]
    simp only [decide_eq_false_iff_not] at h1
    rw [List.take_of_length_le (by omega)]

theorem Count_spec {b bl : Nat} {L S : List Int} {v : Value} (h : CS m b bl L) (h16 : L.length ≤ 16) (hs : Sl m 1 S.length (intsZ S) v) (hl : S.length < 1000000) :
    WC R F.cores_Set_Count [pt b, v] m fun r m' => r = .int .i64 (L.countP (fun x => decide (x ∈ S)) : Nat) ∧ m' = m := by
  refine WC.of R.cores_Set_Count rfl ?_
  simp only [RC.cores_Set_Count, go_sem, Int.reduceBEq, Int.reduceBNe, Int.reduceNeg, not_true_eq_false, beq_self_eq_true, bne_self_eq_false, Bool.false_eq_true, if_false, if_true, Int.cast_ofNat_Int, decide_true, decide_false, reduceCtorEq, Nat.reduceEqDiff, Nat.reduceAdd, ne_eq, not_false_eq_true, Option.map_some, Option.bind_some, Option.map_none, Option.bind_none, true_and, and_true, Bool.not_true, Bool.not_false, Nat.reduceLeDiff, Nat.reduceMul, Nat.reduceSub, Nat.le_refl, Int.reduceToNat, Int.reduceLT, Int.reduceLE, Nat.one_mul, Nat.mul_one]
  refine gC.of (In_spec h h16 hs hl) ?_
  rintro _ m_ ⟨rfl, hm_⟩
  replace hm_ := hm_.symm
  subst hm_
  simp only [go_sem, Int.reduceBEq, Int.reduceBNe, Int.reduceNeg, not_true_eq_false, beq_self_eq_true, bne_self_eq_false, Bool.false_eq_true, if_false, if_true, Int.cast_ofNat_Int, decide_true, decide_false, reduceCtorEq, Nat.reduceEqDiff, Nat.reduceAdd, ne_eq, not_false_eq_true, Option.map_some, Option.bind_some, Option.map_none, Option.bind_none, true_and, and_true, Bool.not_true, Bool.not_false, Nat.reduceLeDiff, Nat.reduceMul, Nat.reduceSub, Nat.le_refl, Int.reduceToNat, Int.reduceLT, Int.reduceLE, Nat.one_mul, Nat.mul_one]
  refine gC.of ones32_spec ?_
  rintro _ m_ ⟨rfl, hm_⟩
  replace hm_ := hm_.symm
  subst hm_
  simp only [go_sem, Int.reduceBEq, Int.reduceBNe, Int.reduceNeg, not_true_eq_false, beq_self_eq_true, bne_self_eq_false, Bool.false_eq_true, if_false, if_true, Int.cast_ofNat_Int, decide_true, decide_false, reduceCtorEq, Nat.reduceEqDiff, Nat.reduceAdd, ne_eq, not_false_eq_true, Option.map_some, Option.bind_some, Option.map_none, Option.bind_none, true_and, and_true, Bool.not_true, Bool.not_false, Nat.reduceLeDiff, Nat.reduceMul, Nat.reduceSub, Nat.le_refl, Int.reduceToNat, Int.reduceLT, Int.reduceLE, Nat.one_mul, Nat.mul_one]
  have : (mk32 (fun x => decide (x ∈ S)) L).toNat = mkN (fun x => decide (x ∈ S)) L := by
    unfold mk32
    rw [BitVec.toNat_ofNat]
    have a := mkN_lt (p := fun x => decide (x ∈ S)) (L := L)
    have c : 2 ^ L.length ≤ 2 ^ 16 := Nat.pow_le_pow_right (by omega) h16
    exact Nat.mod_eq_of_lt (by simp only [Nat.reducePow] at *; omega)
  rw [this, pop_mk (by omega)]

/-- What a frame's beginning does. -/
def turnC (x : Int) : Int := if x = 4 then 1 else if x = 2 then 3 else if x = 3 then 0 else x

theorem intsZ_set {l : List Int} {i : Nat} {x : Int} : (intsZ l).set i (.int .i64 x) = intsZ (l.set i x) := by unfold intsZ; rw [List.map_set]

theorem CS.set {b bl : Nat} {L : List Int} (h : CS m b bl L) (i : Nat) (x : Int) : CS (m.set bl (some (.cells (intsZ (L.set i x)) (some 1)))) b bl (L.set i x) := by
  refine ⟨?_, ?_, h.2.2.1, h.2.2.2.1, h.2.2.2.2⟩
  · rw [set_blk, if_neg h.2.2.1, List.length_set]; exact h.1
  · rw [set_blk, if_pos rfl]

set_option maxHeartbeats 1000000 in
theorem Turn_spec {b bl : Nat} {L : List Int} (h : CS m b bl L) (h16 : L.length ≤ 16) : WC R F.cores_Set_Turn [pt b] m fun r m' =>
    r = .tuple #[u32 (mk32 (fun x => x == 4) L), u32 (mk32 (fun x => x == 2) L)] ∧ CS m' b bl (L.map turnC) ∧ Upd m m' [bl] := by
  refine WC.of R.cores_Set_Turn rfl ?_
  simp only [RC.cores_Set_Turn, pt, go_sem, Int.reduceBEq, Int.reduceBNe, Int.reduceNeg, not_true_eq_false, beq_self_eq_true, bne_self_eq_false, Bool.false_eq_true, if_false, if_true, Int.cast_ofNat_Int, decide_true, decide_false, reduceCtorEq, Nat.reduceEqDiff, Nat.reduceAdd, ne_eq, not_false_eq_true, Option.map_some, Option.bind_some, Option.map_none, Option.bind_none, true_and, and_true, Bool.not_true, Bool.not_false, Nat.reduceLeDiff, Nat.reduceMul, Nat.reduceSub, Nat.le_refl, Int.reduceToNat, Int.reduceLT, Int.reduceLE, Nat.one_mul, Nat.mul_one, load_w, load_a, store_b, idxS_b, set_blk, new_blk, set_next, new_next, len_s, ldW_c, ldA_c, stB_c, toArr_one, size_one, toList_toArr, size_toArr, List.length_cons, List.length_nil, List.getElem?_cons_zero, List.getElem?_cons_succ, Nat.zero_add, Nat.add_zero, h.1]
  refine WL.of (fun n e m' => ∃ i : Nat, i ≤ L.length ∧ n = L.length - i ∧ e = [(0, pt b), (2, u32 (mk32 (fun x => x == 4) (L.take i))), (3, u32 (mk32 (fun x => x == 2) (L.take i))), (11, .slice (some ⟨bl, 0, none⟩) L.length L.length), (12, .int .i64 L.length), (13, .int .i64 i)] ∧
      CS m' b bl ((L.take i).map turnC ++ L.drop i) ∧ Upd m m' [bl]) L.length ⟨0, by omega, by omega, by simp only [pt, go_sem, Int.reduceBEq, Int.reduceBNe, Int.reduceNeg, not_true_eq_false, beq_self_eq_true, bne_self_eq_false, Bool.false_eq_true, if_false, if_true, Int.cast_ofNat_Int, decide_true, decide_false, reduceCtorEq, Nat.reduceEqDiff, Nat.reduceAdd, ne_eq, not_false_eq_true, Option.map_some, Option.bind_some, Option.map_none, Option.bind_none, true_and, and_true, Bool.not_true, Bool.not_false, Nat.reduceLeDiff, Nat.reduceMul, Nat.reduceSub, Nat.le_refl, Int.reduceToNat, Int.reduceLT, Int.reduceLE, Nat.one_mul, Nat.mul_one] <;> rfl, by simpa using h, Upd.refl _ _⟩ ?_
  rintro _ _ m1 ⟨i, hi, rfl, rfl, hc, hu⟩
  have hlen : ((L.take i).map turnC ++ L.drop i).length = L.length := by simp; omega
  simp only [go_sem, Int.reduceBEq, Int.reduceBNe, Int.reduceNeg, not_true_eq_false, beq_self_eq_true, bne_self_eq_false, Bool.false_eq_true, if_false, if_true, Int.cast_ofNat_Int, decide_true, decide_false, reduceCtorEq, Nat.reduceEqDiff, Nat.reduceAdd, ne_eq, not_false_eq_true, Option.map_some, Option.bind_some, Option.map_none, Option.bind_none, true_and, and_true, Bool.not_true, Bool.not_false, Nat.reduceLeDiff, Nat.reduceMul, Nat.reduceSub, Nat.le_refl, Int.reduceToNat, Int.reduceLT, Int.reduceLE, Nat.one_mul, Nat.mul_one]
  refine gT.of (fun h1 => ?_) (fun h1 => ?_)
  · simp only [decide_eq_true_eq] at h1
    have hil : i < L.length := by omega
    have g1 : (0 ≤ (i : Int) ∧ (i : Int) < L.length) := by omega
    have g2 : (0 : Int) ≤ i := by omega
    have e1 : IntKind.wrap .i64 ((i : Int) + 1) = ((i + 1 : Nat) : Int) := by rw [wrap_i64 (by omega) (by omega)]; rfl
    have get : ((L.take i).map turnC ++ L.drop i)[i]? = some L[i] := by
      rw [List.getElem?_append_right (by simp; omega)]
      simp [Nat.min_eq_left (Nat.le_of_lt hil), List.getElem?_eq_getElem hil]
    have gv : (intsZ ((L.take i).map turnC ++ L.drop i))[i]? = some (.int .i64 L[i]) := by unfold intsZ; rw [List.getElem?_map, get]; rfl
    have e0 : ((L.take i).map turnC).length = i := by rw [List.length_map, List.length_take]; omega
    have hd := List.drop_eq_getElem_cons hil
    have hnx : (L.take (i + 1)).map turnC ++ L.drop (i + 1) = ((L.take i).map turnC ++ L.drop i).set i (turnC L[i]) := by
      rw [List.set_append_right _ _ (by omega), e0, Nat.sub_self, hd, List.set_cons_zero, List.take_succ_eq_append_getElem hil, List.map_append, List.append_assoc]; rfl
    have hsm : turnC L[i] = L[i] → (L.take (i + 1)).map turnC ++ L.drop (i + 1) = (L.take i).map turnC ++ L.drop i := by
      intro e
      rw [hd, List.take_succ_eq_append_getElem hil, List.map_append, List.append_assoc]; simp only [List.map_cons, List.map_nil, e]; rfl
    have hcs := hc
    obtain ⟨c1, c2, c3, c4, c5⟩ := hc
    rw [hlen] at c1
    have g3 : i + 1 ≤ L.length := by omega
    have o4 : ∀ {q : Int → Bool}, q L[i] = true → mk32 q (L.take i) ||| (1#32 <<< i) = mk32 q (L.take (i + 1)) := fun hq => mk_or hil h16 hq
    have s4 : ∀ {q : Int → Bool}, q L[i] = false → mk32 q (L.take i) = mk32 q (L.take (i + 1)) := fun hq => (mk_skip hil hq).symm
    have nx : ∀ K', CS m1 b bl K' → True := fun _ _ => trivial
    have hil2 : i < ((L.take i).map turnC ++ L.drop i).length := by omega
    have fin : ∀ m2 y, m2 = m1.set bl (some (.cells (intsZ (((L.take i).map turnC ++ L.drop i).set i y)) (some 1))) → y = turnC L[i] → CS m2 b bl ((L.take (i + 1)).map turnC ++ L.drop (i + 1)) ∧ Upd m m2 [bl] := by
      rintro _ y rfl rfl
      rw [hnx]
      exact ⟨hcs.set i _, hu.trans (Upd.set (by simp)) (fun _ h => h) (fun _ h => .inl h)⟩
    have fin2 : turnC L[i] = L[i] → CS m1 b bl ((L.take (i + 1)).map turnC ++ L.drop (i + 1)) ∧ Upd m m1 [bl] := fun e => by rw [hsm e]; exact ⟨hcs, hu⟩
    simp only [pt, go_sem, Int.reduceBEq, Int.reduceBNe, Int.reduceNeg, not_true_eq_false, beq_self_eq_true, bne_self_eq_false, Bool.false_eq_true, if_false, if_true, Int.cast_ofNat_Int, decide_true, decide_false, reduceCtorEq, Nat.reduceEqDiff, Nat.reduceAdd, ne_eq, not_false_eq_true, Option.map_some, Option.bind_some, Option.map_none, Option.bind_none, true_and, and_true, Bool.not_true, Bool.not_false, Nat.reduceLeDiff, Nat.reduceMul, Nat.reduceSub, Nat.le_refl, Int.reduceToNat, Int.reduceLT, Int.reduceLE, Nat.one_mul, Nat.mul_one, load_w, load_a, store_b, idxS_b, set_blk, new_blk, set_next, new_next, len_s, ldW_c, ldA_c, stB_c, toArr_one, size_one, toList_toArr, size_toArr, List.length_cons, List.length_nil, List.getElem?_cons_zero, List.getElem?_cons_succ, Nat.zero_add, Nat.add_zero, c1, c2, if_pos g1, Int.toNat_natCast, gv]
    generalize hK : (L.take i).map turnC ++ L.drop i = K at *
    have hKl : K.length = L.length := hlen
    generalize hx : L[i] = x at *
    refine gT.of (fun q4 => ?_) (fun q4 => ?_)
    · simp only [pt, go_sem, Int.reduceBEq, Int.reduceBNe, Int.reduceNeg, not_true_eq_false, beq_self_eq_true, bne_self_eq_false, Bool.false_eq_true, if_false, if_true, Int.cast_ofNat_Int, decide_true, decide_false, reduceCtorEq, Nat.reduceEqDiff, Nat.reduceAdd, ne_eq, not_false_eq_true, Option.map_some, Option.bind_some, Option.map_none, Option.bind_none, true_and, and_true, Bool.not_true, Bool.not_false, Nat.reduceLeDiff, Nat.reduceMul, Nat.reduceSub, Nat.le_refl, Int.reduceToNat, Int.reduceLT, Int.reduceLE, Nat.one_mul, Nat.mul_one, load_w, load_a, store_b, idxS_b, set_blk, new_blk, set_next, new_next, len_s, ldW_c, ldA_c, toArr_one, size_one, toList_toArr, size_toArr, List.length_cons, List.length_nil, List.getElem?_cons_zero, List.getElem?_cons_succ, Nat.zero_add, Nat.add_zero, c1, c2, if_pos g1, if_pos g2, g2, h1, Int.toNat_natCast, stI hil2, e1, o4 (q := fun x => x == 4) q4]
      simp only [beq_iff_eq] at q4
      obtain ⟨f1, f2⟩ := fin _ 1 rfl (by rw [q4]; rfl)
      refine ⟨L.length - (i + 1), by omega, i + 1, by omega, rfl, ?_, f1, f2⟩
      rw [s4 (q := fun x => x == 2) (by rw [q4]; rfl)]
    · have q4' : x ≠ 4 := by simpa using q4
      simp only [go_sem, Int.reduceBEq, Int.reduceBNe, Int.reduceNeg, not_true_eq_false, beq_self_eq_true, bne_self_eq_false, Bool.false_eq_true, if_false, if_true, Int.cast_ofNat_Int, decide_true, decide_false, reduceCtorEq, Nat.reduceEqDiff, Nat.reduceAdd, ne_eq, not_false_eq_true, Option.map_some, Option.bind_some, Option.map_none, Option.bind_none, true_and, and_true, Bool.not_true, Bool.not_false, Nat.reduceLeDiff, Nat.reduceMul, Nat.reduceSub, Nat.le_refl, Int.reduceToNat, Int.reduceLT, Int.reduceLE, Nat.one_mul, Nat.mul_one, q4]
      refine gT.of (fun q2 => ?_) (fun q2 => ?_)
      · simp only [pt, go_sem, Int.reduceBEq, Int.reduceBNe, Int.reduceNeg, not_true_eq_false, beq_self_eq_true, bne_self_eq_false, Bool.false_eq_true, if_false, if_true, Int.cast_ofNat_Int, decide_true, decide_false, reduceCtorEq, Nat.reduceEqDiff, Nat.reduceAdd, ne_eq, not_false_eq_true, Option.map_some, Option.bind_some, Option.map_none, Option.bind_none, true_and, and_true, Bool.not_true, Bool.not_false, Nat.reduceLeDiff, Nat.reduceMul, Nat.reduceSub, Nat.le_refl, Int.reduceToNat, Int.reduceLT, Int.reduceLE, Nat.one_mul, Nat.mul_one, load_w, load_a, store_b, idxS_b, set_blk, new_blk, set_next, new_next, len_s, ldW_c, ldA_c, toArr_one, size_one, toList_toArr, size_toArr, List.length_cons, List.length_nil, List.getElem?_cons_zero, List.getElem?_cons_succ, Nat.zero_add, Nat.add_zero, c1, c2, if_pos g1, if_pos g2, g2, h1, Int.toNat_natCast, stI hil2, e1, o4 (q := fun x => x == 2) q2, q4, q2]
        simp only [beq_iff_eq] at q2
        obtain ⟨f1, f2⟩ := fin _ 3 rfl (by rw [q2]; rfl)
        refine ⟨L.length - (i + 1), by omega, i + 1, by omega, rfl, ?_, f1, f2⟩
        rw [s4 (q := fun x => x == 4) (by rw [q2]; rfl)]
      · have q2' : x ≠ 2 := by simpa using q2
        simp only [go_sem, Int.reduceBEq, Int.reduceBNe, Int.reduceNeg, not_true_eq_false, beq_self_eq_true, bne_self_eq_false, Bool.false_eq_true, if_false, if_true, Int.cast_ofNat_Int, decide_true, decide_false, reduceCtorEq, Nat.reduceEqDiff, Nat.reduceAdd, ne_eq, not_false_eq_true, Option.map_some, Option.bind_some, Option.map_none, Option.bind_none, true_and, and_true, Bool.not_true, Bool.not_false, Nat.reduceLeDiff, Nat.reduceMul, Nat.reduceSub, Nat.le_refl, Int.reduceToNat, Int.reduceLT, Int.reduceLE, Nat.one_mul, Nat.mul_one, q2]
        refine gT.of (fun q3 => ?_) (fun q3 => ?_)
        · simp only [pt, go_sem, Int.reduceBEq, Int.reduceBNe, Int.reduceNeg, not_true_eq_false, beq_self_eq_true, bne_self_eq_false, Bool.false_eq_true, if_false, if_true, Int.cast_ofNat_Int, decide_true, decide_false, reduceCtorEq, Nat.reduceEqDiff, Nat.reduceAdd, ne_eq, not_false_eq_true, Option.map_some, Option.bind_some, Option.map_none, Option.bind_none, true_and, and_true, Bool.not_true, Bool.not_false, Nat.reduceLeDiff, Nat.reduceMul, Nat.reduceSub, Nat.le_refl, Int.reduceToNat, Int.reduceLT, Int.reduceLE, Nat.one_mul, Nat.mul_one, load_w, load_a, store_b, idxS_b, set_blk, new_blk, set_next, new_next, len_s, ldW_c, ldA_c, toArr_one, size_one, toList_toArr, size_toArr, List.length_cons, List.length_nil, List.getElem?_cons_zero, List.getElem?_cons_succ, Nat.zero_add, Nat.add_zero, c1, c2, if_pos g1, if_pos g2, g2, h1, Int.toNat_natCast, stI hil2, e1, q4, q2, q3]
          simp only [beq_iff_eq] at q3
          obtain ⟨f1, f2⟩ := fin _ 0 rfl (by rw [q3]; rfl)
          refine ⟨L.length - (i + 1), by omega, i + 1, by omega, rfl, ?_, f1, f2⟩
          rw [s4 (q := fun x => x == 4) (by rw [q3]; rfl), s4 (q := fun x => x == 2) (by rw [q3]; rfl)]
        · have q3' : x ≠ 3 := by simpa using q3
          simp only [pt, go_sem, Int.reduceBEq, Int.reduceBNe, Int.reduceNeg, not_true_eq_false, beq_self_eq_true, bne_self_eq_false, Bool.false_eq_true, if_false, if_true, Int.cast_ofNat_Int, decide_true, decide_false, reduceCtorEq, Nat.reduceEqDiff, Nat.reduceAdd, ne_eq, not_false_eq_true, Option.map_some, Option.bind_some, Option.map_none, Option.bind_none, true_and, and_true, Bool.not_true, Bool.not_false, Nat.reduceLeDiff, Nat.reduceMul, Nat.reduceSub, Nat.le_refl, Int.reduceToNat, Int.reduceLT, Int.reduceLE, Nat.one_mul, Nat.mul_one, e1, q4, q2, q3]
          obtain ⟨f1, f2⟩ := fin2 (by unfold turnC; rw [if_neg q4', if_neg q2', if_neg q3'])
          refine ⟨L.length - (i + 1), by omega, i + 1, by omega, rfl, ?_, f1, f2⟩
          rw [s4 (q := fun x => x == 4) q4, s4 (q := fun x => x == 2) q2]
  · simp only [go_sem, Int.reduceBEq, Int.reduceBNe, Int.reduceNeg, not_true_eq_false, beq_self_eq_true, bne_self_eq_false, Bool.false_eq_true, if_false, if_true, Int.cast_ofNat_Int, decide_true, decide_false, reduceCtorEq, Nat.reduceEqDiff, Nat.reduceAdd, ne_eq, not_false_eq_true, Option.map_some, Option.bind_some, Option.map_none, Option.bind_none, true_and, and_true, Bool.not_true, Bool.not_false, Nat.reduceLeDiff, Nat.reduceMul, Nat.reduceSub, Nat.le_refl, Int.reduceToNat, Int.reduceLT, Int.reduceLE, Nat.one_mul, Nat.mul_one]
    simp only [decide_eq_false_iff_not] at h1
    rw [List.take_of_length_le (by omega), List.drop_of_length_le (by omega), List.append_nil] at hc
    rw [List.take_of_length_le (by omega)]
    exact ⟨rfl, hc, hu⟩
end Go.Am


/- Cores: walks of what changes. -/
set_option linter.unusedVariables false
set_option linter.unusedSimpArgs false
namespace Go.Am
variable {m : Mem}

def onl (L : List Int) : Nat := L.countP fun x => decide (x ∈ [(1 : Int)])

/-- A change of a core's state: what is then, and the error's number. -/
def chg (L : List Int) (c fr to : Int) : List Int × Int :=
  if h : 0 ≤ c ∧ c.toNat < L.length then
    if L[c.toNat]'h.2 = fr then (if to = 2 ∧ onl L = 1 then (L, 17) else (L.set c.toNat to, 0)) else (L, 15)
  else (L, 24)

theorem CS.keep {b bl : Nat} {L : List Int} {m' : Mem} (h : CS m b bl L) (hx : Ext m m') : CS m' b bl L :=
  ⟨by rw [hx.same _ h.2.2.2.1]; exact h.1, by rw [hx.same _ h.2.2.2.2]; exact h.2.1, h.2.2.1, Nat.lt_of_lt_of_le h.2.2.2.1 hx.next, Nat.lt_of_lt_of_le h.2.2.2.2 hx.next⟩

theorem change_spec {b bl : Nat} {L : List Int} {c fr to : Int} (h : CS m b bl L) (h16 : L.length ≤ 16) (hne : L ≠ []) : WC R F.cores_Set_change [pt b, .int .i64 c, .int .i64 fr, .int .i64 to] m fun r m' =>
    r = .int .i64 (chg L c fr to).2 ∧ CS m' b bl (chg L c fr to).1 ∧ Upd m m' [bl] := by
  refine WC.of R.cores_Set_change rfl ?_
  simp only [RC.cores_Set_change, go_sem, Int.reduceBEq, Int.reduceBNe, Int.reduceNeg, not_true_eq_false, beq_self_eq_true, bne_self_eq_false, Bool.false_eq_true, if_false, if_true, Int.cast_ofNat_Int, decide_true, decide_false, reduceCtorEq, Nat.reduceEqDiff, Nat.reduceAdd, ne_eq, not_false_eq_true, Option.map_some, Option.bind_some, Option.map_none, Option.bind_none, true_and, and_true, Bool.not_true, Bool.not_false, Nat.reduceLeDiff, Nat.reduceMul, Nat.reduceSub, Nat.le_refl, Int.reduceToNat, Int.reduceLT, Int.reduceLE, Nat.one_mul, Nat.mul_one]
  have hpos : 0 < L.length := List.length_pos_iff.2 hne
  have hz : ((L.length : Int) == 0) = false := by rw [beq_eq_false_iff_ne]; omega
  refine gC.of (Len_spec h) ?_
  rintro _ m_ ⟨rfl, hm_⟩
  replace hm_ := hm_.symm
  subst hm_
  simp only [go_sem, Int.reduceBEq, Int.reduceBNe, Int.reduceNeg, not_true_eq_false, beq_self_eq_true, bne_self_eq_false, Bool.false_eq_true, if_false, if_true, Int.cast_ofNat_Int, decide_true, decide_false, reduceCtorEq, Nat.reduceEqDiff, Nat.reduceAdd, ne_eq, not_false_eq_true, Option.map_some, Option.bind_some, Option.map_none, Option.bind_none, true_and, and_true, Bool.not_true, Bool.not_false, Nat.reduceLeDiff, Nat.reduceMul, Nat.reduceSub, Nat.le_refl, Int.reduceToNat, Int.reduceLT, Int.reduceLE, Nat.one_mul, Nat.mul_one]
  simp only [go_sem, Int.reduceBEq, Int.reduceBNe, Int.reduceNeg, not_true_eq_false, beq_self_eq_true, bne_self_eq_false, Bool.false_eq_true, if_false, if_true, Int.cast_ofNat_Int, decide_true, decide_false, reduceCtorEq, Nat.reduceEqDiff, Nat.reduceAdd, ne_eq, not_false_eq_true, Option.map_some, Option.bind_some, Option.map_none, Option.bind_none, true_and, and_true, Bool.not_true, Bool.not_false, Nat.reduceLeDiff, Nat.reduceMul, Nat.reduceSub, Nat.le_refl, Int.reduceToNat, Int.reduceLT, Int.reduceLE, Nat.one_mul, Nat.mul_one, hz]
  refine gC.of (State_spec h) ?_
  rintro v_ m_ ⟨hv, hm_⟩
  replace hm_ := hm_.symm
  subst hm_
  rcases hv with ⟨i, hi, rfl, rfl⟩ | ⟨ho, rfl⟩
  · have hc : 0 ≤ ((i : Nat) : Int) ∧ ((i : Nat) : Int).toNat < L.length := by omega
    have et : ((i : Nat) : Int).toNat = i := Int.toNat_natCast i
    simp only [go_sem, Int.reduceBEq, Int.reduceBNe, Int.reduceNeg, not_true_eq_false, beq_self_eq_true, bne_self_eq_false, Bool.false_eq_true, if_false, if_true, Int.cast_ofNat_Int, decide_true, decide_false, reduceCtorEq, Nat.reduceEqDiff, Nat.reduceAdd, ne_eq, not_false_eq_true, Option.map_some, Option.bind_some, Option.map_none, Option.bind_none, true_and, and_true, Bool.not_true, Bool.not_false, Nat.reduceLeDiff, Nat.reduceMul, Nat.reduceSub, Nat.le_refl, Int.reduceToNat, Int.reduceLT, Int.reduceLE, Nat.one_mul, Nat.mul_one]
    refine gT.of (fun q => ?_) (fun q => ?_)
    · simp only [go_sem, Int.reduceBEq, Int.reduceBNe, Int.reduceNeg, not_true_eq_false, beq_self_eq_true, bne_self_eq_false, Bool.false_eq_true, if_false, if_true, Int.cast_ofNat_Int, decide_true, decide_false, reduceCtorEq, Nat.reduceEqDiff, Nat.reduceAdd, ne_eq, not_false_eq_true, Option.map_some, Option.bind_some, Option.map_none, Option.bind_none, true_and, and_true, Bool.not_true, Bool.not_false, Nat.reduceLeDiff, Nat.reduceMul, Nat.reduceSub, Nat.le_refl, Int.reduceToNat, Int.reduceLT, Int.reduceLE, Nat.one_mul, Nat.mul_one]
      have : L[i] ≠ fr := by simpa using q
      have e : chg L i fr to = (L, 15) := by unfold chg; rw [dif_pos hc]; simp only [et]; rw [if_neg this]
      rw [e]; exact ⟨rfl, h, Upd.refl _ _⟩
    · have q' : L[i] = fr := by simpa using q
      simp only [go_sem, Int.reduceBEq, Int.reduceBNe, Int.reduceNeg, not_true_eq_false, beq_self_eq_true, bne_self_eq_false, Bool.false_eq_true, if_false, if_true, Int.cast_ofNat_Int, decide_true, decide_false, reduceCtorEq, Nat.reduceEqDiff, Nat.reduceAdd, ne_eq, not_false_eq_true, Option.map_some, Option.bind_some, Option.map_none, Option.bind_none, true_and, and_true, Bool.not_true, Bool.not_false, Nat.reduceLeDiff, Nat.reduceMul, Nat.reduceSub, Nat.le_refl, Int.reduceToNat, Int.reduceLT, Int.reduceLE, Nat.one_mul, Nat.mul_one, q]
      have gi : (0 : Int) ≤ i := by omega
      have gi2 : ((i : Nat) : Int) < L.length := by omega
      have fin : ∀ m1, Ext m m1 → CS m1 b bl L → ¬ (to = 2 ∧ onl L = 1) → (.int .i64 0 : Value) = .int .i64 (chg L i fr to).2 ∧ CS (m1.set bl (some (.cells (intsZ (L.set i to)) (some 1)))) b bl (chg L i fr to).1 ∧ Upd m (m1.set bl (some (.cells (intsZ (L.set i to)) (some 1)))) [bl] := by
        intro m1 hx hc1 hn
        have e : chg L i fr to = (L.set i to, 0) := by unfold chg; rw [dif_pos hc]; simp only [et]; rw [if_pos q', if_neg hn]
        rw [e]
        exact ⟨rfl, hc1.set i to, hx.upd.trans (Upd.set (by simp)) (fun _ h => h) (fun _ h => .inl h)⟩
      refine gT.of (fun t2 => ?_) (fun t2 => ?_)
      · simp only [go_sem, Int.reduceBEq, Int.reduceBNe, Int.reduceNeg, not_true_eq_false, beq_self_eq_true, bne_self_eq_false, Bool.false_eq_true, if_false, if_true, Int.cast_ofNat_Int, decide_true, decide_false, reduceCtorEq, Nat.reduceEqDiff, Nat.reduceAdd, ne_eq, not_false_eq_true, Option.map_some, Option.bind_some, Option.map_none, Option.bind_none, true_and, and_true, Bool.not_true, Bool.not_false, Nat.reduceLeDiff, Nat.reduceMul, Nat.reduceSub, Nat.le_refl, Int.reduceToNat, Int.reduceLT, Int.reduceLE, Nat.one_mul, Nat.mul_one, t2]
        simp only [beq_iff_eq] at t2
        have hs : Sl (m.new (.cells [.int .i64 1] (some 1))) 1 [(1 : Int)].length (intsZ [1]) (.slice (some ⟨m.next, 0, none⟩) 1 1) := Sl.fresh rfl
        have hk := h.keep (m' := m.new (.cells [.int .i64 1] (some 1))) Ext.new
        refine gC.of (Count_spec hk h16 hs (by decide)) ?_
        rintro _ m_ ⟨rfl, hm_⟩
        replace hm_ := hm_.symm
        subst hm_
        simp only [go_sem, Int.reduceBEq, Int.reduceBNe, Int.reduceNeg, not_true_eq_false, beq_self_eq_true, bne_self_eq_false, Bool.false_eq_true, if_false, if_true, Int.cast_ofNat_Int, decide_true, decide_false, reduceCtorEq, Nat.reduceEqDiff, Nat.reduceAdd, ne_eq, not_false_eq_true, Option.map_some, Option.bind_some, Option.map_none, Option.bind_none, true_and, and_true, Bool.not_true, Bool.not_false, Nat.reduceLeDiff, Nat.reduceMul, Nat.reduceSub, Nat.le_refl, Int.reduceToNat, Int.reduceLT, Int.reduceLE, Nat.one_mul, Nat.mul_one]
        refine gT.of (fun t3 => ?_) (fun t3 => ?_)
        · have t3' : onl L = 1 := by simp only [beq_iff_eq] at t3; unfold onl; omega
          have e : chg L i fr to = (L, 17) := by unfold chg; rw [dif_pos hc]; simp only [et]; rw [if_pos q', if_pos ⟨t2, t3'⟩]
          simp only [go_sem, Int.reduceBEq, Int.reduceBNe, Int.reduceNeg, not_true_eq_false, beq_self_eq_true, bne_self_eq_false, Bool.false_eq_true, if_false, if_true, Int.cast_ofNat_Int, decide_true, decide_false, reduceCtorEq, Nat.reduceEqDiff, Nat.reduceAdd, ne_eq, not_false_eq_true, Option.map_some, Option.bind_some, Option.map_none, Option.bind_none, true_and, and_true, Bool.not_true, Bool.not_false, Nat.reduceLeDiff, Nat.reduceMul, Nat.reduceSub, Nat.le_refl, Int.reduceToNat, Int.reduceLT, Int.reduceLE, Nat.one_mul, Nat.mul_one, t3]
          rw [e]; exact ⟨rfl, hk, Ext.new.upd⟩
        · have t3' : onl L ≠ 1 := by simp only [beq_eq_false_iff_ne] at t3; unfold onl; omega
          have hxx : Ext m (m.new (.cells [.int .i64 1] (some 1))) := Ext.new
          clear hs
          generalize m.new (.cells [.int .i64 1] (some 1)) = m1 at *
          simp only [pt, go_sem, Int.reduceBEq, Int.reduceBNe, Int.reduceNeg, not_true_eq_false, beq_self_eq_true, bne_self_eq_false, Bool.false_eq_true, if_false, if_true, Int.cast_ofNat_Int, decide_true, decide_false, reduceCtorEq, Nat.reduceEqDiff, Nat.reduceAdd, ne_eq, not_false_eq_true, Option.map_some, Option.bind_some, Option.map_none, Option.bind_none, true_and, and_true, Bool.not_true, Bool.not_false, Nat.reduceLeDiff, Nat.reduceMul, Nat.reduceSub, Nat.le_refl, Int.reduceToNat, Int.reduceLT, Int.reduceLE, Nat.one_mul, Nat.mul_one, t3, load_w, load_a, store_b, idxS_b, set_blk, new_blk, set_next, new_next, len_s, ldW_c, ldA_c, toArr_one, size_one, toList_toArr, size_toArr, List.length_cons, List.length_nil, List.getElem?_cons_zero, List.getElem?_cons_succ, Nat.zero_add, Nat.add_zero, hk.1, hk.2.1, if_pos gi, gi, gi2, Int.toNat_natCast, stI hi]
          exact fin _ hxx hk (by omega)
      · have t2' : to ≠ 2 := by simpa using t2
        simp only [pt, go_sem, Int.reduceBEq, Int.reduceBNe, Int.reduceNeg, not_true_eq_false, beq_self_eq_true, bne_self_eq_false, Bool.false_eq_true, if_false, if_true, Int.cast_ofNat_Int, decide_true, decide_false, reduceCtorEq, Nat.reduceEqDiff, Nat.reduceAdd, ne_eq, not_false_eq_true, Option.map_some, Option.bind_some, Option.map_none, Option.bind_none, true_and, and_true, Bool.not_true, Bool.not_false, Nat.reduceLeDiff, Nat.reduceMul, Nat.reduceSub, Nat.le_refl, Int.reduceToNat, Int.reduceLT, Int.reduceLE, Nat.one_mul, Nat.mul_one, t2, load_w, load_a, store_b, idxS_b, set_blk, new_blk, set_next, new_next, len_s, ldW_c, ldA_c, toArr_one, size_one, toList_toArr, size_toArr, List.length_cons, List.length_nil, List.getElem?_cons_zero, List.getElem?_cons_succ, Nat.zero_add, Nat.add_zero, h.1, h.2.1, if_pos gi, gi, gi2, Int.toNat_natCast, stI hi]
        exact fin _ (Ext.refl _) h (by omega)
  · simp only [go_sem, Int.reduceBEq, Int.reduceBNe, Int.reduceNeg, not_true_eq_false, beq_self_eq_true, bne_self_eq_false, Bool.false_eq_true, if_false, if_true, Int.cast_ofNat_Int, decide_true, decide_false, reduceCtorEq, Nat.reduceEqDiff, Nat.reduceAdd, ne_eq, not_false_eq_true, Option.map_some, Option.bind_some, Option.map_none, Option.bind_none, true_and, and_true, Bool.not_true, Bool.not_false, Nat.reduceLeDiff, Nat.reduceMul, Nat.reduceSub, Nat.le_refl, Int.reduceToNat, Int.reduceLT, Int.reduceLE, Nat.one_mul, Nat.mul_one]
    have e : chg L c fr to = (L, 24) := by unfold chg; rw [dif_neg (by omega)]
    rw [e]; exact ⟨rfl, h, Upd.refl _ _⟩

theorem Plug_spec {b bl : Nat} {L : List Int} {c : Int} (h : CS m b bl L) (h16 : L.length ≤ 16) (hne : L ≠ []) : WC R F.cores_Set_Plug [pt b, .int .i64 c] m fun r m' =>
    r = .int .i64 (chg L c 0 4).2 ∧ CS m' b bl (chg L c 0 4).1 ∧ Upd m m' [bl] := by
  refine WC.of R.cores_Set_Plug rfl ?_
  simp only [RC.cores_Set_Plug, go_sem, Int.reduceBEq, Int.reduceBNe, Int.reduceNeg, not_true_eq_false, beq_self_eq_true, bne_self_eq_false, Bool.false_eq_true, if_false, if_true, Int.cast_ofNat_Int, decide_true, decide_false, reduceCtorEq, Nat.reduceEqDiff, Nat.reduceAdd, ne_eq, not_false_eq_true, Option.map_some, Option.bind_some, Option.map_none, Option.bind_none, true_and, and_true, Bool.not_true, Bool.not_false, Nat.reduceLeDiff, Nat.reduceMul, Nat.reduceSub, Nat.le_refl, Int.reduceToNat, Int.reduceLT, Int.reduceLE, Nat.one_mul, Nat.mul_one]
  refine gC.of (change_spec h h16 hne) ?_
  rintro _ _ ⟨rfl, a, c⟩
  simp only [go_sem, Int.reduceBEq, Int.reduceBNe, Int.reduceNeg, not_true_eq_false, beq_self_eq_true, bne_self_eq_false, Bool.false_eq_true, if_false, if_true, Int.cast_ofNat_Int, decide_true, decide_false, reduceCtorEq, Nat.reduceEqDiff, Nat.reduceAdd, ne_eq, not_false_eq_true, Option.map_some, Option.bind_some, Option.map_none, Option.bind_none, true_and, and_true, Bool.not_true, Bool.not_false, Nat.reduceLeDiff, Nat.reduceMul, Nat.reduceSub, Nat.le_refl, Int.reduceToNat, Int.reduceLT, Int.reduceLE, Nat.one_mul, Nat.mul_one]
  exact ⟨a, c⟩

theorem Unplug_spec {b bl : Nat} {L : List Int} {c : Int} (h : CS m b bl L) (h16 : L.length ≤ 16) (hne : L ≠ []) : WC R F.cores_Set_Unplug [pt b, .int .i64 c] m fun r m' =>
    r = .int .i64 (chg L c 1 2).2 ∧ CS m' b bl (chg L c 1 2).1 ∧ Upd m m' [bl] := by
  refine WC.of R.cores_Set_Unplug rfl ?_
  simp only [RC.cores_Set_Unplug, go_sem, Int.reduceBEq, Int.reduceBNe, Int.reduceNeg, not_true_eq_false, beq_self_eq_true, bne_self_eq_false, Bool.false_eq_true, if_false, if_true, Int.cast_ofNat_Int, decide_true, decide_false, reduceCtorEq, Nat.reduceEqDiff, Nat.reduceAdd, ne_eq, not_false_eq_true, Option.map_some, Option.bind_some, Option.map_none, Option.bind_none, true_and, and_true, Bool.not_true, Bool.not_false, Nat.reduceLeDiff, Nat.reduceMul, Nat.reduceSub, Nat.le_refl, Int.reduceToNat, Int.reduceLT, Int.reduceLE, Nat.one_mul, Nat.mul_one]
  refine gC.of (change_spec h h16 hne) ?_
  rintro _ _ ⟨rfl, a, c⟩
  simp only [go_sem, Int.reduceBEq, Int.reduceBNe, Int.reduceNeg, not_true_eq_false, beq_self_eq_true, bne_self_eq_false, Bool.false_eq_true, if_false, if_true, Int.cast_ofNat_Int, decide_true, decide_false, reduceCtorEq, Nat.reduceEqDiff, Nat.reduceAdd, ne_eq, not_false_eq_true, Option.map_some, Option.bind_some, Option.map_none, Option.bind_none, true_and, and_true, Bool.not_true, Bool.not_false, Nat.reduceLeDiff, Nat.reduceMul, Nat.reduceSub, Nat.le_refl, Int.reduceToNat, Int.reduceLT, Int.reduceLE, Nat.one_mul, Nat.mul_one]
  exact ⟨a, c⟩
end Go.Am


/- Products of two words. -/
set_option linter.unusedVariables false
set_option linter.unusedSimpArgs false
namespace Go.Am
theorem Mul64_spec {m : Mem} {x y : BitVec 64} : WC R F.math_bits_Mul64 [u64 x, u64 y] m fun v m' => v = .tuple #[u64 (hiW x y), u64 (x * y)] ∧ m' = m := by
  refine WC.of R.math_bits_Mul64 rfl ?_
  simp only [RC.math_bits_Mul64, go_sem, Int.reduceBEq, Int.reduceBNe, Int.reduceNeg, not_true_eq_false, beq_self_eq_true, bne_self_eq_false, Bool.false_eq_true, if_false, if_true, Int.cast_ofNat_Int, decide_true, decide_false, reduceCtorEq, Nat.reduceEqDiff, Nat.reduceAdd, ne_eq, not_false_eq_true, Option.map_some, Option.bind_some, Option.map_none, Option.bind_none, true_and, and_true, Bool.not_true, Bool.not_false, Nat.reduceLeDiff, Nat.reduceMul, Nat.reduceSub, Nat.le_refl, Int.reduceToNat, Int.reduceLT, Int.reduceLE, Nat.one_mul, Nat.mul_one, BitVec.toNat_ofNat, Nat.reducePow, Nat.reduceMod, hiW]
theorem Mul_spec {m : Mem} {x y : BitVec 64} : WC R F.math_bits_Mul [u64 x, u64 y] m fun v m' => v = .tuple #[u64 (hiW x y), u64 (x * y)] ∧ m' = m := by
  refine WC.of R.math_bits_Mul rfl ?_
  simp only [RC.math_bits_Mul, go_sem, Int.reduceBEq, Int.reduceBNe, Int.reduceNeg, not_true_eq_false, beq_self_eq_true, bne_self_eq_false, Bool.false_eq_true, if_false, if_true, Int.cast_ofNat_Int, decide_true, decide_false, reduceCtorEq, Nat.reduceEqDiff, Nat.reduceAdd, ne_eq, not_false_eq_true, Option.map_some, Option.bind_some, Option.map_none, Option.bind_none, true_and, and_true, Bool.not_true, Bool.not_false, Nat.reduceLeDiff, Nat.reduceMul, Nat.reduceSub, Nat.le_refl, Int.reduceToNat, Int.reduceLT, Int.reduceLE, Nat.one_mul, Nat.mul_one]
  refine gC.of Mul64_spec ?_
  rintro _ m_ ⟨rfl, hm_⟩
  replace hm_ := hm_.symm
  subst hm_
  simp only [go_sem, Int.reduceBEq, Int.reduceBNe, Int.reduceNeg, not_true_eq_false, beq_self_eq_true, bne_self_eq_false, Bool.false_eq_true, if_false, if_true, Int.cast_ofNat_Int, decide_true, decide_false, reduceCtorEq, Nat.reduceEqDiff, Nat.reduceAdd, ne_eq, not_false_eq_true, Option.map_some, Option.bind_some, Option.map_none, Option.bind_none, true_and, and_true, Bool.not_true, Bool.not_false, Nat.reduceLeDiff, Nat.reduceMul, Nat.reduceSub, Nat.le_refl, Int.reduceToNat, Int.reduceLT, Int.reduceLE, Nat.one_mul, Nat.mul_one]
end Go.Am


/- More of slices that grow: whole slices put behind. -/
set_option linter.unusedVariables false
namespace Go.Am

theorem Sl.src {m : Mem} {u k : Nat} {xs : List Value} {x : Value} (h : Sl m u k xs x) : aSrc u k m x = some xs ∧ sliceLen x = some k := by
  cases h with
  | nil h hc => subst h; subst hc; exact ⟨rfl, rfl⟩
  | «at» hc h =>
    refine ⟨?_, rfl⟩
    simp only [aSrc]
    split
    · rename_i e; subst e
      have := aCells_len h
      rw [Nat.zero_mul] at this
      rw [List.eq_nil_of_length_eq_zero this]
    · rw [if_pos (Nat.le_refl _)]; exact h

/-- All of a slice behind one's own. -/
theorem Own.appAll {m0 m : Mem} {u n k by_ : Nat} {cs xs : List Value} {v x : Value} (h : Own m0 m u n cs v) (hx : Ext m0 m) (hs : Sl m u k xs x) (h1 : oneCells xs = true) (hby : (n + k) * by_ ≤ 2 ^ 47) (hn : n + k < 2 ^ 62) (hfull : ∀ a p q, v = .slice a p q → p = q) :
    ∃ v' m', aApp none u by_ m v x = some (v', m') ∧ Own m0 m' u (n + k) (cs ++ xs) v' ∧ Ext m0 m' := by
  obtain ⟨hsrc, hlen⟩ := hs.src
  have hxl := hs.length
  cases h with
  | nil h hc =>
    subst h; subst hc
    by_cases hk : k = 0
    · subst hk
      refine ⟨.slice none 0 0, m, by simp [aApp, hlen, hsrc], .nil rfl ?_, hx⟩
      rw [Nat.zero_mul] at hxl
      rw [List.eq_nil_of_length_eq_zero hxl]; rfl
    · refine ⟨.slice (some ⟨m.next, 0, none⟩) k k, m.new (.cells xs (some u)), ?_, ?_, hx.trans Ext.new⟩
      · simp only [aApp, hlen, Option.bind_some, hsrc, hk, if_false]
        rw [if_pos ⟨by simpa using hby, by simpa using hn, h1⟩]
        rfl
      · rw [Nat.zero_add, List.nil_append]
        exact .at (all := xs) hx.next (by simp [Mem.new]) (Nat.le_refl _) (by simp [Mem.new]) hxl (by rw [← hxl, List.take_length]) h1
  | @«at» b c all hb hb2 hnc hm hl hcs hone =>
    by_cases hk : k = 0
    · subst hk
      rw [Nat.zero_mul] at hxl
      have hxs := List.eq_nil_of_length_eq_zero hxl
      subst hxs
      refine ⟨.slice (some ⟨b, 0, none⟩) n c, m, ?_, by rw [List.append_nil]; exact .at hb hb2 hnc hm hl hcs hone, hx⟩
      simp only [aApp, hlen, Option.bind_some, hsrc, if_true]
      rw [if_pos ⟨hnc, by rw [hm]; rfl⟩]
    · by_cases hroom : n + k ≤ c
      · have hle : n * u + k * u ≤ c * u := by rw [← Nat.add_mul]; exact Nat.mul_le_mul_right _ hroom
        refine ⟨.slice (some ⟨b, 0, none⟩) (n + k) c, m.set b (some (.cells (writeL all (n * u) xs) (some u))), ?_, ?_, hx.set hb⟩
        · simp only [aApp, hlen, Option.bind_some, hsrc, hk, if_false, Nat.zero_add]
          rw [if_pos hroom]
          unfold aWrite
          rw [hm]
          simp only
          rw [if_pos ⟨by omega, h1⟩]; rfl
        · refine .at (all := writeL all (n * u) xs) hb (by simpa [Mem.set] using hb2) hroom (by simp [Mem.set]) ?_ ?_ (oneCells_append hone h1)
          · unfold writeL; simp; omega
          · unfold writeL
            rw [Nat.add_mul, List.append_assoc, List.take_append]
            have e : (all.take (n * u)).length = n * u := by simp; omega
            rw [e, List.take_of_length_le (by omega), show n * u + k * u - n * u = xs.length by omega, List.take_left, hcs]
      · have hcn : n = c := hfull _ _ _ rfl
        subst hcn
        have hall : all.take (n * u) = all := by rw [← hl, List.take_length]
        rw [hall] at hcs
        subst hcs
        refine ⟨.slice (some ⟨m.next, 0, none⟩) (n + k) (n + k), (m.set b none).new (.cells (all ++ xs) (some u)), ?_, ?_, (hx.set hb).trans Ext.new⟩
        · simp only [aApp, hlen, Option.bind_some, hsrc, hk, if_false, Nat.zero_add]
          rw [if_neg hroom, hm]
          simp only [List.drop_zero, hall]
          rw [if_pos ⟨hby, hn, h1, hone, Nat.le_refl _, by omega, .inr ⟨by first | rfl | trivial, .inr (by first | rfl | trivial)⟩⟩]
          simp only [Option.isSome_some, true_and, hl, if_true, place]
          rfl
        · refine .at (all := all ++ xs) (by have := hx.next; omega) (by simp [Mem.new, Mem.set]) (Nat.le_refl _) (by simp [Mem.new, Mem.set]) (by simp [hl, hxl, Nat.add_mul]) ?_ (oneCells_append hone h1)
          rw [Nat.add_mul, List.take_of_length_le (by simp; omega)]

/-- A slice, copied: what stands behind an empty one. -/
theorem app_copy {m : Mem} {u k by_ : Nat} {xs : List Value} {x : Value} (hs : Sl (m.new (.cells [] (some u))) u k xs x) (h1 : oneCells xs = true) (hby : k * by_ ≤ 2 ^ 47) (hn : k < 2 ^ 62) :
    ∃ v' m', aApp none u by_ (m.new (.cells [] (some u))) (.slice (some ⟨m.next, 0, none⟩) 0 0) x = some (v', m') ∧ Own m m' u k xs v' ∧ Ext m m' := by
  have ho : Own m (m.new (.cells [] (some u))) u 0 [] (.slice (some ⟨m.next, 0, none⟩) 0 0) :=
    .at (all := []) (Nat.le_refl _) (by simp [Mem.new]) (Nat.le_refl _) (by simp [Mem.new]) (by simp) (by simp) rfl
  have := ho.appAll (by_ := by_) Ext.new hs h1 (by simpa using hby) (by simpa using hn) (by intro a p q h; cases h; rfl)
  simpa using this

/-- The same, with where it stands. -/
theorem app_copy_at {m : Mem} {u k by_ : Nat} {xs : List Value} {x : Value} (hs : Sl (m.new (.cells [] (some u))) u k xs x) (h1 : oneCells xs = true) (hby : k * by_ ≤ 2 ^ 47) (hn : k < 2 ^ 62) (hk : k ≠ 0) :
    ∃ m', aApp none u by_ (m.new (.cells [] (some u))) (.slice (some ⟨m.next, 0, none⟩) 0 0) x = some (.slice (some ⟨m.next + 1, 0, none⟩) k k, m') ∧ m'.blk (m.next + 1) = some (.cells xs (some u)) ∧ m'.next = m.next + 2 ∧ Ext m m' := by
  obtain ⟨hsrc, hlen⟩ := hs.src
  refine ⟨((m.new (.cells [] (some u))).set m.next none).new (.cells xs (some u)), ?_, by simp [Mem.new, Mem.set], by simp [Mem.new, Mem.set], (Ext.new.set (Nat.le_refl _)).trans Ext.new⟩
  have hb : (m.new (.cells [] (some u))).blk m.next = some (.cells [] (some u)) := by simp [Mem.new]
  simp only [aApp, hlen, Option.bind_some, hsrc, hk, if_false, Nat.zero_add]
  rw [if_neg (by omega), hb]
  simp only [List.drop_nil, List.take_nil, Nat.zero_mul, List.length_nil, List.nil_append]
  rw [if_pos ⟨by simpa using hby, by simpa using hn, h1, by first | rfl | trivial, Nat.le_refl _, Nat.le_refl _, .inr ⟨by first | rfl | trivial, .inr (by first | rfl | trivial)⟩⟩]
  simp [place, Mem.new, Mem.set]
  rfl

/-- The same behind nothing. -/
theorem app_nil {m : Mem} {u k by_ : Nat} {xs : List Value} {x : Value} (hs : Sl m u k xs x) (h1 : oneCells xs = true) (hby : k * by_ ≤ 2 ^ 47) (hn : k < 2 ^ 62) :
    ∃ v' m', aApp none u by_ m (.slice none 0 0) x = some (v', m') ∧ Own m m' u k xs v' ∧ Ext m m' := by
  have ho : Own m m u 0 [] (.slice none 0 0) := .nil rfl rfl
  have := ho.appAll (by_ := by_) (Ext.refl _) hs h1 (by simpa using hby) (by simpa using hn) (by intro a p q h; cases h; rfl)
  simpa using this

/-- A slice whose block is none of some. -/
def SlOff (fp : List Nat) : Value → Prop
  | .slice (some a) _ _ => a.block ∉ fp
  | _ => True

theorem Sl.upd {m m' : Mem} {u n : Nat} {cs : List Value} {v : Value} {fp : List Nat} (h : Sl m u n cs v) (hb : SlLt m v) (ho : SlOff fp v) (hx : Upd m m' fp) : Sl m' u n cs v := by
  cases h with
  | nil h hc => exact .nil h hc
  | «at» hc h =>
    refine .at hc ?_
    unfold aCells at h ⊢
    rw [hx.same _ hb ho]; exact h

theorem SlLt.upd {m m' : Mem} {v : Value} {fp : List Nat} (h : SlLt m v) (hx : Upd m m' fp) : SlLt m' v := by
  unfold SlLt at *
  split <;> simp_all
  exact Nat.lt_of_lt_of_le h hx.next

theorem Own.lt {m0 m : Mem} {u n : Nat} {cs : List Value} {v : Value} (h : Own m0 m u n cs v) : SlLt m v := by
  cases h with
  | nil h hc => trivial
  | «at» hb hb2 hn hm hl hcs h1 => exact hb2
theorem Own.off {m0 m : Mem} {u n : Nat} {cs : List Value} {v : Value} {fp : List Nat} (h : Own m0 m u n cs v) (hf : ∀ x ∈ fp, x < m0.next) : SlOff fp v := by
  cases h with
  | nil h hc => trivial
  | «at» hb hb2 hn hm hl hcs h1 => intro hm; have := hf _ hm; simp only at this; omega

/-! ### parts of slices, copies -/

theorem unitOk_own {m : Mem} {b u : Nat} {cs : List Value} (h : m.blk b = some (.cells cs (some u))) : unitOk u m b = true := by unfold unitOk; rw [h]; simp

theorem sub_from {m : Mem} {b o n c u : Nat} {k : IntKind} {i : Nat} (hu : unitOk u m b = true) (h : i ≤ n) (hc : n ≤ c) :
    aSub u m (.slice (some ⟨b, o, none⟩) n c) (some (.int k i)) none none = some (.slice (some ⟨b, o + i * u, none⟩) (n - i) (c - i)) := by
  simp only [aSub, hu, if_true, aBounds, aBound]
  simp [h, cutAt, hc, Int.toNat_natCast]

theorem sub_to {m : Mem} {b o n c u : Nat} {k : IntKind} {i : Nat} (hu : unitOk u m b = true) (h : i ≤ c) :
    aSub u m (.slice (some ⟨b, o, none⟩) n c) none (some (.int k i)) none = some (.slice (some ⟨b, o, none⟩) i c) := by
  simp only [aSub, hu, if_true, aBounds, aBound]
  simp [h, cutAt, Int.toNat_natCast]

theorem sub_both {m : Mem} {b o n c u : Nat} {k k' : IntKind} {i j : Nat} (hu : unitOk u m b = true) (h : i ≤ j) (hj : j ≤ c) :
    aSub u m (.slice (some ⟨b, o, none⟩) n c) (some (.int k i)) (some (.int k' j)) none = some (.slice (some ⟨b, o + i * u, none⟩) (j - i) (c - i)) := by
  simp only [aSub, hu, if_true, aBounds, aBound]
  simp [h, hj, cutAt, Int.toNat_natCast]

/-- A copy into one's own block. -/
theorem copy_into {m : Mem} {b o n c u k : Nat} {cs xs : List Value} {x : Value} (hm : m.blk b = some (.cells cs (some u))) (hs : aSrc u (Nat.min k n) m x = some xs) (hl : sliceLen x = some k) (h1 : oneCells xs = true) (hx : xs.length = (Nat.min k n) * u) (ho : o + n * u ≤ cs.length) :
    aCopy u m (.slice (some ⟨b, o, none⟩) n c) x = some (.int .i64 (Nat.min k n : Nat), m.set b (some (.cells (writeL cs o xs) (some u)))) := by
  have hd : sliceLen (.slice (some ⟨b, o, none⟩) n c) = some n := rfl
  simp only [aCopy, hd, hl, Option.bind_some, hs]
  have hle : (Nat.min k n) * u ≤ n * u := Nat.mul_le_mul_right _ (Nat.min_le_right _ _)
  by_cases h0 : Nat.min k n = 0
  · rw [if_pos h0, h0]
    rw [h0, Nat.zero_mul] at hx
    have := List.eq_nil_of_length_eq_zero hx
    subst this
    have e : writeL cs o [] = cs := by unfold writeL; simp
    rw [e]
    have : m.set b (some (.cells cs (some u))) = m := by
      unfold Mem.set; congr 1; funext q; split
      · rename_i e; subst e; exact hm.symm
      · rfl
    rw [this]; rfl
  · rw [if_neg h0]
    unfold aWrite
    rw [hm]
    simp only
    rw [if_pos ⟨by omega, h1⟩]; rfl

theorem make_eq {m : Mem} {u by_ n : Nat} {z : List Value} {k k' : IntKind} (h1 : n < 2 ^ 62) (h2 : n * by_ ≤ 2 ^ 47) (h3 : z.length = u) (h4 : oneCells z = true) :
    aMake none u by_ z m (.int k n) (.int k' n) = some (.slice (some ⟨m.next, 0, none⟩) n n, m.new (.cells (zeros z n) (some u))) := by
  simp only [aMake, place]
  rw [if_pos ⟨by omega, by omega, by omega, by omega, h3, h4⟩, Int.toNat_natCast]

theorem zeros_int {n : Nat} : zeros [.int .i64 0] n = intsZ (List.replicate n 0) := by
  induction n with
  | zero => rfl
  | succ n ih => simp [zeros, ih, intsZ, List.replicate_succ]

/-! ### elements of more than one cell -/

theorem flat_len {α : Type} {f : α → List Value} {u : Nat} (hf : ∀ a, (f a).length = u) : ∀ {l : List α}, (l.flatMap f).length = l.length * u
  | [] => by simp
  | a :: l => by rw [List.flatMap_cons, List.length_append, hf, flat_len hf, List.length_cons, Nat.succ_mul]; omega

theorem flat_drop {α : Type} {f : α → List Value} {u : Nat} (hf : ∀ a, (f a).length = u) : ∀ {l : List α} {i : Nat} (h : i < l.length), ((l.flatMap f).drop (i * u)).take u = f l[i]
  | a :: l, 0, _ => by rw [Nat.zero_mul, List.drop_zero, List.flatMap_cons, ← hf a, List.take_left]; rfl
  | a :: l, i + 1, h => by
    rw [List.flatMap_cons, show (i + 1) * u = (f a).length + i * u by rw [hf, Nat.succ_mul]; omega, ← List.drop_drop, List.drop_left, flat_drop hf (by simpa using h)]; rfl

/-- What is read of the i-th element. -/
theorem Sl.elem {α : Type} {f : α → List Value} {m : Mem} {u : Nat} {l : List α} {v : Value} (h : Sl m u l.length (l.flatMap f) v) (hf : ∀ a, (f a).length = u) {k : IntKind} {i : Nat} (hi : i < l.length) :
    ∃ b o, aIdxS u v (.int k i) = some (.pointer (some ⟨b, o, none⟩)) ∧ aLoad true u m (.pointer (some ⟨b, o, none⟩)) = some (.agg (f l[i]).toArray) ∧
      (∀ j, j < u → aLoad false 1 m (.pointer (some ⟨b, o + j, none⟩)) = (f l[i])[j]?) ∧ (SlLt m v → b < m.next) := by
  have hb : ∃ b o, aIdxS u v (.int k i) = some (.pointer (some ⟨b, o, none⟩)) ∧ (SlLt m v → b < m.next) := by
    cases h with
    | nil h hc => omega
    | @«at» b o c hc h =>
      refine ⟨b, o + i * u, ?_, fun h => h⟩
      simp only [aIdxS]; rw [if_pos (by omega), Int.toNat_natCast]
  obtain ⟨b, o, h1, h4⟩ := hb
  obtain ⟨b', o', h1', h2, h3⟩ := h.cell (k := k) hi
  rw [h1] at h1'
  cases h1'
  refine ⟨b, o, h1, by rw [h3, flat_drop hf hi], fun j hj => ?_, h4⟩
  rw [h2 j hj, ← flat_drop hf hi, List.getElem?_take, List.getElem?_drop, if_pos hj]
end Go.Am
