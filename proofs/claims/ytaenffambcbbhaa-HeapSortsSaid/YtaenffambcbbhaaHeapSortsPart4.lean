/- Parts of the proofs of the statements of this seat: AmTabHeap, AmTieHeap, AmBlk, AmSl2, AmSl3, HeapP, HeapP2, HeapCoresMul, AmCut, AmOwnQ, AmMap, HeapW1. No conditions. -/
import Derived.Test.YtaenffambcbbhaaHeapSortsPart3
import Derived.Test.YtaenffambcbbhaaRows
set_option linter.unusedVariables false
set_option linter.unusedSimpArgs false

/- The functions of the layer heap in the form of the abstract machine. Printed by amgen.py. -/
set_option linter.unusedVariables false
namespace Go.Am

@[irreducible] def F.law06_HeapPlays : Nat := 3
@[irreducible] def F.law06_HeapSorts : Nat := 4
@[irreducible] def F.law06_HeapNobody : Nat := 5
@[irreducible] def F.heap_New : Nat := 6
@[irreducible] def F.law06_awake : Nat := 7
@[irreducible] def F.ref06_Put : Nat := 8
@[irreducible] def F.heap_Heap_Put : Nat := 9
@[irreducible] def F.ref06_Remove : Nat := 10
@[irreducible] def F.heap_Heap_Remove : Nat := 11
@[irreducible] def F.ref06_Min : Nat := 12
@[irreducible] def F.heap_Heap_Pop : Nat := 13
@[irreducible] def F.heap_Heap_Min : Nat := 14
@[irreducible] def F.heap_Heap_Key : Nat := 15
@[irreducible] def F.ref06_Key : Nat := 16
@[irreducible] def F.heap_Heap_Len : Nat := 17
@[irreducible] def F.ref02_Compare : Nat := 18
@[irreducible] def F.heap_Heap_up : Nat := 19
@[irreducible] def F.heap_Heap_down : Nat := 20
@[irreducible] def F.heap_Heap_has : Nat := 21
@[irreducible] def F.heap_Heap_swap : Nat := 22
@[irreducible] def F.ref06_ahead : Nat := 23
@[irreducible] def F.ref02_Times : Nat := 24
@[irreducible] def F.heap_Heap_ahead : Nat := 25
@[irreducible] def F.ref02_Twice : Nat := 26
@[irreducible] def F.ref02_Sum : Nat := 27
@[irreducible] def F.fixq_Compare : Nat := 28
@[irreducible] def F.math_bits_Mul64 : Nat := 29

def RB.law06_HeapPlays_1 : RCode :=
  (.seq (.seq (.region [⟨some 56, none, .mov (.t 10)⟩,
    ⟨some 57, none, .mov (.t 1)⟩,
    ⟨some 58, none, .len (.t 57)⟩,
    ⟨some 59, none, .bin .lss (.t 56) (.t 58)⟩,
    ⟨some 60, none, .mov (.t 59)⟩,
    ⟨some 61, some (60, true), .mov (.t 10)⟩,
    ⟨some 62, some (60, true), .bin .lss (.t 61) (.c (.int .i64 60))⟩,
    ⟨some 63, none, .pick (.t 60) (.t 62) (.c (.bool false))⟩]
    [0, 1, 2, 7, 9, 10, 63])
  (.cond (.t 63)
    .skip
    (.exit 0)))
  (.seq (.block 1
    (.seq (.region [⟨some 66, none, .mov (.t 1)⟩,
      ⟨some 67, none, .mov (.t 10)⟩,
      ⟨some 68, none, .idxS 4 (.t 66) (.t 67)⟩,
      ⟨some 69, none, .load true 4 (.t 68)⟩,
      ⟨some 11, none, .alloc [(.int .i64 0), (.int .i64 0), (u64 0#64), (u64 0#64)]⟩,
      ⟨none, none, .store 4 (.t 11) (.t 69)⟩]
      [0, 1, 2, 7, 9, 10, 11])
    (.seq (.seq (.region [⟨some 70, none, .fieldAddr 0 (.t 11)⟩,
      ⟨some 71, none, .load false 1 (.t 70)⟩]
      [0, 1, 2, 7, 9, 10, 11, 71])
    (.block 2
      (.seq (.seq (.region [⟨some 73, none, .bin .eql (.t 71) (.c (.int .i64 0))⟩,
        ⟨some 72, none, .mov (.t 73)⟩]
        [0, 1, 2, 7, 9, 10, 11, 71, 72])
      (.cond (.t 72)
        .skip
        (.region [⟨some 74, none, .bin .eql (.t 71) (.c (.int .i64 1))⟩,
          ⟨some 72, none, .mov (.t 74)⟩]
          [0, 1, 2, 7, 9, 10, 11, 71, 72])))
      (.cond (.t 72)
        (.seq (.region [⟨some 75, none, .fieldAddr 1 (.t 11)⟩,
          ⟨some 76, none, .load false 1 (.t 75)⟩,
          ⟨some 77, none, .bin .geq (.t 76) (.c (.int .i64 0))⟩,
          ⟨some 78, none, .mov (.t 77)⟩,
          ⟨some 79, some (78, true), .fieldAddr 1 (.t 11)⟩,
          ⟨some 80, some (78, true), .load false 1 (.t 79)⟩,
          ⟨some 81, some (78, true), .mov (.t 0)⟩,
          ⟨some 82, some (78, true), .bin .lss (.t 80) (.t 81)⟩,
          ⟨some 83, none, .pick (.t 78) (.t 82) (.c (.bool false))⟩,
          ⟨some 84, none, .mov (.t 83)⟩,
          ⟨some 85, some (84, true), .fieldAddr 3 (.t 11)⟩,
          ⟨some 86, some (84, true), .load false 1 (.t 85)⟩,
          ⟨some 87, some (84, true), .bin .gtr (.t 86) (.c (u64 0#64))⟩,
          ⟨some 88, none, .pick (.t 84) (.t 87) (.c (.bool false))⟩,
          ⟨some 12, none, .mov (.t 88)⟩]
          [0, 1, 2, 7, 9, 10, 11, 12])
        (.seq (.seq (.region [⟨some 89, none, .mov (.t 12)⟩]
          [0, 1, 2, 7, 9, 10, 11, 12, 89])
        (.cond (.t 89)
          (.region [⟨some 90, none, .mov (.t 9)⟩,
            ⟨some 91, none, .fieldAddr 1 (.t 11)⟩,
            ⟨some 92, none, .load false 1 (.t 91)⟩,
            ⟨some 93, none, .fieldAddr 2 (.t 11)⟩,
            ⟨some 94, none, .load false 1 (.t 93)⟩,
            ⟨some 95, none, .fieldAddr 3 (.t 11)⟩,
            ⟨some 96, none, .load false 1 (.t 95)⟩,
            ⟨some 97, none, .build [(.int .i64 0), (u64 0#64), (u64 0#64)] [(0, 1, .t 92), (1, 1, .t 94), (2, 1, .t 96)]⟩,
            ⟨some 98, none, .call F.ref06_Put [.t 90, .t 97]⟩,
            ⟨some 9, none, .mov (.t 98)⟩]
            [0, 1, 2, 7, 9, 10, 11, 12])
          .skip))
        (.seq (.region [⟨some 99, none, .mov (.t 7)⟩,
          ⟨some 100, none, .fieldAddr 1 (.t 11)⟩,
          ⟨some 101, none, .load false 1 (.t 100)⟩,
          ⟨some 102, none, .fieldAddr 2 (.t 11)⟩,
          ⟨some 103, none, .load false 1 (.t 102)⟩,
          ⟨some 104, none, .fieldAddr 3 (.t 11)⟩,
          ⟨some 105, none, .load false 1 (.t 104)⟩,
          ⟨some 106, none, .call F.heap_Heap_Put [.t 99, .t 101, .t 103, .t 105]⟩,
          ⟨some 13, none, .mov (.t 106)⟩]
          [0, 1, 2, 7, 9, 10, 12, 13])
        (.seq (.region [⟨some 107, none, .mov (.t 13)⟩,
          ⟨some 108, none, .bin .eql (.t 107) (.c (.int .i64 0))⟩,
          ⟨some 109, none, .mov (.t 12)⟩,
          ⟨some 110, none, .eq true .bool (.t 108) (.t 109)⟩,
          ⟨some 111, none, .mov (.t 110)⟩,
          ⟨some 112, some (111, false), .mov (.t 13)⟩,
          ⟨some 113, some (111, false), .bin .neq (.t 112) (.c (.int .i64 0))⟩,
          ⟨some 114, some (111, false), .mov (.t 113)⟩,
          ⟨some 115, some (114, true), .mov (.t 13)⟩,
          ⟨some 116, some (114, true), .bin .neq (.t 115) (.c (.int .i64 1))⟩,
          ⟨some 117, some (111, false), .pick (.t 114) (.t 116) (.c (.bool false))⟩,
          ⟨some 118, none, .pick (.t 111) (.c (.bool true)) (.t 117)⟩]
          [0, 1, 2, 7, 9, 10, 118])
        (.cond (.t 118)
          (.seq (.region [⟨some 6, none, .mov (.c (.bool false))⟩]
            [6])
          .ret)
          .skip)))))
        (.seq (.region [⟨some 120, none, .bin .eql (.t 71) (.c (.int .i64 2))⟩,
          ⟨some 119, none, .mov (.t 120)⟩]
          [0, 1, 2, 7, 9, 10, 11, 71, 119])
        (.cond (.t 119)
          (.seq (.region [⟨some 122, none, .mov (.t 9)⟩,
            ⟨some 123, none, .fieldAddr 1 (.t 11)⟩,
            ⟨some 124, none, .load false 1 (.t 123)⟩,
            ⟨some 125, none, .call F.ref06_Remove [.t 122, .t 124]⟩,
            ⟨some 121, none, .mov (.t 125)⟩,
            ⟨some 126, none, .ext 0 (.t 121)⟩,
            ⟨some 127, none, .ext 1 (.t 121)⟩,
            ⟨some 14, none, .mov (.t 126)⟩,
            ⟨some 15, none, .mov (.t 127)⟩]
            [0, 1, 2, 7, 10, 11, 14, 15])
          (.seq (.region [⟨some 128, none, .mov (.t 14)⟩,
            ⟨some 9, none, .mov (.t 128)⟩]
            [0, 1, 2, 7, 9, 10, 11, 15])
          (.seq (.region [⟨some 129, none, .mov (.t 7)⟩,
            ⟨some 130, none, .fieldAddr 1 (.t 11)⟩,
            ⟨some 131, none, .load false 1 (.t 130)⟩,
            ⟨some 132, none, .call F.heap_Heap_Remove [.t 129, .t 131]⟩,
            ⟨some 133, none, .mov (.t 15)⟩,
            ⟨some 134, none, .eq true .bool (.t 132) (.t 133)⟩]
            [0, 1, 2, 7, 9, 10, 134])
          (.cond (.t 134)
            (.seq (.region [⟨some 6, none, .mov (.c (.bool false))⟩]
              [6])
            .ret)
            .skip))))
          (.seq (.region [⟨some 136, none, .bin .eql (.t 71) (.c (.int .i64 3))⟩,
            ⟨some 135, none, .mov (.t 136)⟩]
            [0, 1, 2, 7, 9, 10, 135])
          (.cond (.t 135)
            (.seq (.region [⟨some 138, none, .mov (.t 9)⟩,
              ⟨some 139, none, .call F.ref06_Min [.t 138]⟩,
              ⟨some 137, none, .mov (.t 139)⟩,
              ⟨some 140, none, .ext 0 (.t 137)⟩,
              ⟨some 141, none, .ext 1 (.t 137)⟩,
              ⟨some 16, none, .mov (.t 140)⟩,
              ⟨some 17, none, .mov (.t 141)⟩]
              [0, 1, 2, 7, 9, 10, 16, 17])
            (.seq (.seq (.region [⟨some 142, none, .mov (.t 17)⟩]
              [0, 1, 2, 7, 9, 10, 16, 17, 142])
            (.cond (.t 142)
              (.region [⟨some 144, none, .mov (.t 9)⟩,
                ⟨some 145, none, .mov (.t 16)⟩,
                ⟨some 146, none, .call F.ref06_Remove [.t 144, .t 145]⟩,
                ⟨some 143, none, .mov (.t 146)⟩,
                ⟨some 147, none, .ext 0 (.t 143)⟩,
                ⟨some 148, none, .ext 1 (.t 143)⟩,
                ⟨some 9, none, .mov (.t 147)⟩]
                [0, 1, 2, 7, 9, 10, 16, 17])
              .skip))
            (.seq (.region [⟨some 150, none, .mov (.t 7)⟩,
              ⟨some 151, none, .call F.heap_Heap_Pop [.t 150]⟩,
              ⟨some 149, none, .mov (.t 151)⟩,
              ⟨some 152, none, .ext 0 (.t 149)⟩,
              ⟨some 153, none, .ext 1 (.t 149)⟩,
              ⟨some 18, none, .mov (.t 152)⟩,
              ⟨some 19, none, .mov (.t 153)⟩]
              [0, 1, 2, 7, 9, 10, 16, 17, 18, 19])
            (.seq (.region [⟨some 154, none, .mov (.t 18)⟩,
              ⟨some 155, none, .mov (.t 16)⟩,
              ⟨some 156, none, .bin .neq (.t 154) (.t 155)⟩,
              ⟨some 157, none, .mov (.t 156)⟩,
              ⟨some 158, some (157, false), .mov (.t 19)⟩,
              ⟨some 159, some (157, false), .mov (.t 17)⟩,
              ⟨some 160, some (157, false), .eq true .bool (.t 158) (.t 159)⟩,
              ⟨some 161, none, .pick (.t 157) (.c (.bool true)) (.t 160)⟩]
              [0, 1, 2, 7, 9, 10, 161])
            (.cond (.t 161)
              (.seq (.region [⟨some 6, none, .mov (.c (.bool false))⟩]
                [6])
              .ret)
              .skip)))))
            .skip)))))) [0, 1, 2, 7, 9, 10]))
    (.seq (.region [⟨some 163, none, .mov (.t 7)⟩,
      ⟨some 164, none, .call F.heap_Heap_Min [.t 163]⟩,
      ⟨some 162, none, .mov (.t 164)⟩,
      ⟨some 165, none, .ext 0 (.t 162)⟩,
      ⟨some 166, none, .ext 1 (.t 162)⟩,
      ⟨some 20, none, .mov (.t 165)⟩,
      ⟨some 21, none, .mov (.t 166)⟩]
      [0, 1, 2, 7, 9, 10, 20, 21])
    (.seq (.region [⟨some 168, none, .mov (.t 9)⟩,
      ⟨some 169, none, .call F.ref06_Min [.t 168]⟩,
      ⟨some 167, none, .mov (.t 169)⟩,
      ⟨some 170, none, .ext 0 (.t 167)⟩,
      ⟨some 171, none, .ext 1 (.t 167)⟩,
      ⟨some 22, none, .mov (.t 170)⟩,
      ⟨some 23, none, .mov (.t 171)⟩]
      [0, 1, 2, 7, 9, 10, 20, 21, 22, 23])
    (.seq (.region [⟨some 173, none, .mov (.t 7)⟩,
      ⟨some 174, none, .mov (.t 2)⟩,
      ⟨some 175, none, .call F.heap_Heap_Key [.t 173, .t 174]⟩,
      ⟨some 172, none, .mov (.t 175)⟩,
      ⟨some 176, none, .ext 0 (.t 172)⟩,
      ⟨some 177, none, .ext 1 (.t 172)⟩,
      ⟨some 178, none, .ext 2 (.t 172)⟩,
      ⟨some 24, none, .mov (.t 176)⟩,
      ⟨some 25, none, .mov (.t 177)⟩,
      ⟨some 26, none, .mov (.t 178)⟩]
      [0, 1, 2, 7, 9, 10, 20, 21, 22, 23, 24, 25, 26])
    (.seq (.region [⟨some 180, none, .mov (.t 9)⟩,
      ⟨some 181, none, .mov (.t 2)⟩,
      ⟨some 182, none, .call F.ref06_Key [.t 180, .t 181]⟩,
      ⟨some 179, none, .mov (.t 182)⟩,
      ⟨some 183, none, .ext 0 (.t 179)⟩,
      ⟨some 184, none, .ext 1 (.t 179)⟩,
      ⟨some 185, none, .ext 2 (.t 179)⟩,
      ⟨some 27, none, .mov (.t 183)⟩,
      ⟨some 28, none, .mov (.t 184)⟩,
      ⟨some 29, none, .mov (.t 185)⟩]
      [0, 1, 2, 7, 9, 10, 20, 21, 22, 23, 24, 25, 26, 27, 28, 29])
    (.seq (.region [⟨some 186, none, .mov (.t 20)⟩,
      ⟨some 187, none, .mov (.t 22)⟩,
      ⟨some 188, none, .bin .neq (.t 186) (.t 187)⟩,
      ⟨some 189, none, .mov (.t 188)⟩,
      ⟨some 190, some (189, false), .mov (.t 21)⟩,
      ⟨some 191, some (189, false), .mov (.t 23)⟩,
      ⟨some 192, some (189, false), .eq true .bool (.t 190) (.t 191)⟩,
      ⟨some 193, none, .pick (.t 189) (.c (.bool true)) (.t 192)⟩,
      ⟨some 194, none, .mov (.t 193)⟩,
      ⟨some 195, some (194, false), .mov (.t 7)⟩,
      ⟨some 196, some (194, false), .call F.heap_Heap_Len [.t 195]⟩,
      ⟨some 197, some (194, false), .mov (.t 9)⟩,
      ⟨some 198, some (194, false), .len (.t 197)⟩,
      ⟨some 199, some (194, false), .bin .neq (.t 196) (.t 198)⟩,
      ⟨some 200, none, .pick (.t 194) (.c (.bool true)) (.t 199)⟩,
      ⟨some 201, none, .mov (.t 200)⟩,
      ⟨some 202, some (201, false), .mov (.t 24)⟩,
      ⟨some 203, some (201, false), .mov (.t 27)⟩,
      ⟨some 204, some (201, false), .bin .neq (.t 202) (.t 203)⟩,
      ⟨some 205, none, .pick (.t 201) (.c (.bool true)) (.t 204)⟩,
      ⟨some 206, none, .mov (.t 205)⟩,
      ⟨some 207, some (206, false), .mov (.t 25)⟩,
      ⟨some 208, some (206, false), .mov (.t 28)⟩,
      ⟨some 209, some (206, false), .bin .neq (.t 207) (.t 208)⟩,
      ⟨some 210, none, .pick (.t 206) (.c (.bool true)) (.t 209)⟩,
      ⟨some 211, none, .mov (.t 210)⟩,
      ⟨some 212, some (211, false), .mov (.t 26)⟩,
      ⟨some 213, some (211, false), .mov (.t 29)⟩,
      ⟨some 214, some (211, false), .eq true .bool (.t 212) (.t 213)⟩,
      ⟨some 215, none, .pick (.t 211) (.c (.bool true)) (.t 214)⟩]
      [0, 1, 2, 7, 9, 10, 215])
    (.cond (.t 215)
      (.seq (.region [⟨some 6, none, .mov (.c (.bool false))⟩]
        [6])
      .ret)
      .skip)))))))) [0, 1, 2, 7, 9, 10])
  (.region [⟨some 64, none, .mov (.t 10)⟩,
    ⟨some 65, none, .bin .add (.t 64) (.c (.int .i64 1))⟩,
    ⟨some 10, none, .mov (.t 65)⟩]
    [0, 1, 2, 7, 9, 10])))
def RC.law06_HeapPlays : RFn := ⟨3, [.slot 6],
  (.seq (.region [⟨some 6, none, .mov (.c (.bool false))⟩]
    [0, 1, 2])
  (.seq (.region [⟨some 31, none, .mov (.t 0)⟩,
    ⟨some 32, none, .call F.heap_New [.t 31]⟩,
    ⟨some 30, none, .mov (.t 32)⟩,
    ⟨some 33, none, .ext 0 (.t 30)⟩,
    ⟨some 34, none, .ext 1 (.t 30)⟩,
    ⟨some 7, none, .mov (.t 33)⟩,
    ⟨some 8, none, .mov (.t 34)⟩]
    [0, 1, 2, 7, 8])
  (.seq (.seq (.region [⟨some 35, none, .mov (.t 0)⟩,
    ⟨some 36, none, .bin .lss (.t 35) (.c (.int .i64 1))⟩,
    ⟨some 37, none, .mov (.t 36)⟩,
    ⟨some 38, some (37, false), .mov (.t 0)⟩,
    ⟨some 39, some (37, false), .bin .gtr (.t 38) (.c (.int .i64 1024))⟩,
    ⟨some 40, none, .pick (.t 37) (.c (.bool true)) (.t 39)⟩]
    [0, 1, 2, 7, 8, 40])
  (.cond (.t 40)
    (.seq (.region [⟨some 41, none, .mov (.t 7)⟩,
      ⟨some 42, none, .eq false .ptr (.t 41) (.c (.pointer none))⟩,
      ⟨some 43, none, .mov (.t 42)⟩,
      ⟨some 44, some (43, true), .mov (.t 8)⟩,
      ⟨some 45, some (43, true), .bin .eql (.t 44) (.c (.int .i64 1))⟩,
      ⟨some 46, none, .pick (.t 43) (.t 45) (.c (.bool false))⟩,
      ⟨some 47, none, .mov (.t 46)⟩,
      ⟨some 48, some (47, true), .call F.law06_awake []⟩,
      ⟨some 49, none, .pick (.t 47) (.t 48) (.c (.bool false))⟩,
      ⟨some 6, none, .mov (.t 49)⟩]
      [6])
    .ret)
    .skip))
  (.seq (.seq (.region [⟨some 50, none, .mov (.t 8)⟩,
    ⟨some 51, none, .bin .neq (.t 50) (.c (.int .i64 0))⟩,
    ⟨some 52, none, .mov (.t 51)⟩,
    ⟨some 53, some (52, false), .mov (.t 7)⟩,
    ⟨some 54, some (52, false), .eq false .ptr (.t 53) (.c (.pointer none))⟩,
    ⟨some 55, none, .pick (.t 52) (.c (.bool true)) (.t 54)⟩]
    [0, 1, 2, 7, 55])
  (.cond (.t 55)
    (.seq (.region [⟨some 6, none, .mov (.c (.bool false))⟩]
      [6])
    .ret)
    .skip))
  (.seq (.region [⟨some 9, none, .mov (.c (.slice none 0 0))⟩]
    [0, 1, 2, 7, 9])
  (.seq (.seq (.region [⟨some 10, none, .mov (.c (.int .i64 0))⟩]
    [0, 1, 2, 7, 9, 10])
  (.block 0
    (.loop [0, 1, 2, 7, 9, 10] RB.law06_HeapPlays_1) []))
  (.seq (.region [⟨some 216, none, .call F.law06_awake []⟩,
    ⟨some 6, none, .mov (.t 216)⟩]
    [6])
  .ret)))))))⟩

def RB.law06_HeapSorts_1 : RCode :=
  (.seq (.seq (.region [⟨some 62, none, .mov (.t 11)⟩,
    ⟨some 63, none, .mov (.t 6)⟩,
    ⟨some 64, none, .bin .lss (.t 62) (.t 63)⟩]
    [3, 6, 7, 8, 9, 10, 11, 64])
  (.cond (.t 64)
    .skip
    (.exit 2)))
  (.seq (.block 3
    (.seq (.region [⟨some 68, none, .mov (.t 3)⟩,
      ⟨some 69, none, .call F.heap_Heap_Min [.t 68]⟩,
      ⟨some 67, none, .mov (.t 69)⟩,
      ⟨some 70, none, .ext 0 (.t 67)⟩,
      ⟨some 71, none, .ext 1 (.t 67)⟩,
      ⟨some 12, none, .mov (.t 70)⟩,
      ⟨some 13, none, .mov (.t 71)⟩]
      [3, 6, 7, 8, 9, 10, 11, 12, 13])
    (.seq (.region [⟨some 73, none, .mov (.t 3)⟩,
      ⟨some 74, none, .mov (.t 12)⟩,
      ⟨some 75, none, .call F.heap_Heap_Key [.t 73, .t 74]⟩,
      ⟨some 72, none, .mov (.t 75)⟩,
      ⟨some 76, none, .ext 0 (.t 72)⟩,
      ⟨some 77, none, .ext 1 (.t 72)⟩,
      ⟨some 78, none, .ext 2 (.t 72)⟩,
      ⟨some 14, none, .mov (.t 76)⟩,
      ⟨some 15, none, .mov (.t 77)⟩,
      ⟨some 16, none, .mov (.t 78)⟩]
      [3, 6, 7, 8, 9, 10, 11, 12, 13, 14, 15, 16])
    (.seq (.region [⟨some 80, none, .mov (.t 3)⟩,
      ⟨some 81, none, .call F.heap_Heap_Pop [.t 80]⟩,
      ⟨some 79, none, .mov (.t 81)⟩,
      ⟨some 82, none, .ext 0 (.t 79)⟩,
      ⟨some 83, none, .ext 1 (.t 79)⟩,
      ⟨some 17, none, .mov (.t 82)⟩,
      ⟨some 18, none, .mov (.t 83)⟩]
      [3, 6, 7, 8, 9, 10, 11, 12, 13, 14, 15, 16, 17, 18])
    (.seq (.seq (.region [⟨some 84, none, .mov (.t 13)⟩,
      ⟨some 85, none, .un .not (.t 84)⟩,
      ⟨some 86, none, .mov (.t 85)⟩,
      ⟨some 87, some (86, false), .mov (.t 16)⟩,
      ⟨some 88, some (86, false), .un .not (.t 87)⟩,
      ⟨some 89, none, .pick (.t 86) (.c (.bool true)) (.t 88)⟩,
      ⟨some 90, none, .mov (.t 89)⟩,
      ⟨some 91, some (90, false), .mov (.t 17)⟩,
      ⟨some 92, some (90, false), .mov (.t 12)⟩,
      ⟨some 93, some (90, false), .bin .neq (.t 91) (.t 92)⟩,
      ⟨some 94, none, .pick (.t 90) (.c (.bool true)) (.t 93)⟩,
      ⟨some 95, none, .mov (.t 94)⟩,
      ⟨some 96, some (95, false), .mov (.t 18)⟩,
      ⟨some 97, some (95, false), .un .not (.t 96)⟩,
      ⟨some 98, none, .pick (.t 95) (.c (.bool true)) (.t 97)⟩,
      ⟨some 99, none, .mov (.t 98)⟩,
      ⟨some 100, some (99, false), .mov (.t 7)⟩,
      ⟨some 101, some (99, false), .mov (.t 12)⟩,
      ⟨some 102, some (99, false), .look .int (.bool false) false (.t 100) (.t 101)⟩,
      ⟨some 103, none, .pick (.t 99) (.c (.bool true)) (.t 102)⟩]
      [3, 6, 7, 8, 9, 10, 11, 12, 14, 15, 103])
    (.cond (.t 103)
      (.seq (.region [⟨some 2, none, .mov (.c (.bool false))⟩]
        [2])
      .ret)
      .skip))
    (.seq (.seq (.region [⟨some 104, none, .mov (.t 9)⟩,
      ⟨some 105, none, .mov (.t 10)⟩,
      ⟨some 106, none, .mov (.t 14)⟩,
      ⟨some 107, none, .mov (.t 15)⟩,
      ⟨some 108, none, .call F.ref02_Compare [.t 104, .t 105, .t 106, .t 107]⟩,
      ⟨some 19, none, .mov (.t 108)⟩]
      [3, 6, 7, 8, 11, 12, 14, 15, 19])
    (.seq (.region [⟨some 109, none, .mov (.t 11)⟩,
      ⟨some 110, none, .bin .gtr (.t 109) (.c (.int .i64 0))⟩,
      ⟨some 111, none, .mov (.t 110)⟩,
      ⟨some 112, some (111, true), .mov (.t 19)⟩,
      ⟨some 113, some (111, true), .bin .gtr (.t 112) (.c (.int .i64 0))⟩,
      ⟨some 114, some (111, true), .mov (.t 113)⟩,
      ⟨some 115, some (114, false), .mov (.t 19)⟩,
      ⟨some 116, some (114, false), .bin .eql (.t 115) (.c (.int .i64 0))⟩,
      ⟨some 117, some (114, false), .mov (.t 116)⟩,
      ⟨some 118, some (117, true), .mov (.t 8)⟩,
      ⟨some 119, some (117, true), .mov (.t 12)⟩,
      ⟨some 120, some (117, true), .bin .geq (.t 118) (.t 119)⟩,
      ⟨some 121, some (114, false), .pick (.t 117) (.t 120) (.c (.bool false))⟩,
      ⟨some 122, some (111, true), .pick (.t 114) (.c (.bool true)) (.t 121)⟩,
      ⟨some 123, none, .pick (.t 111) (.t 122) (.c (.bool false))⟩]
      [3, 6, 7, 11, 12, 14, 15, 123])
    (.cond (.t 123)
      (.seq (.region [⟨some 2, none, .mov (.c (.bool false))⟩]
        [2])
      .ret)
      .skip)))
    (.seq (.region [⟨some 124, none, .mov (.t 7)⟩,
      ⟨some 125, none, .mov (.t 12)⟩,
      ⟨none, none, .upd .int (.t 124) (.t 125) (.c (.bool true))⟩]
      [3, 6, 7, 11, 12, 14, 15])
    (.region [⟨some 126, none, .mov (.t 12)⟩,
      ⟨some 127, none, .mov (.t 14)⟩,
      ⟨some 128, none, .mov (.t 15)⟩,
      ⟨some 8, none, .mov (.t 126)⟩,
      ⟨some 9, none, .mov (.t 127)⟩,
      ⟨some 10, none, .mov (.t 128)⟩]
      [3, 6, 7, 8, 9, 10, 11]))))))) [3, 6, 7, 8, 9, 10, 11])
  (.region [⟨some 65, none, .mov (.t 11)⟩,
    ⟨some 66, none, .bin .add (.t 65) (.c (.int .i64 1))⟩,
    ⟨some 11, none, .mov (.t 66)⟩]
    [3, 6, 7, 8, 9, 10, 11])))
def RB.law06_HeapSorts_2 : RCode :=
  (.seq (.seq (.region [⟨some 32, none, .mov (.t 5)⟩,
    ⟨some 33, none, .mov (.t 0)⟩,
    ⟨some 34, none, .len (.t 33)⟩,
    ⟨some 35, none, .bin .lss (.t 32) (.t 34)⟩,
    ⟨some 36, none, .mov (.t 35)⟩,
    ⟨some 37, some (36, true), .mov (.t 5)⟩,
    ⟨some 38, some (36, true), .bin .lss (.t 37) (.c (.int .i64 200))⟩,
    ⟨some 39, none, .pick (.t 36) (.t 38) (.c (.bool false))⟩]
    [0, 3, 5, 39])
  (.cond (.t 39)
    .skip
    (.exit 0)))
  (.seq (.block 1
    (.drawn [⟨some 42, none, .mov (.t 3)⟩,
      ⟨some 43, none, .mov (.t 0)⟩,
      ⟨some 44, none, .mov (.t 5)⟩,
      ⟨some 45, none, .idxS 4 (.t 43) (.t 44)⟩,
      ⟨some 46, none, .fieldAddr 1 (.t 45)⟩,
      ⟨some 47, none, .load false 1 (.t 46)⟩,
      ⟨some 48, none, .mov (.t 0)⟩,
      ⟨some 49, none, .mov (.t 5)⟩,
      ⟨some 50, none, .idxS 4 (.t 48) (.t 49)⟩,
      ⟨some 51, none, .fieldAddr 2 (.t 50)⟩,
      ⟨some 52, none, .load false 1 (.t 51)⟩,
      ⟨some 53, none, .mov (.t 0)⟩,
      ⟨some 54, none, .mov (.t 5)⟩,
      ⟨some 55, none, .idxS 4 (.t 53) (.t 54)⟩,
      ⟨some 56, none, .fieldAddr 3 (.t 55)⟩,
      ⟨some 57, none, .load false 1 (.t 56)⟩,
      ⟨some 58, none, .call F.heap_Heap_Put [.t 42, .t 47, .t 52, .t 57]⟩]
      [[], [], [], [1, 2], [3], [4], [], [], [6, 7], [8], [9], [], [], [11, 12], [13], [14], [0, 5, 10, 15]]
      [(0, []), (1, []), (2, []), (3, []), (4, []), (6, []), (7, []), (8, []), (9, []), (11, []), (12, []), (13, []), (14, []), (5, []), (10, []), (15, []), (16, [])]
      [[], [], [], [1, 2], [1, 2, 3], [1, 2, 3, 4], [], [], [6, 7], [6, 7, 8], [6, 7, 8, 9], [], [], [11, 12], [11, 12, 13], [11, 12, 13, 14], [0, 1, 2, 3, 4, 5, 6, 7, 8, 9, 10, 11, 12, 13, 14, 15]]
      [0, 3, 5]) [0, 3, 5])
  (.region [⟨some 40, none, .mov (.t 5)⟩,
    ⟨some 41, none, .bin .add (.t 40) (.c (.int .i64 1))⟩,
    ⟨some 5, none, .mov (.t 41)⟩]
    [0, 3, 5])))
def RC.law06_HeapSorts : RFn := ⟨1, [.slot 2],
  (.seq (.region [⟨some 2, none, .mov (.c (.bool false))⟩]
    [0])
  (.seq (.region [⟨some 23, none, .call F.heap_New [.c (.int .i64 64)]⟩,
    ⟨some 22, none, .mov (.t 23)⟩,
    ⟨some 24, none, .ext 0 (.t 22)⟩,
    ⟨some 25, none, .ext 1 (.t 22)⟩,
    ⟨some 3, none, .mov (.t 24)⟩,
    ⟨some 4, none, .mov (.t 25)⟩]
    [0, 3, 4])
  (.seq (.seq (.region [⟨some 26, none, .mov (.t 4)⟩,
    ⟨some 27, none, .bin .neq (.t 26) (.c (.int .i64 0))⟩,
    ⟨some 28, none, .mov (.t 27)⟩,
    ⟨some 29, some (28, false), .mov (.t 3)⟩,
    ⟨some 30, some (28, false), .eq false .ptr (.t 29) (.c (.pointer none))⟩,
    ⟨some 31, none, .pick (.t 28) (.c (.bool true)) (.t 30)⟩]
    [0, 3, 31])
  (.cond (.t 31)
    (.seq (.region [⟨some 2, none, .mov (.c (.bool false))⟩]
      [2])
    .ret)
    .skip))
  (.seq (.seq (.region [⟨some 5, none, .mov (.c (.int .i64 0))⟩]
    [0, 3, 5])
  (.block 0
    (.loop [0, 3, 5] RB.law06_HeapSorts_2) [3]))
  (.seq (.region [⟨some 59, none, .mov (.t 3)⟩,
    ⟨some 60, none, .call F.heap_Heap_Len [.t 59]⟩,
    ⟨some 6, none, .mov (.t 60)⟩]
    [3, 6])
  (.seq (.region [⟨some 61, none, .mkmap⟩,
    ⟨some 7, none, .mov (.t 61)⟩]
    [3, 6, 7])
  (.seq (.region [⟨some 8, none, .mov (.c (.int .i64 0))⟩,
    ⟨some 9, none, .mov (.c (u64 0#64))⟩,
    ⟨some 10, none, .mov (.c (u64 1#64))⟩]
    [3, 6, 7, 8, 9, 10])
  (.seq (.seq (.region [⟨some 11, none, .mov (.c (.int .i64 0))⟩]
    [3, 6, 7, 8, 9, 10, 11])
  (.block 2
    (.loop [3, 6, 7, 8, 9, 10, 11] RB.law06_HeapSorts_1) [3]))
  (.seq (.region [⟨some 130, none, .mov (.t 3)⟩,
    ⟨some 131, none, .call F.heap_Heap_Pop [.t 130]⟩,
    ⟨some 129, none, .mov (.t 131)⟩,
    ⟨some 132, none, .ext 0 (.t 129)⟩,
    ⟨some 133, none, .ext 1 (.t 129)⟩,
    ⟨some 20, none, .mov (.t 132)⟩,
    ⟨some 21, none, .mov (.t 133)⟩]
    [3, 21])
  (.seq (.region [⟨some 134, none, .mov (.t 21)⟩,
    ⟨some 135, none, .un .not (.t 134)⟩,
    ⟨some 136, none, .mov (.t 135)⟩,
    ⟨some 137, some (136, true), .mov (.t 3)⟩,
    ⟨some 138, some (136, true), .call F.heap_Heap_Len [.t 137]⟩,
    ⟨some 139, some (136, true), .bin .eql (.t 138) (.c (.int .i64 0))⟩,
    ⟨some 140, none, .pick (.t 136) (.t 139) (.c (.bool false))⟩,
    ⟨some 141, none, .mov (.t 140)⟩,
    ⟨some 142, some (141, true), .call F.law06_awake []⟩,
    ⟨some 143, none, .pick (.t 141) (.t 142) (.c (.bool false))⟩,
    ⟨some 2, none, .mov (.t 143)⟩]
    [2])
  .ret))))))))))⟩

def RC.law06_HeapNobody : RFn := ⟨3, [.slot 6],
  (.seq (.region [⟨some 6, none, .mov (.c (.bool false))⟩]
    [0, 1, 2])
  (.seq (.region [⟨some 7, none, .mov (.c (.pointer none))⟩]
    [0, 1, 2, 7])
  (.seq (.region [⟨some 19, none, .build [(.slice none 0 0), (.slice none 0 0), (.slice none 0 0)] []⟩,
    ⟨some 20, none, .box (.t 19)⟩,
    ⟨some 8, none, .mov (.t 20)⟩]
    [0, 1, 2, 7, 8])
  (.seq (.region [⟨some 22, none, .mov (.t 7)⟩,
    ⟨some 23, none, .call F.heap_Heap_Min [.t 22]⟩,
    ⟨some 21, none, .mov (.t 23)⟩,
    ⟨some 24, none, .ext 0 (.t 21)⟩,
    ⟨some 25, none, .ext 1 (.t 21)⟩,
    ⟨some 9, none, .mov (.t 24)⟩,
    ⟨some 10, none, .mov (.t 25)⟩]
    [0, 1, 2, 7, 8, 10])
  (.seq (.region [⟨some 27, none, .mov (.t 8)⟩,
    ⟨some 28, none, .call F.heap_Heap_Pop [.t 27]⟩,
    ⟨some 26, none, .mov (.t 28)⟩,
    ⟨some 29, none, .ext 0 (.t 26)⟩,
    ⟨some 30, none, .ext 1 (.t 26)⟩,
    ⟨some 11, none, .mov (.t 29)⟩,
    ⟨some 12, none, .mov (.t 30)⟩]
    [0, 1, 2, 7, 8, 10, 12])
  (.seq (.region [⟨some 32, none, .mov (.t 7)⟩,
    ⟨some 33, none, .mov (.t 0)⟩,
    ⟨some 34, none, .call F.heap_Heap_Key [.t 32, .t 33]⟩,
    ⟨some 31, none, .mov (.t 34)⟩,
    ⟨some 35, none, .ext 0 (.t 31)⟩,
    ⟨some 36, none, .ext 1 (.t 31)⟩,
    ⟨some 37, none, .ext 2 (.t 31)⟩,
    ⟨some 13, none, .mov (.t 35)⟩,
    ⟨some 14, none, .mov (.t 36)⟩,
    ⟨some 15, none, .mov (.t 37)⟩]
    [0, 1, 2, 7, 8, 10, 12, 15])
  (.seq (.region [⟨some 39, none, .mov (.t 8)⟩,
    ⟨some 40, none, .mov (.t 0)⟩,
    ⟨some 41, none, .call F.heap_Heap_Key [.t 39, .t 40]⟩,
    ⟨some 38, none, .mov (.t 41)⟩,
    ⟨some 42, none, .ext 0 (.t 38)⟩,
    ⟨some 43, none, .ext 1 (.t 38)⟩,
    ⟨some 44, none, .ext 2 (.t 38)⟩,
    ⟨some 16, none, .mov (.t 42)⟩,
    ⟨some 17, none, .mov (.t 43)⟩,
    ⟨some 18, none, .mov (.t 44)⟩]
    [0, 1, 2, 7, 8, 10, 12, 15, 18])
  (.seq (.region [⟨some 45, none, .mov (.t 7)⟩,
    ⟨some 46, none, .mov (.t 0)⟩,
    ⟨some 47, none, .mov (.t 1)⟩,
    ⟨some 48, none, .mov (.t 2)⟩,
    ⟨some 49, none, .call F.heap_Heap_Put [.t 45, .t 46, .t 47, .t 48]⟩,
    ⟨some 50, none, .bin .eql (.t 49) (.c (.int .i64 2))⟩,
    ⟨some 51, none, .mov (.t 50)⟩,
    ⟨some 52, some (51, true), .mov (.t 8)⟩,
    ⟨some 53, some (51, true), .mov (.t 0)⟩,
    ⟨some 54, some (51, true), .mov (.t 1)⟩,
    ⟨some 55, some (51, true), .mov (.t 2)⟩,
    ⟨some 56, some (51, true), .call F.heap_Heap_Put [.t 52, .t 53, .t 54, .t 55]⟩,
    ⟨some 57, some (51, true), .bin .eql (.t 56) (.c (.int .i64 2))⟩,
    ⟨some 58, none, .pick (.t 51) (.t 57) (.c (.bool false))⟩,
    ⟨some 59, none, .mov (.t 58)⟩,
    ⟨some 60, some (59, true), .mov (.t 7)⟩,
    ⟨some 61, some (59, true), .mov (.t 0)⟩,
    ⟨some 62, some (59, true), .call F.heap_Heap_Remove [.t 60, .t 61]⟩,
    ⟨some 63, some (59, true), .un .not (.t 62)⟩,
    ⟨some 64, none, .pick (.t 59) (.t 63) (.c (.bool false))⟩,
    ⟨some 65, none, .mov (.t 64)⟩,
    ⟨some 66, some (65, true), .mov (.t 8)⟩,
    ⟨some 67, some (65, true), .mov (.t 0)⟩,
    ⟨some 68, some (65, true), .call F.heap_Heap_Remove [.t 66, .t 67]⟩,
    ⟨some 69, some (65, true), .un .not (.t 68)⟩,
    ⟨some 70, none, .pick (.t 65) (.t 69) (.c (.bool false))⟩,
    ⟨some 71, none, .mov (.t 70)⟩,
    ⟨some 72, some (71, true), .mov (.t 10)⟩,
    ⟨some 73, some (71, true), .un .not (.t 72)⟩,
    ⟨some 74, none, .pick (.t 71) (.t 73) (.c (.bool false))⟩,
    ⟨some 75, none, .mov (.t 74)⟩,
    ⟨some 76, some (75, true), .mov (.t 12)⟩,
    ⟨some 77, some (75, true), .un .not (.t 76)⟩,
    ⟨some 78, none, .pick (.t 75) (.t 77) (.c (.bool false))⟩,
    ⟨some 79, none, .mov (.t 78)⟩,
    ⟨some 80, some (79, true), .mov (.t 15)⟩,
    ⟨some 81, some (79, true), .un .not (.t 80)⟩,
    ⟨some 82, none, .pick (.t 79) (.t 81) (.c (.bool false))⟩,
    ⟨some 83, none, .mov (.t 82)⟩,
    ⟨some 84, some (83, true), .mov (.t 18)⟩,
    ⟨some 85, some (83, true), .un .not (.t 84)⟩,
    ⟨some 86, none, .pick (.t 83) (.t 85) (.c (.bool false))⟩,
    ⟨some 87, none, .mov (.t 86)⟩,
    ⟨some 88, some (87, true), .mov (.t 7)⟩,
    ⟨some 89, some (87, true), .call F.heap_Heap_Len [.t 88]⟩,
    ⟨some 90, some (87, true), .bin .eql (.t 89) (.c (.int .i64 0))⟩,
    ⟨some 91, none, .pick (.t 87) (.t 90) (.c (.bool false))⟩,
    ⟨some 92, none, .mov (.t 91)⟩,
    ⟨some 93, some (92, true), .mov (.t 8)⟩,
    ⟨some 94, some (92, true), .call F.heap_Heap_Len [.t 93]⟩,
    ⟨some 95, some (92, true), .bin .eql (.t 94) (.c (.int .i64 0))⟩,
    ⟨some 96, none, .pick (.t 92) (.t 95) (.c (.bool false))⟩,
    ⟨some 97, none, .mov (.t 96)⟩,
    ⟨some 98, some (97, true), .call F.law06_awake []⟩,
    ⟨some 99, none, .pick (.t 97) (.t 98) (.c (.bool false))⟩,
    ⟨some 6, none, .mov (.t 99)⟩]
    [6])
  .ret))))))))⟩

def RC.heap_New : RFn := ⟨1, [.slot 2, .slot 3],
  (.seq (.region [⟨some 2, none, .mov (.c (.pointer none))⟩,
    ⟨some 3, none, .mov (.c (.int .i64 0))⟩]
    [0])
  (.seq (.seq (.region [⟨some 4, none, .mov (.t 0)⟩,
    ⟨some 5, none, .bin .lss (.t 4) (.c (.int .i64 1))⟩,
    ⟨some 6, none, .mov (.t 5)⟩,
    ⟨some 7, some (6, false), .mov (.t 0)⟩,
    ⟨some 8, some (6, false), .bin .gtr (.t 7) (.c (.int .i64 1024))⟩,
    ⟨some 9, none, .pick (.t 6) (.c (.bool true)) (.t 8)⟩]
    [0, 9])
  (.cond (.t 9)
    (.seq (.region [⟨some 2, none, .mov (.c (.pointer none))⟩,
      ⟨some 3, none, .mov (.c (.int .i64 1))⟩]
      [2, 3])
    .ret)
    .skip))
  (.seq (.drawn [⟨some 10, none, .mov (.t 0)⟩,
    ⟨some 11, none, .mkslice 2 16 [(u64 0#64), (u64 0#64)] (.t 10) (.t 10)⟩,
    ⟨some 12, none, .mov (.t 0)⟩,
    ⟨some 13, none, .mkslice 1 8 [(.int .i64 0)] (.t 12) (.t 12)⟩,
    ⟨some 14, none, .build [(.slice none 0 0), (.slice none 0 0), (.slice none 0 0)] [(0, 1, .t 11), (1, 1, .t 13)]⟩,
    ⟨some 15, none, .box (.t 14)⟩,
    ⟨some 2, none, .mov (.t 15)⟩,
    ⟨some 3, none, .mov (.c (.int .i64 0))⟩]
    [[], [0, 0], [], [2, 2], [1, 3], [4], [5, 0, 1, 2, 3, 4, 5], [6, 0, 1, 2, 3, 4, 5, 6]]
    [(0, []), (2, []), (1, []), (3, []), (4, []), (5, []), (6, []), (7, [])]
    [[], [0], [], [2], [0, 1, 2, 3], [0, 1, 2, 3, 4], [0, 1, 2, 3, 4, 5], [0, 1, 2, 3, 4, 5, 6]]
    [2, 3])
  .ret)))⟩

def RC.law06_awake : RFn := ⟨0, [.slot 0],
  (.seq (.region [⟨some 0, none, .mov (.c (.bool false))⟩]
    [])
  (.seq (.region [⟨some 13, none, .call F.heap_New [.c (.int .i64 4)]⟩,
    ⟨some 12, none, .mov (.t 13)⟩,
    ⟨some 14, none, .ext 0 (.t 12)⟩,
    ⟨some 15, none, .ext 1 (.t 12)⟩,
    ⟨some 1, none, .mov (.t 14)⟩,
    ⟨some 2, none, .mov (.t 15)⟩]
    [1, 2])
  (.seq (.seq (.region [⟨some 16, none, .mov (.t 2)⟩,
    ⟨some 17, none, .bin .neq (.t 16) (.c (.int .i64 0))⟩,
    ⟨some 18, none, .mov (.t 17)⟩,
    ⟨some 19, some (18, false), .mov (.t 1)⟩,
    ⟨some 20, some (18, false), .eq false .ptr (.t 19) (.c (.pointer none))⟩,
    ⟨some 21, none, .pick (.t 18) (.c (.bool true)) (.t 20)⟩]
    [1, 21])
  (.cond (.t 21)
    (.seq (.region [⟨some 0, none, .mov (.c (.bool false))⟩]
      [0])
    .ret)
    .skip))
  (.seq (.region [⟨some 22, none, .mov (.t 1)⟩,
    ⟨some 23, none, .call F.heap_Heap_Put [.t 22, .c (.int .i64 3), .c (u64 1#64), .c (u64 2#64)]⟩,
    ⟨some 24, none, .mov (.t 1)⟩,
    ⟨some 25, none, .call F.heap_Heap_Put [.t 24, .c (.int .i64 1), .c (u64 2#64), .c (u64 4#64)]⟩,
    ⟨some 26, none, .mov (.t 1)⟩,
    ⟨some 27, none, .call F.heap_Heap_Put [.t 26, .c (.int .i64 2), .c (u64 3#64), .c (u64 4#64)]⟩,
    ⟨some 3, none, .mov (.t 23)⟩,
    ⟨some 4, none, .mov (.t 25)⟩,
    ⟨some 5, none, .mov (.t 27)⟩]
    [1, 3, 4, 5])
  (.seq (.region [⟨some 29, none, .mov (.t 1)⟩,
    ⟨some 30, none, .call F.heap_Heap_Pop [.t 29]⟩,
    ⟨some 28, none, .mov (.t 30)⟩,
    ⟨some 31, none, .ext 0 (.t 28)⟩,
    ⟨some 32, none, .ext 1 (.t 28)⟩,
    ⟨some 6, none, .mov (.t 31)⟩,
    ⟨some 7, none, .mov (.t 32)⟩]
    [1, 3, 4, 5, 6])
  (.seq (.region [⟨some 34, none, .mov (.t 1)⟩,
    ⟨some 35, none, .call F.heap_Heap_Pop [.t 34]⟩,
    ⟨some 33, none, .mov (.t 35)⟩,
    ⟨some 36, none, .ext 0 (.t 33)⟩,
    ⟨some 37, none, .ext 1 (.t 33)⟩,
    ⟨some 8, none, .mov (.t 36)⟩,
    ⟨some 9, none, .mov (.t 37)⟩]
    [1, 3, 4, 5, 6, 8])
  (.seq (.region [⟨some 39, none, .mov (.t 1)⟩,
    ⟨some 40, none, .call F.heap_Heap_Pop [.t 39]⟩,
    ⟨some 38, none, .mov (.t 40)⟩,
    ⟨some 41, none, .ext 0 (.t 38)⟩,
    ⟨some 42, none, .ext 1 (.t 38)⟩,
    ⟨some 10, none, .mov (.t 41)⟩,
    ⟨some 11, none, .mov (.t 42)⟩]
    [1, 3, 4, 5, 6, 8, 10, 11])
  (.seq (.region [⟨some 43, none, .mov (.t 3)⟩,
    ⟨some 44, none, .bin .eql (.t 43) (.c (.int .i64 0))⟩,
    ⟨some 45, none, .mov (.t 44)⟩,
    ⟨some 46, some (45, true), .mov (.t 4)⟩,
    ⟨some 47, some (45, true), .bin .eql (.t 46) (.c (.int .i64 0))⟩,
    ⟨some 48, none, .pick (.t 45) (.t 47) (.c (.bool false))⟩,
    ⟨some 49, none, .mov (.t 48)⟩,
    ⟨some 50, some (49, true), .mov (.t 5)⟩,
    ⟨some 51, some (49, true), .bin .eql (.t 50) (.c (.int .i64 0))⟩,
    ⟨some 52, none, .pick (.t 49) (.t 51) (.c (.bool false))⟩,
    ⟨some 53, none, .mov (.t 52)⟩,
    ⟨some 54, some (53, true), .mov (.t 6)⟩,
    ⟨some 55, some (53, true), .bin .eql (.t 54) (.c (.int .i64 1))⟩,
    ⟨some 56, none, .pick (.t 53) (.t 55) (.c (.bool false))⟩,
    ⟨some 57, none, .mov (.t 56)⟩,
    ⟨some 58, some (57, true), .mov (.t 8)⟩,
    ⟨some 59, some (57, true), .bin .eql (.t 58) (.c (.int .i64 3))⟩,
    ⟨some 60, none, .pick (.t 57) (.t 59) (.c (.bool false))⟩,
    ⟨some 61, none, .mov (.t 60)⟩,
    ⟨some 62, some (61, true), .mov (.t 10)⟩,
    ⟨some 63, some (61, true), .bin .eql (.t 62) (.c (.int .i64 2))⟩,
    ⟨some 64, none, .pick (.t 61) (.t 63) (.c (.bool false))⟩,
    ⟨some 65, none, .mov (.t 64)⟩,
    ⟨some 66, some (65, true), .mov (.t 11)⟩,
    ⟨some 67, none, .pick (.t 65) (.t 66) (.c (.bool false))⟩,
    ⟨some 68, none, .mov (.t 67)⟩,
    ⟨some 69, some (68, true), .mov (.t 1)⟩,
    ⟨some 70, some (68, true), .call F.heap_Heap_Len [.t 69]⟩,
    ⟨some 71, some (68, true), .bin .eql (.t 70) (.c (.int .i64 0))⟩,
    ⟨some 72, none, .pick (.t 68) (.t 71) (.c (.bool false))⟩,
    ⟨some 0, none, .mov (.t 72)⟩]
    [0])
  .ret))))))))⟩

def RC.ref06_Put : RFn := ⟨2, [.slot 4],
  (.seq (.region [⟨some 3, none, .box (.t 1)⟩,
    ⟨some 4, none, .mov (.c (.slice none 0 0))⟩]
    [0, 3])
  (.seq (.region [⟨some 8, none, .mov (.t 0)⟩,
    ⟨some 9, none, .fieldAddr 0 (.t 3)⟩,
    ⟨some 10, none, .load false 1 (.t 9)⟩,
    ⟨some 11, none, .call F.ref06_Remove [.t 8, .t 10]⟩,
    ⟨some 7, none, .mov (.t 11)⟩,
    ⟨some 12, none, .ext 0 (.t 7)⟩,
    ⟨some 13, none, .ext 1 (.t 7)⟩,
    ⟨some 5, none, .mov (.t 12)⟩,
    ⟨some 6, none, .mov (.t 13)⟩]
    [3, 5])
  (.seq (.region [⟨some 14, none, .mov (.t 5)⟩,
    ⟨some 15, none, .load true 3 (.t 3)⟩,
    ⟨some 16, none, .bslice [(.int .i64 0), (u64 0#64), (u64 0#64)] [(0, 3, .t 15)] 1 3⟩,
    ⟨some 17, none, .app 3 24 (.t 14) (.t 16)⟩,
    ⟨some 4, none, .mov (.t 17)⟩]
    [4])
  .ret)))⟩

def RC.heap_Heap_Put : RFn := ⟨4, [.slot 8],
  (.seq (.region [⟨some 8, none, .mov (.c (.int .i64 0))⟩]
    [0, 1, 2, 3])
  (.seq (.block 0
    (.seq (.region [⟨some 11, none, .mov (.t 0)⟩,
      ⟨some 12, none, .eq false .ptr (.t 11) (.c (.pointer none))⟩,
      ⟨some 13, none, .mov (.t 12)⟩,
      ⟨some 14, some (13, false), .mov (.t 0)⟩,
      ⟨some 15, some (13, false), .nilchk (.t 14)⟩,
      ⟨some 16, some (13, false), .fieldAddr 0 (.t 15)⟩,
      ⟨some 17, some (13, false), .load false 1 (.t 16)⟩,
      ⟨some 18, some (13, false), .len (.t 17)⟩,
      ⟨some 19, some (13, false), .bin .eql (.t 18) (.c (.int .i64 0))⟩,
      ⟨some 20, none, .pick (.t 13) (.c (.bool true)) (.t 19)⟩,
      ⟨some 10, none, .mov (.t 20)⟩]
      [0, 1, 2, 3, 10])
    (.cond (.t 10)
      (.seq (.region [⟨some 8, none, .mov (.c (.int .i64 2))⟩]
        [8])
      .ret)
      (.seq (.region [⟨some 22, none, .mov (.t 1)⟩,
        ⟨some 23, none, .bin .lss (.t 22) (.c (.int .i64 0))⟩,
        ⟨some 24, none, .mov (.t 23)⟩,
        ⟨some 25, some (24, false), .mov (.t 1)⟩,
        ⟨some 26, some (24, false), .mov (.t 0)⟩,
        ⟨some 27, some (24, false), .nilchk (.t 26)⟩,
        ⟨some 28, some (24, false), .fieldAddr 0 (.t 27)⟩,
        ⟨some 29, some (24, false), .load false 1 (.t 28)⟩,
        ⟨some 30, some (24, false), .len (.t 29)⟩,
        ⟨some 31, some (24, false), .bin .geq (.t 25) (.t 30)⟩,
        ⟨some 32, none, .pick (.t 24) (.c (.bool true)) (.t 31)⟩,
        ⟨some 33, none, .mov (.t 32)⟩,
        ⟨some 34, some (33, false), .mov (.t 3)⟩,
        ⟨some 35, some (33, false), .bin .eql (.t 34) (.c (u64 0#64))⟩,
        ⟨some 36, none, .pick (.t 33) (.c (.bool true)) (.t 35)⟩,
        ⟨some 21, none, .mov (.t 36)⟩]
        [0, 1, 2, 3, 21])
      (.cond (.t 21)
        (.seq (.region [⟨some 8, none, .mov (.c (.int .i64 1))⟩]
          [8])
        .ret)
        .skip)))) [0, 1, 2, 3])
  (.seq (.region [⟨some 37, none, .mov (.t 0)⟩,
    ⟨some 38, none, .nilchk (.t 37)⟩,
    ⟨some 39, none, .fieldAddr 0 (.t 38)⟩,
    ⟨some 40, none, .load false 1 (.t 39)⟩,
    ⟨some 41, none, .mov (.t 1)⟩,
    ⟨some 42, none, .mov (.t 2)⟩,
    ⟨some 43, none, .mov (.t 3)⟩,
    ⟨some 44, none, .build [(u64 0#64), (u64 0#64)] [(0, 1, .t 42), (1, 1, .t 43)]⟩,
    ⟨some 45, none, .idxS 2 (.t 40) (.t 41)⟩,
    ⟨none, none, .store 2 (.t 45) (.t 44)⟩]
    [0, 1])
  (.seq (.seq (.region [⟨some 46, none, .mov (.t 0)⟩,
    ⟨some 47, none, .nilchk (.t 46)⟩,
    ⟨some 48, none, .fieldAddr 1 (.t 47)⟩,
    ⟨some 49, none, .load false 1 (.t 48)⟩,
    ⟨some 50, none, .mov (.t 1)⟩,
    ⟨some 51, none, .idxS 1 (.t 49) (.t 50)⟩,
    ⟨some 52, none, .load false 1 (.t 51)⟩,
    ⟨some 53, none, .bin .eql (.t 52) (.c (.int .i64 0))⟩]
    [0, 1, 53])
  (.cond (.t 53)
    (.seq (.region [⟨some 54, none, .mov (.t 0)⟩,
      ⟨some 55, none, .mov (.t 0)⟩,
      ⟨some 56, none, .nilchk (.t 55)⟩,
      ⟨some 57, none, .fieldAddr 2 (.t 56)⟩,
      ⟨some 58, none, .load false 1 (.t 57)⟩,
      ⟨some 59, none, .mov (.t 1)⟩,
      ⟨some 60, none, .bslice [(.int .i64 0)] [(0, 1, .t 59)] 1 1⟩,
      ⟨some 61, none, .app 1 8 (.t 58) (.t 60)⟩,
      ⟨some 62, none, .nilchk (.t 54)⟩,
      ⟨some 63, none, .fieldAddr 2 (.t 62)⟩,
      ⟨none, none, .store 1 (.t 63) (.t 61)⟩]
      [0, 1])
    (.drawn [⟨some 64, none, .mov (.t 0)⟩,
      ⟨some 65, none, .nilchk (.t 64)⟩,
      ⟨some 66, none, .fieldAddr 1 (.t 65)⟩,
      ⟨some 67, none, .load false 1 (.t 66)⟩,
      ⟨some 68, none, .mov (.t 1)⟩,
      ⟨some 69, none, .mov (.t 0)⟩,
      ⟨some 70, none, .nilchk (.t 69)⟩,
      ⟨some 71, none, .fieldAddr 2 (.t 70)⟩,
      ⟨some 72, none, .load false 1 (.t 71)⟩,
      ⟨some 73, none, .len (.t 72)⟩,
      ⟨some 74, none, .idxS 1 (.t 67) (.t 68)⟩,
      ⟨none, none, .store 1 (.t 74) (.t 73)⟩]
      [[], [0], [1], [2], [], [], [5], [6], [7], [8], [3, 4, 0, 1, 2, 3, 4, 5, 6, 7, 8, 9], [10, 9, 0, 1, 2, 3, 4, 5, 6, 7, 8, 9]]
      [(0, []), (1, []), (2, []), (4, []), (5, []), (6, []), (7, []), (3, []), (8, []), (9, []), (10, []), (11, [])]
      [[], [0], [0, 1], [0, 1, 2], [], [], [5], [5, 6], [5, 6, 7], [5, 6, 7, 8], [0, 1, 2, 3, 4, 5, 6, 7, 8, 9], [0, 1, 2, 3, 4, 5, 6, 7, 8, 9, 10]]
      [0, 1]))
    .skip))
  (.seq (.region [⟨some 75, none, .mov (.t 0)⟩,
    ⟨some 76, none, .nilchk (.t 75)⟩,
    ⟨some 77, none, .fieldAddr 1 (.t 76)⟩,
    ⟨some 78, none, .load false 1 (.t 77)⟩,
    ⟨some 79, none, .mov (.t 1)⟩,
    ⟨some 80, none, .idxS 1 (.t 78) (.t 79)⟩,
    ⟨some 81, none, .load false 1 (.t 80)⟩,
    ⟨some 82, none, .bin .sub (.t 81) (.c (.int .i64 1))⟩,
    ⟨some 9, none, .mov (.t 82)⟩]
    [0, 1, 9])
  (.seq (.region [⟨some 83, none, .mov (.t 0)⟩,
    ⟨some 84, none, .mov (.t 9)⟩,
    ⟨some 85, none, .call F.heap_Heap_up [.t 83, .t 84]⟩]
    [0, 1])
  (.seq (.region [⟨some 86, none, .mov (.t 0)⟩,
    ⟨some 87, none, .mov (.t 0)⟩,
    ⟨some 88, none, .nilchk (.t 87)⟩,
    ⟨some 89, none, .fieldAddr 1 (.t 88)⟩,
    ⟨some 90, none, .load false 1 (.t 89)⟩,
    ⟨some 91, none, .mov (.t 1)⟩,
    ⟨some 92, none, .idxS 1 (.t 90) (.t 91)⟩,
    ⟨some 93, none, .load false 1 (.t 92)⟩,
    ⟨some 94, none, .bin .sub (.t 93) (.c (.int .i64 1))⟩,
    ⟨some 95, none, .call F.heap_Heap_down [.t 86, .t 94]⟩]
    [])
  (.seq (.region [⟨some 8, none, .mov (.c (.int .i64 0))⟩]
    [8])
  .ret))))))))⟩

def RB.ref06_Remove_1 : RCode :=
  (.seq (.seq (.region [⟨some 9, none, .mov (.t 7)⟩,
    ⟨some 10, none, .mov (.t 0)⟩,
    ⟨some 11, none, .len (.t 10)⟩,
    ⟨some 12, none, .bin .lss (.t 9) (.t 11)⟩]
    [0, 1, 6, 7, 12])
  (.cond (.t 12)
    .skip
    (.exit 0)))
  (.seq (.block 1
    (.seq (.region [⟨some 15, none, .mov (.t 0)⟩,
      ⟨some 16, none, .mov (.t 7)⟩,
      ⟨some 17, none, .idxS 3 (.t 15) (.t 16)⟩,
      ⟨some 18, none, .fieldAddr 0 (.t 17)⟩,
      ⟨some 19, none, .load false 1 (.t 18)⟩,
      ⟨some 20, none, .mov (.t 1)⟩,
      ⟨some 21, none, .bin .neq (.t 19) (.t 20)⟩]
      [0, 1, 6, 7, 21])
    (.cond (.t 21)
      (.region [⟨some 22, none, .mov (.t 6)⟩,
        ⟨some 23, none, .mov (.t 0)⟩,
        ⟨some 24, none, .mov (.t 7)⟩,
        ⟨some 25, none, .idxS 3 (.t 23) (.t 24)⟩,
        ⟨some 26, none, .load true 3 (.t 25)⟩,
        ⟨some 27, none, .bslice [(.int .i64 0), (u64 0#64), (u64 0#64)] [(0, 3, .t 26)] 1 3⟩,
        ⟨some 28, none, .app 3 24 (.t 22) (.t 27)⟩,
        ⟨some 6, none, .mov (.t 28)⟩]
        [0, 1, 6, 7])
      .skip)) [0, 1, 6, 7])
  (.region [⟨some 13, none, .mov (.t 7)⟩,
    ⟨some 14, none, .bin .add (.t 13) (.c (.int .i64 1))⟩,
    ⟨some 7, none, .mov (.t 14)⟩]
    [0, 1, 6, 7])))
def RC.ref06_Remove : RFn := ⟨2, [.slot 4, .slot 5],
  (.seq (.region [⟨some 4, none, .mov (.c (.slice none 0 0))⟩,
    ⟨some 5, none, .mov (.c (.bool false))⟩]
    [0, 1])
  (.seq (.region [⟨some 8, none, .bslice [] [] 0 3⟩,
    ⟨some 6, none, .mov (.t 8)⟩]
    [0, 1, 6])
  (.seq (.seq (.region [⟨some 7, none, .mov (.c (.int .i64 0))⟩]
    [0, 1, 6, 7])
  (.block 0
    (.loop [0, 1, 6, 7] RB.ref06_Remove_1) [0, 6]))
  (.seq (.region [⟨some 29, none, .mov (.t 6)⟩,
    ⟨some 30, none, .mov (.t 6)⟩,
    ⟨some 31, none, .len (.t 30)⟩,
    ⟨some 32, none, .mov (.t 0)⟩,
    ⟨some 33, none, .len (.t 32)⟩,
    ⟨some 34, none, .bin .lss (.t 31) (.t 33)⟩,
    ⟨some 4, none, .mov (.t 29)⟩,
    ⟨some 5, none, .mov (.t 34)⟩]
    [4, 5])
  .ret))))⟩

def RC.heap_Heap_Remove : RFn := ⟨2, [.slot 4],
  (.seq (.region [⟨some 4, none, .mov (.c (.bool false))⟩]
    [0, 1])
  (.seq (.seq (.region [⟨some 8, none, .mov (.t 0)⟩,
    ⟨some 9, none, .mov (.t 1)⟩,
    ⟨some 10, none, .call F.heap_Heap_has [.t 8, .t 9]⟩,
    ⟨some 11, none, .un .not (.t 10)⟩]
    [0, 1, 11])
  (.cond (.t 11)
    (.seq (.region [⟨some 4, none, .mov (.c (.bool false))⟩]
      [4])
    .ret)
    .skip))
  (.seq (.drawn [⟨some 12, none, .mov (.t 0)⟩,
    ⟨some 13, none, .nilchk (.t 12)⟩,
    ⟨some 14, none, .fieldAddr 1 (.t 13)⟩,
    ⟨some 15, none, .load false 1 (.t 14)⟩,
    ⟨some 16, none, .mov (.t 1)⟩,
    ⟨some 17, none, .idxS 1 (.t 15) (.t 16)⟩,
    ⟨some 18, none, .load false 1 (.t 17)⟩,
    ⟨some 19, none, .bin .sub (.t 18) (.c (.int .i64 1))⟩,
    ⟨some 20, none, .mov (.t 0)⟩,
    ⟨some 21, none, .nilchk (.t 20)⟩,
    ⟨some 22, none, .fieldAddr 2 (.t 21)⟩,
    ⟨some 23, none, .load false 1 (.t 22)⟩,
    ⟨some 24, none, .len (.t 23)⟩,
    ⟨some 25, none, .bin .sub (.t 24) (.c (.int .i64 1))⟩,
    ⟨some 5, none, .mov (.t 19)⟩,
    ⟨some 6, none, .mov (.t 25)⟩]
    [[], [0], [1], [2], [], [3, 4], [5], [6], [], [8], [9], [10], [11], [12], [7, 0, 1, 2, 3, 4, 5, 6, 7], [13, 14, 0, 1, 2, 3, 4, 5, 6, 7, 8, 9, 10, 11, 12, 13, 14]]
    [(0, []), (1, []), (2, []), (4, []), (8, []), (9, []), (10, []), (3, []), (5, []), (6, []), (7, []), (14, []), (11, []), (12, []), (13, []), (15, [])]
    [[], [0], [0, 1], [0, 1, 2], [], [0, 1, 2, 3, 4], [0, 1, 2, 3, 4, 5], [0, 1, 2, 3, 4, 5, 6], [], [8], [8, 9], [8, 9, 10], [8, 9, 10, 11], [8, 9, 10, 11, 12], [0, 1, 2, 3, 4, 5, 6, 7], [0, 1, 2, 3, 4, 5, 6, 7, 8, 9, 10, 11, 12, 13, 14]]
    [0, 1, 5, 6])
  (.seq (.region [⟨some 26, none, .mov (.t 0)⟩,
    ⟨some 27, none, .mov (.t 5)⟩,
    ⟨some 28, none, .mov (.t 6)⟩,
    ⟨some 29, none, .call F.heap_Heap_swap [.t 26, .t 27, .t 28]⟩]
    [0, 1, 5, 6])
  (.seq (.region [⟨some 30, none, .mov (.t 0)⟩,
    ⟨some 31, none, .mov (.t 0)⟩,
    ⟨some 32, none, .nilchk (.t 31)⟩,
    ⟨some 33, none, .fieldAddr 2 (.t 32)⟩,
    ⟨some 34, none, .load false 1 (.t 33)⟩,
    ⟨some 35, none, .mov (.t 6)⟩,
    ⟨some 36, none, .sub 1 (.t 34) none (some (.t 35)) none⟩,
    ⟨some 37, none, .nilchk (.t 30)⟩,
    ⟨some 38, none, .fieldAddr 2 (.t 37)⟩,
    ⟨none, none, .store 1 (.t 38) (.t 36)⟩]
    [0, 1, 5, 6])
  (.seq (.region [⟨some 39, none, .mov (.t 0)⟩,
    ⟨some 40, none, .nilchk (.t 39)⟩,
    ⟨some 41, none, .fieldAddr 1 (.t 40)⟩,
    ⟨some 42, none, .load false 1 (.t 41)⟩,
    ⟨some 43, none, .mov (.t 1)⟩,
    ⟨some 44, none, .idxS 1 (.t 42) (.t 43)⟩,
    ⟨none, none, .store 1 (.t 44) (.c (.int .i64 0))⟩]
    [0, 5, 6])
  (.seq (.seq (.region [⟨some 45, none, .mov (.t 5)⟩,
    ⟨some 46, none, .mov (.t 6)⟩,
    ⟨some 47, none, .bin .lss (.t 45) (.t 46)⟩]
    [0, 5, 47])
  (.cond (.t 47)
    (.seq (.region [⟨some 48, none, .mov (.t 0)⟩,
      ⟨some 49, none, .nilchk (.t 48)⟩,
      ⟨some 50, none, .fieldAddr 2 (.t 49)⟩,
      ⟨some 51, none, .load false 1 (.t 50)⟩,
      ⟨some 52, none, .mov (.t 5)⟩,
      ⟨some 53, none, .idxS 1 (.t 51) (.t 52)⟩,
      ⟨some 54, none, .load false 1 (.t 53)⟩,
      ⟨some 7, none, .mov (.t 54)⟩]
      [0, 5, 7])
    (.seq (.region [⟨some 55, none, .mov (.t 0)⟩,
      ⟨some 56, none, .mov (.t 5)⟩,
      ⟨some 57, none, .call F.heap_Heap_up [.t 55, .t 56]⟩]
      [0, 7])
    (.region [⟨some 58, none, .mov (.t 0)⟩,
      ⟨some 59, none, .mov (.t 0)⟩,
      ⟨some 60, none, .nilchk (.t 59)⟩,
      ⟨some 61, none, .fieldAddr 1 (.t 60)⟩,
      ⟨some 62, none, .load false 1 (.t 61)⟩,
      ⟨some 63, none, .mov (.t 7)⟩,
      ⟨some 64, none, .idxS 1 (.t 62) (.t 63)⟩,
      ⟨some 65, none, .load false 1 (.t 64)⟩,
      ⟨some 66, none, .bin .sub (.t 65) (.c (.int .i64 1))⟩,
      ⟨some 67, none, .call F.heap_Heap_down [.t 58, .t 66]⟩]
      [])))
    .skip))
  (.seq (.region [⟨some 4, none, .mov (.c (.bool true))⟩]
    [4])
  .ret))))))))⟩

def RB.ref06_Min_1 : RCode :=
  (.seq (.seq (.region [⟨some 12, none, .mov (.t 5)⟩,
    ⟨some 13, none, .mov (.t 0)⟩,
    ⟨some 14, none, .len (.t 13)⟩,
    ⟨some 15, none, .bin .lss (.t 12) (.t 14)⟩]
    [0, 4, 5, 15])
  (.cond (.t 15)
    .skip
    (.exit 0)))
  (.seq (.block 1
    (.seq (.drawn [⟨some 18, none, .mov (.t 0)⟩,
      ⟨some 19, none, .mov (.t 5)⟩,
      ⟨some 20, none, .idxS 3 (.t 18) (.t 19)⟩,
      ⟨some 21, none, .load true 3 (.t 20)⟩,
      ⟨some 22, none, .load true 3 (.t 4)⟩,
      ⟨some 23, none, .call F.ref06_ahead [.t 21, .t 22]⟩]
      [[], [], [0, 1], [2], [], [3, 4]]
      [(0, []), (1, []), (2, []), (3, []), (4, []), (5, [])]
      [[], [], [0, 1], [0, 1, 2], [], [0, 1, 2, 3, 4]]
      [0, 4, 5, 23])
    (.cond (.t 23)
      (.region [⟨some 24, none, .mov (.t 0)⟩,
        ⟨some 25, none, .mov (.t 5)⟩,
        ⟨some 26, none, .idxS 3 (.t 24) (.t 25)⟩,
        ⟨some 27, none, .load true 3 (.t 26)⟩,
        ⟨none, none, .store 3 (.t 4) (.t 27)⟩]
        [0, 4, 5])
      .skip)) [0, 4, 5])
  (.region [⟨some 16, none, .mov (.t 5)⟩,
    ⟨some 17, none, .bin .add (.t 16) (.c (.int .i64 1))⟩,
    ⟨some 5, none, .mov (.t 17)⟩]
    [0, 4, 5])))
def RC.ref06_Min : RFn := ⟨1, [.slot 2, .slot 3],
  (.seq (.region [⟨some 2, none, .mov (.c (.int .i64 0))⟩,
    ⟨some 3, none, .mov (.c (.bool false))⟩]
    [0])
  (.seq (.seq (.region [⟨some 6, none, .mov (.t 0)⟩,
    ⟨some 7, none, .len (.t 6)⟩,
    ⟨some 8, none, .bin .eql (.t 7) (.c (.int .i64 0))⟩]
    [0, 8])
  (.cond (.t 8)
    (.seq (.region [⟨some 2, none, .mov (.c (.int .i64 0))⟩,
      ⟨some 3, none, .mov (.c (.bool false))⟩]
      [2, 3])
    .ret)
    .skip))
  (.seq (.region [⟨some 9, none, .mov (.t 0)⟩,
    ⟨some 10, none, .idxS 3 (.t 9) (.c (.int .i64 0))⟩,
    ⟨some 11, none, .load true 3 (.t 10)⟩,
    ⟨some 4, none, .alloc [(.int .i64 0), (u64 0#64), (u64 0#64)]⟩,
    ⟨none, none, .store 3 (.t 4) (.t 11)⟩]
    [0, 4])
  (.seq (.seq (.region [⟨some 5, none, .mov (.c (.int .i64 1))⟩]
    [0, 4, 5])
  (.block 0
    (.loop [0, 4, 5] RB.ref06_Min_1) [4]))
  (.seq (.region [⟨some 28, none, .fieldAddr 0 (.t 4)⟩,
    ⟨some 29, none, .load false 1 (.t 28)⟩,
    ⟨some 2, none, .mov (.t 29)⟩,
    ⟨some 3, none, .mov (.c (.bool true))⟩]
    [2, 3])
  .ret)))))⟩

def RC.heap_Heap_Pop : RFn := ⟨1, [.slot 2, .slot 3],
  (.seq (.region [⟨some 2, none, .mov (.c (.int .i64 0))⟩,
    ⟨some 3, none, .mov (.c (.bool false))⟩]
    [0])
  (.seq (.region [⟨some 7, none, .mov (.t 0)⟩,
    ⟨some 8, none, .call F.heap_Heap_Min [.t 7]⟩,
    ⟨some 6, none, .mov (.t 8)⟩,
    ⟨some 9, none, .ext 0 (.t 6)⟩,
    ⟨some 10, none, .ext 1 (.t 6)⟩,
    ⟨some 4, none, .mov (.t 9)⟩,
    ⟨some 5, none, .mov (.t 10)⟩]
    [0, 4, 5])
  (.seq (.seq (.region [⟨some 11, none, .mov (.t 5)⟩]
    [0, 4, 5, 11])
  (.cond (.t 11)
    (.region [⟨some 12, none, .mov (.t 0)⟩,
      ⟨some 13, none, .mov (.t 4)⟩,
      ⟨some 14, none, .call F.heap_Heap_Remove [.t 12, .t 13]⟩]
      [4, 5])
    .skip))
  (.seq (.region [⟨some 15, none, .mov (.t 4)⟩,
    ⟨some 16, none, .mov (.t 5)⟩,
    ⟨some 2, none, .mov (.t 15)⟩,
    ⟨some 3, none, .mov (.t 16)⟩]
    [2, 3])
  .ret))))⟩

def RC.heap_Heap_Min : RFn := ⟨1, [.slot 2, .slot 3],
  (.seq (.region [⟨some 2, none, .mov (.c (.int .i64 0))⟩,
    ⟨some 3, none, .mov (.c (.bool false))⟩]
    [0])
  (.seq (.seq (.region [⟨some 4, none, .mov (.t 0)⟩,
    ⟨some 5, none, .call F.heap_Heap_Len [.t 4]⟩,
    ⟨some 6, none, .bin .eql (.t 5) (.c (.int .i64 0))⟩]
    [0, 6])
  (.cond (.t 6)
    (.seq (.region [⟨some 2, none, .mov (.c (.int .i64 0))⟩,
      ⟨some 3, none, .mov (.c (.bool false))⟩]
      [2, 3])
    .ret)
    .skip))
  (.seq (.region [⟨some 7, none, .mov (.t 0)⟩,
    ⟨some 8, none, .nilchk (.t 7)⟩,
    ⟨some 9, none, .fieldAddr 2 (.t 8)⟩,
    ⟨some 10, none, .load false 1 (.t 9)⟩,
    ⟨some 11, none, .idxS 1 (.t 10) (.c (.int .i64 0))⟩,
    ⟨some 12, none, .load false 1 (.t 11)⟩,
    ⟨some 2, none, .mov (.t 12)⟩,
    ⟨some 3, none, .mov (.c (.bool true))⟩]
    [2, 3])
  .ret)))⟩

def RC.heap_Heap_Key : RFn := ⟨2, [.slot 4, .slot 5, .slot 6],
  (.seq (.region [⟨some 4, none, .mov (.c (u64 0#64))⟩,
    ⟨some 5, none, .mov (.c (u64 0#64))⟩,
    ⟨some 6, none, .mov (.c (.bool false))⟩]
    [0, 1])
  (.seq (.seq (.region [⟨some 7, none, .mov (.t 0)⟩,
    ⟨some 8, none, .mov (.t 1)⟩,
    ⟨some 9, none, .call F.heap_Heap_has [.t 7, .t 8]⟩,
    ⟨some 10, none, .un .not (.t 9)⟩]
    [0, 1, 10])
  (.cond (.t 10)
    (.seq (.region [⟨some 4, none, .mov (.c (u64 0#64))⟩,
      ⟨some 5, none, .mov (.c (u64 0#64))⟩,
      ⟨some 6, none, .mov (.c (.bool false))⟩]
      [4, 5, 6])
    .ret)
    .skip))
  (.seq (.drawn [⟨some 11, none, .mov (.t 0)⟩,
    ⟨some 12, none, .nilchk (.t 11)⟩,
    ⟨some 13, none, .fieldAddr 0 (.t 12)⟩,
    ⟨some 14, none, .load false 1 (.t 13)⟩,
    ⟨some 15, none, .mov (.t 1)⟩,
    ⟨some 16, none, .idxS 2 (.t 14) (.t 15)⟩,
    ⟨some 17, none, .fieldAddr 0 (.t 16)⟩,
    ⟨some 18, none, .load false 1 (.t 17)⟩,
    ⟨some 19, none, .mov (.t 0)⟩,
    ⟨some 20, none, .nilchk (.t 19)⟩,
    ⟨some 21, none, .fieldAddr 0 (.t 20)⟩,
    ⟨some 22, none, .load false 1 (.t 21)⟩,
    ⟨some 23, none, .mov (.t 1)⟩,
    ⟨some 24, none, .idxS 2 (.t 22) (.t 23)⟩,
    ⟨some 25, none, .fieldAddr 1 (.t 24)⟩,
    ⟨some 26, none, .load false 1 (.t 25)⟩,
    ⟨some 4, none, .mov (.t 18)⟩,
    ⟨some 5, none, .mov (.t 26)⟩,
    ⟨some 6, none, .mov (.c (.bool true))⟩]
    [[], [0], [1], [2], [], [3, 4], [5], [6], [], [8], [9], [10], [], [11, 12], [13], [14], [7, 0, 1, 2, 3, 4, 5, 6, 7], [15, 16, 0, 1, 2, 3, 4, 5, 6, 7, 8, 9, 10, 11, 12, 13, 14, 15, 16], [17, 0, 1, 2, 3, 4, 5, 6, 7, 8, 9, 10, 11, 12, 13, 14, 15, 16, 17]]
    [(0, []), (1, []), (2, []), (4, []), (8, []), (9, []), (10, []), (12, []), (3, []), (5, []), (6, []), (7, []), (16, []), (11, []), (13, []), (14, []), (15, []), (17, []), (18, [])]
    [[], [0], [0, 1], [0, 1, 2], [], [0, 1, 2, 3, 4], [0, 1, 2, 3, 4, 5], [0, 1, 2, 3, 4, 5, 6], [], [8], [8, 9], [8, 9, 10], [], [8, 9, 10, 11, 12], [8, 9, 10, 11, 12, 13], [8, 9, 10, 11, 12, 13, 14], [0, 1, 2, 3, 4, 5, 6, 7], [0, 1, 2, 3, 4, 5, 6, 7, 8, 9, 10, 11, 12, 13, 14, 15, 16], [0, 1, 2, 3, 4, 5, 6, 7, 8, 9, 10, 11, 12, 13, 14, 15, 16, 17]]
    [4, 5, 6])
  .ret)))⟩

def RB.ref06_Key_1 : RCode :=
  (.seq (.seq (.region [⟨some 8, none, .mov (.t 7)⟩,
    ⟨some 9, none, .mov (.t 0)⟩,
    ⟨some 10, none, .len (.t 9)⟩,
    ⟨some 11, none, .bin .lss (.t 8) (.t 10)⟩]
    [0, 1, 7, 11])
  (.cond (.t 11)
    .skip
    (.exit 0)))
  (.seq (.block 1
    (.seq (.region [⟨some 14, none, .mov (.t 0)⟩,
      ⟨some 15, none, .mov (.t 7)⟩,
      ⟨some 16, none, .idxS 3 (.t 14) (.t 15)⟩,
      ⟨some 17, none, .fieldAddr 0 (.t 16)⟩,
      ⟨some 18, none, .load false 1 (.t 17)⟩,
      ⟨some 19, none, .mov (.t 1)⟩,
      ⟨some 20, none, .bin .eql (.t 18) (.t 19)⟩]
      [0, 1, 7, 20])
    (.cond (.t 20)
      (.seq (.drawn [⟨some 21, none, .mov (.t 0)⟩,
        ⟨some 22, none, .mov (.t 7)⟩,
        ⟨some 23, none, .idxS 3 (.t 21) (.t 22)⟩,
        ⟨some 24, none, .fieldAddr 1 (.t 23)⟩,
        ⟨some 25, none, .load false 1 (.t 24)⟩,
        ⟨some 26, none, .mov (.t 0)⟩,
        ⟨some 27, none, .mov (.t 7)⟩,
        ⟨some 28, none, .idxS 3 (.t 26) (.t 27)⟩,
        ⟨some 29, none, .fieldAddr 2 (.t 28)⟩,
        ⟨some 30, none, .load false 1 (.t 29)⟩,
        ⟨some 4, none, .mov (.t 25)⟩,
        ⟨some 5, none, .mov (.t 30)⟩,
        ⟨some 6, none, .mov (.c (.bool true))⟩]
        [[], [], [0, 1], [2], [3], [], [], [5, 6], [7], [8], [4, 0, 1, 2, 3, 4], [9, 10, 0, 1, 2, 3, 4, 5, 6, 7, 8, 9, 10], [11, 0, 1, 2, 3, 4, 5, 6, 7, 8, 9, 10, 11]]
        [(0, []), (1, []), (2, []), (3, []), (5, []), (6, []), (7, []), (8, []), (4, []), (10, []), (9, []), (11, []), (12, [])]
        [[], [], [0, 1], [0, 1, 2], [0, 1, 2, 3], [], [], [5, 6], [5, 6, 7], [5, 6, 7, 8], [0, 1, 2, 3, 4], [0, 1, 2, 3, 4, 5, 6, 7, 8, 9, 10], [0, 1, 2, 3, 4, 5, 6, 7, 8, 9, 10, 11]]
        [4, 5, 6])
      .ret)
      .skip)) [0, 1, 7])
  (.region [⟨some 12, none, .mov (.t 7)⟩,
    ⟨some 13, none, .bin .add (.t 12) (.c (.int .i64 1))⟩,
    ⟨some 7, none, .mov (.t 13)⟩]
    [0, 1, 7])))
def RC.ref06_Key : RFn := ⟨2, [.slot 4, .slot 5, .slot 6],
  (.seq (.region [⟨some 4, none, .mov (.c (u64 0#64))⟩,
    ⟨some 5, none, .mov (.c (u64 0#64))⟩,
    ⟨some 6, none, .mov (.c (.bool false))⟩]
    [0, 1])
  (.seq (.seq (.region [⟨some 7, none, .mov (.c (.int .i64 0))⟩]
    [0, 1, 7])
  (.block 0
    (.loop [0, 1, 7] RB.ref06_Key_1) []))
  (.seq (.region [⟨some 4, none, .mov (.c (u64 0#64))⟩,
    ⟨some 5, none, .mov (.c (u64 0#64))⟩,
    ⟨some 6, none, .mov (.c (.bool false))⟩]
    [4, 5, 6])
  .ret)))⟩

def RC.heap_Heap_Len : RFn := ⟨1, [.slot 2],
  (.seq (.region [⟨some 2, none, .mov (.c (.int .i64 0))⟩]
    [0])
  (.seq (.seq (.region [⟨some 3, none, .mov (.t 0)⟩,
    ⟨some 4, none, .eq false .ptr (.t 3) (.c (.pointer none))⟩]
    [0, 4])
  (.cond (.t 4)
    (.seq (.region [⟨some 2, none, .mov (.c (.int .i64 0))⟩]
      [2])
    .ret)
    .skip))
  (.seq (.region [⟨some 5, none, .mov (.t 0)⟩,
    ⟨some 6, none, .nilchk (.t 5)⟩,
    ⟨some 7, none, .fieldAddr 2 (.t 6)⟩,
    ⟨some 8, none, .load false 1 (.t 7)⟩,
    ⟨some 9, none, .len (.t 8)⟩,
    ⟨some 2, none, .mov (.t 9)⟩]
    [2])
  .ret)))⟩

def RC.ref02_Compare : RFn := ⟨4, [.slot 8],
  (.seq (.region [⟨some 8, none, .mov (.c (.int .i64 0))⟩]
    [0, 1, 2, 3])
  (.seq (.region [⟨some 11, none, .mov (.t 0)⟩,
    ⟨some 12, none, .mov (.t 3)⟩,
    ⟨some 13, none, .call F.ref02_Times [.t 11, .t 12]⟩,
    ⟨some 9, none, .alloc [(u64 0#64), (u64 0#64)]⟩,
    ⟨none, none, .store 2 (.t 9) (.t 13)⟩]
    [1, 2, 9])
  (.seq (.region [⟨some 14, none, .mov (.t 2)⟩,
    ⟨some 15, none, .mov (.t 1)⟩,
    ⟨some 16, none, .call F.ref02_Times [.t 14, .t 15]⟩,
    ⟨some 10, none, .alloc [(u64 0#64), (u64 0#64)]⟩,
    ⟨none, none, .store 2 (.t 10) (.t 16)⟩]
    [9, 10])
  (.seq (.seq (.region [⟨some 17, none, .load true 2 (.t 9)⟩,
    ⟨some 18, none, .load true 2 (.t 10)⟩,
    ⟨some 19, none, .eq false (.flat [.int, .int]) (.t 17) (.t 18)⟩]
    [9, 10, 19])
  (.cond (.t 19)
    (.seq (.region [⟨some 8, none, .mov (.c (.int .i64 0))⟩]
      [8])
    .ret)
    .skip))
  (.seq (.seq (.region [⟨some 20, none, .fieldAddr 0 (.t 9)⟩,
    ⟨some 21, none, .load false 1 (.t 20)⟩,
    ⟨some 22, none, .fieldAddr 0 (.t 10)⟩,
    ⟨some 23, none, .load false 1 (.t 22)⟩,
    ⟨some 24, none, .bin .lss (.t 21) (.t 23)⟩,
    ⟨some 25, none, .mov (.t 24)⟩,
    ⟨some 26, some (25, false), .fieldAddr 0 (.t 9)⟩,
    ⟨some 27, some (25, false), .load false 1 (.t 26)⟩,
    ⟨some 28, some (25, false), .fieldAddr 0 (.t 10)⟩,
    ⟨some 29, some (25, false), .load false 1 (.t 28)⟩,
    ⟨some 30, some (25, false), .bin .eql (.t 27) (.t 29)⟩,
    ⟨some 31, some (25, false), .mov (.t 30)⟩,
    ⟨some 32, some (31, true), .fieldAddr 1 (.t 9)⟩,
    ⟨some 33, some (31, true), .load false 1 (.t 32)⟩,
    ⟨some 34, some (31, true), .fieldAddr 1 (.t 10)⟩,
    ⟨some 35, some (31, true), .load false 1 (.t 34)⟩,
    ⟨some 36, some (31, true), .bin .lss (.t 33) (.t 35)⟩,
    ⟨some 37, some (25, false), .pick (.t 31) (.t 36) (.c (.bool false))⟩,
    ⟨some 38, none, .pick (.t 25) (.c (.bool true)) (.t 37)⟩]
    [38])
  (.cond (.t 38)
    (.seq (.region [⟨some 8, none, .mov (.c (.int .i64 (-1)))⟩]
      [8])
    .ret)
    .skip))
  (.seq (.region [⟨some 8, none, .mov (.c (.int .i64 1))⟩]
    [8])
  .ret))))))⟩

def RB.heap_Heap_up_1 : RCode :=
  (.seq (.seq (.region [⟨some 4, none, .mov (.t 1)⟩,
    ⟨some 5, none, .bin .gtr (.t 4) (.c (.int .i64 0))⟩,
    ⟨some 6, none, .mov (.t 5)⟩,
    ⟨some 7, some (6, true), .mov (.t 0)⟩,
    ⟨some 8, some (6, true), .mov (.t 1)⟩,
    ⟨some 9, some (6, true), .mov (.t 1)⟩,
    ⟨some 10, some (6, true), .bin .sub (.t 9) (.c (.int .i64 1))⟩,
    ⟨some 11, some (6, true), .bin .quo (.t 10) (.c (.int .i64 2))⟩,
    ⟨some 12, some (6, true), .call F.heap_Heap_ahead [.t 7, .t 8, .t 11]⟩,
    ⟨some 13, none, .pick (.t 6) (.t 12) (.c (.bool false))⟩]
    [0, 1, 13])
  (.cond (.t 13)
    .skip
    (.exit 0)))
  (.block 1
    (.seq (.region [⟨some 14, none, .mov (.t 0)⟩,
      ⟨some 15, none, .mov (.t 1)⟩,
      ⟨some 16, none, .mov (.t 1)⟩,
      ⟨some 17, none, .bin .sub (.t 16) (.c (.int .i64 1))⟩,
      ⟨some 18, none, .bin .quo (.t 17) (.c (.int .i64 2))⟩,
      ⟨some 19, none, .call F.heap_Heap_swap [.t 14, .t 15, .t 18]⟩]
      [0, 1])
    (.region [⟨some 20, none, .mov (.t 1)⟩,
      ⟨some 21, none, .bin .sub (.t 20) (.c (.int .i64 1))⟩,
      ⟨some 22, none, .bin .quo (.t 21) (.c (.int .i64 2))⟩,
      ⟨some 1, none, .mov (.t 22)⟩]
      [0, 1])) [0, 1]))
def RC.heap_Heap_up : RFn := ⟨2, [],
  (.block 0
    (.loop [0, 1] RB.heap_Heap_up_1) [])⟩

def RB.heap_Heap_down_1 : RCode :=
  (.seq (.region [⟨some 16, none, .bin .lss (.t 15) (.c (.int .i64 2))⟩]
    [0, 1, 4, 14, 15, 16])
  (.seq (.cond (.t 16)
    .skip
    (.exit 2))
  (.seq (.block 3
    (.seq (.region [⟨some 17, none, .idxA false 2 1 (.t 14) (.t 15)⟩,
      ⟨some 6, none, .mov (.t 17)⟩]
      [0, 1, 4, 6, 14, 15])
    (.seq (.region [⟨some 18, none, .mov (.t 6)⟩,
      ⟨some 19, none, .mov (.t 0)⟩,
      ⟨some 20, none, .nilchk (.t 19)⟩,
      ⟨some 21, none, .fieldAddr 2 (.t 20)⟩,
      ⟨some 22, none, .load false 1 (.t 21)⟩,
      ⟨some 23, none, .len (.t 22)⟩,
      ⟨some 24, none, .bin .lss (.t 18) (.t 23)⟩,
      ⟨some 25, none, .mov (.t 24)⟩,
      ⟨some 26, some (25, true), .mov (.t 0)⟩,
      ⟨some 27, some (25, true), .mov (.t 6)⟩,
      ⟨some 28, some (25, true), .mov (.t 4)⟩,
      ⟨some 29, some (25, true), .call F.heap_Heap_ahead [.t 26, .t 27, .t 28]⟩,
      ⟨some 30, none, .pick (.t 25) (.t 29) (.c (.bool false))⟩]
      [0, 1, 4, 6, 14, 15, 30])
    (.cond (.t 30)
      (.region [⟨some 31, none, .mov (.t 6)⟩,
        ⟨some 4, none, .mov (.t 31)⟩]
        [0, 1, 4, 14, 15])
      .skip))) [0, 1, 4, 14, 15])
  (.region [⟨some 32, none, .bin .add (.t 15) (.c (.int .i64 1))⟩,
    ⟨some 15, none, .mov (.t 32)⟩]
    [0, 1, 4, 14, 15]))))
def RB.heap_Heap_down_2 : RCode :=
  (.block 1
    (.seq (.region [⟨some 7, none, .mov (.t 1)⟩,
      ⟨some 4, none, .mov (.t 7)⟩]
      [0, 1, 4])
    (.seq (.seq (.region [⟨some 8, none, .mov (.t 1)⟩,
      ⟨some 9, none, .bin .mul (.c (.int .i64 2)) (.t 8)⟩,
      ⟨some 10, none, .bin .add (.t 9) (.c (.int .i64 1))⟩,
      ⟨some 11, none, .mov (.t 1)⟩,
      ⟨some 12, none, .bin .mul (.c (.int .i64 2)) (.t 11)⟩,
      ⟨some 13, none, .bin .add (.t 12) (.c (.int .i64 2))⟩,
      ⟨some 14, none, .build [(.int .i64 0), (.int .i64 0)] [(0, 1, .t 10), (1, 1, .t 13)]⟩,
      ⟨some 15, none, .mov (.c (.int .i64 0))⟩]
      [0, 1, 4, 14, 15])
    (.block 2
      (.loop [0, 1, 4, 14, 15] RB.heap_Heap_down_1) [0, 1, 4]))
    (.seq (.seq (.region [⟨some 33, none, .mov (.t 4)⟩,
      ⟨some 34, none, .mov (.t 1)⟩,
      ⟨some 35, none, .bin .eql (.t 33) (.t 34)⟩]
      [0, 1, 4, 35])
    (.cond (.t 35)
      .ret
      .skip))
    (.seq (.region [⟨some 36, none, .mov (.t 0)⟩,
      ⟨some 37, none, .mov (.t 1)⟩,
      ⟨some 38, none, .mov (.t 4)⟩,
      ⟨some 39, none, .call F.heap_Heap_swap [.t 36, .t 37, .t 38]⟩]
      [0, 4])
    (.region [⟨some 40, none, .mov (.t 4)⟩,
      ⟨some 1, none, .mov (.t 40)⟩]
      [0, 1]))))) [0, 1])
def RC.heap_Heap_down : RFn := ⟨2, [],
  (.block 0
    (.loop [0, 1] RB.heap_Heap_down_2) [])⟩

def RC.heap_Heap_has : RFn := ⟨2, [.slot 4],
  (.seq (.region [⟨some 4, none, .mov (.c (.bool false))⟩]
    [0, 1])
  (.seq (.region [⟨some 5, none, .mov (.t 0)⟩,
    ⟨some 6, none, .eq true .ptr (.t 5) (.c (.pointer none))⟩,
    ⟨some 7, none, .mov (.t 6)⟩,
    ⟨some 8, some (7, true), .mov (.t 1)⟩,
    ⟨some 9, some (7, true), .bin .geq (.t 8) (.c (.int .i64 0))⟩,
    ⟨some 10, none, .pick (.t 7) (.t 9) (.c (.bool false))⟩,
    ⟨some 11, none, .mov (.t 10)⟩,
    ⟨some 12, some (11, true), .mov (.t 1)⟩,
    ⟨some 13, some (11, true), .mov (.t 0)⟩,
    ⟨some 14, some (11, true), .nilchk (.t 13)⟩,
    ⟨some 15, some (11, true), .fieldAddr 0 (.t 14)⟩,
    ⟨some 16, some (11, true), .load false 1 (.t 15)⟩,
    ⟨some 17, some (11, true), .len (.t 16)⟩,
    ⟨some 18, some (11, true), .bin .lss (.t 12) (.t 17)⟩,
    ⟨some 19, none, .pick (.t 11) (.t 18) (.c (.bool false))⟩,
    ⟨some 20, none, .mov (.t 19)⟩,
    ⟨some 21, some (20, true), .mov (.t 0)⟩,
    ⟨some 22, some (20, true), .nilchk (.t 21)⟩,
    ⟨some 23, some (20, true), .fieldAddr 1 (.t 22)⟩,
    ⟨some 24, some (20, true), .load false 1 (.t 23)⟩,
    ⟨some 25, some (20, true), .mov (.t 1)⟩,
    ⟨some 26, some (20, true), .idxS 1 (.t 24) (.t 25)⟩,
    ⟨some 27, some (20, true), .load false 1 (.t 26)⟩,
    ⟨some 28, some (20, true), .bin .gtr (.t 27) (.c (.int .i64 0))⟩,
    ⟨some 29, none, .pick (.t 20) (.t 28) (.c (.bool false))⟩,
    ⟨some 4, none, .mov (.t 29)⟩]
    [4])
  .ret))⟩

def RC.heap_Heap_swap : RFn := ⟨3, [],
  (.seq (.drawn [⟨some 6, none, .mov (.t 0)⟩,
    ⟨some 7, none, .nilchk (.t 6)⟩,
    ⟨some 8, none, .fieldAddr 2 (.t 7)⟩,
    ⟨some 9, none, .load false 1 (.t 8)⟩,
    ⟨some 10, none, .mov (.t 1)⟩,
    ⟨some 11, none, .mov (.t 0)⟩,
    ⟨some 12, none, .nilchk (.t 11)⟩,
    ⟨some 13, none, .fieldAddr 2 (.t 12)⟩,
    ⟨some 14, none, .load false 1 (.t 13)⟩,
    ⟨some 15, none, .mov (.t 2)⟩,
    ⟨some 16, none, .mov (.t 0)⟩,
    ⟨some 17, none, .nilchk (.t 16)⟩,
    ⟨some 18, none, .fieldAddr 2 (.t 17)⟩,
    ⟨some 19, none, .load false 1 (.t 18)⟩,
    ⟨some 20, none, .mov (.t 2)⟩,
    ⟨some 21, none, .idxS 1 (.t 19) (.t 20)⟩,
    ⟨some 22, none, .load false 1 (.t 21)⟩,
    ⟨some 23, none, .mov (.t 0)⟩,
    ⟨some 24, none, .nilchk (.t 23)⟩,
    ⟨some 25, none, .fieldAddr 2 (.t 24)⟩,
    ⟨some 26, none, .load false 1 (.t 25)⟩,
    ⟨some 27, none, .mov (.t 1)⟩,
    ⟨some 28, none, .idxS 1 (.t 26) (.t 27)⟩,
    ⟨some 29, none, .load false 1 (.t 28)⟩,
    ⟨some 30, none, .idxS 1 (.t 9) (.t 10)⟩,
    ⟨none, none, .store 1 (.t 30) (.t 22)⟩,
    ⟨some 31, none, .idxS 1 (.t 14) (.t 15)⟩,
    ⟨none, none, .store 1 (.t 31) (.t 29)⟩]
    [[], [0], [1], [2], [], [], [5], [6], [7], [], [], [10], [11], [12], [], [13, 14], [15], [], [17], [18], [19], [], [20, 21], [22], [3, 4, 0, 1, 2, 3, 4, 8, 10, 11, 12, 13, 14, 15, 16, 20, 23], [24, 16, 0, 1, 2, 3, 4, 8, 10, 11, 12, 13, 14, 15, 16, 20, 23], [8, 9, 0, 1, 2, 3, 4, 5, 6, 7, 8, 9, 10, 11, 12, 13, 14, 15, 16, 17, 18, 19, 20, 21, 22, 23, 24, 25], [26, 23, 25, 0, 1, 2, 3, 4, 5, 6, 7, 8, 9, 10, 11, 12, 13, 14, 15, 16, 17, 18, 19, 20, 21, 22, 23, 24, 25]]
    [(0, []), (1, []), (2, []), (4, []), (5, []), (6, []), (7, []), (9, []), (10, []), (11, []), (12, []), (14, []), (17, []), (18, []), (19, []), (21, []), (3, []), (8, []), (13, []), (15, []), (16, []), (20, []), (22, []), (23, []), (24, []), (25, []), (26, []), (27, [])]
    [[], [0], [0, 1], [0, 1, 2], [], [], [5], [5, 6], [5, 6, 7], [], [], [10], [10, 11], [10, 11, 12], [], [10, 11, 12, 13, 14], [10, 11, 12, 13, 14, 15], [], [17], [17, 18], [17, 18, 19], [], [17, 18, 19, 20, 21], [17, 18, 19, 20, 21, 22], [0, 1, 2, 3, 4, 5, 6, 7, 8, 10, 11, 12, 13, 14, 15, 16, 17, 18, 19, 20, 21, 22, 23], [0, 1, 2, 3, 4, 5, 6, 7, 8, 10, 11, 12, 13, 14, 15, 16, 17, 18, 19, 20, 21, 22, 23, 24], [0, 1, 2, 3, 4, 5, 6, 7, 8, 9, 10, 11, 12, 13, 14, 15, 16, 17, 18, 19, 20, 21, 22, 23, 24, 25], [0, 1, 2, 3, 4, 5, 6, 7, 8, 9, 10, 11, 12, 13, 14, 15, 16, 17, 18, 19, 20, 21, 22, 23, 24, 25, 26]]
    [0, 1, 2])
  (.drawn [⟨some 32, none, .mov (.t 0)⟩,
    ⟨some 33, none, .nilchk (.t 32)⟩,
    ⟨some 34, none, .fieldAddr 1 (.t 33)⟩,
    ⟨some 35, none, .load false 1 (.t 34)⟩,
    ⟨some 36, none, .mov (.t 0)⟩,
    ⟨some 37, none, .nilchk (.t 36)⟩,
    ⟨some 38, none, .fieldAddr 2 (.t 37)⟩,
    ⟨some 39, none, .load false 1 (.t 38)⟩,
    ⟨some 40, none, .mov (.t 1)⟩,
    ⟨some 41, none, .idxS 1 (.t 39) (.t 40)⟩,
    ⟨some 42, none, .load false 1 (.t 41)⟩,
    ⟨some 43, none, .mov (.t 0)⟩,
    ⟨some 44, none, .nilchk (.t 43)⟩,
    ⟨some 45, none, .fieldAddr 1 (.t 44)⟩,
    ⟨some 46, none, .load false 1 (.t 45)⟩,
    ⟨some 47, none, .mov (.t 0)⟩,
    ⟨some 48, none, .nilchk (.t 47)⟩,
    ⟨some 49, none, .fieldAddr 2 (.t 48)⟩,
    ⟨some 50, none, .load false 1 (.t 49)⟩,
    ⟨some 51, none, .mov (.t 2)⟩,
    ⟨some 52, none, .idxS 1 (.t 50) (.t 51)⟩,
    ⟨some 53, none, .load false 1 (.t 52)⟩,
    ⟨some 54, none, .mov (.t 1)⟩,
    ⟨some 55, none, .bin .add (.t 54) (.c (.int .i64 1))⟩,
    ⟨some 56, none, .mov (.t 2)⟩,
    ⟨some 57, none, .bin .add (.t 56) (.c (.int .i64 1))⟩,
    ⟨some 58, none, .idxS 1 (.t 35) (.t 42)⟩,
    ⟨none, none, .store 1 (.t 58) (.t 55)⟩,
    ⟨some 59, none, .idxS 1 (.t 46) (.t 53)⟩,
    ⟨none, none, .store 1 (.t 59) (.t 57)⟩]
    [[], [0], [1], [2], [], [4], [5], [6], [], [7, 8], [9], [], [11], [12], [13], [], [15], [16], [17], [], [18, 19], [20], [], [22], [], [24], [3, 10, 0, 1, 2, 3, 4, 5, 6, 7, 8, 9, 10, 14, 18, 21, 22, 23], [26, 23, 0, 1, 2, 3, 4, 5, 6, 7, 8, 9, 10, 14, 18, 21, 22, 23], [14, 21, 0, 1, 2, 3, 4, 5, 6, 7, 8, 9, 10, 11, 12, 13, 14, 15, 16, 17, 18, 19, 20, 21, 22, 23, 24, 25, 26, 27], [28, 25, 27, 0, 1, 2, 3, 4, 5, 6, 7, 8, 9, 10, 11, 12, 13, 14, 15, 16, 17, 18, 19, 20, 21, 22, 23, 24, 25, 26, 27]]
    [(0, []), (1, []), (2, []), (4, []), (5, []), (6, []), (8, []), (11, []), (12, []), (13, []), (15, []), (16, []), (17, []), (19, []), (22, []), (23, []), (24, []), (25, []), (3, []), (7, []), (9, []), (10, []), (14, []), (18, []), (20, []), (21, []), (26, []), (27, []), (28, []), (29, [])]
    [[], [0], [0, 1], [0, 1, 2], [], [4], [4, 5], [4, 5, 6], [], [4, 5, 6, 7, 8], [4, 5, 6, 7, 8, 9], [], [11], [11, 12], [11, 12, 13], [], [15], [15, 16], [15, 16, 17], [], [15, 16, 17, 18, 19], [15, 16, 17, 18, 19, 20], [], [22], [], [24], [0, 1, 2, 3, 4, 5, 6, 7, 8, 9, 10, 11, 12, 13, 14, 15, 16, 17, 18, 19, 20, 21, 22, 23], [0, 1, 2, 3, 4, 5, 6, 7, 8, 9, 10, 11, 12, 13, 14, 15, 16, 17, 18, 19, 20, 21, 22, 23, 26], [0, 1, 2, 3, 4, 5, 6, 7, 8, 9, 10, 11, 12, 13, 14, 15, 16, 17, 18, 19, 20, 21, 22, 23, 24, 25, 26, 27], [0, 1, 2, 3, 4, 5, 6, 7, 8, 9, 10, 11, 12, 13, 14, 15, 16, 17, 18, 19, 20, 21, 22, 23, 24, 25, 26, 27, 28]]
    []))⟩

def RC.ref06_ahead : RFn := ⟨2, [.slot 4],
  (.seq (.region [⟨some 2, none, .box (.t 0)⟩,
    ⟨some 3, none, .box (.t 1)⟩,
    ⟨some 4, none, .mov (.c (.bool false))⟩]
    [2, 3])
  (.seq (.region [⟨some 6, none, .fieldAddr 1 (.t 2)⟩,
    ⟨some 7, none, .load false 1 (.t 6)⟩,
    ⟨some 8, none, .fieldAddr 2 (.t 2)⟩,
    ⟨some 9, none, .load false 1 (.t 8)⟩,
    ⟨some 10, none, .fieldAddr 1 (.t 3)⟩,
    ⟨some 11, none, .load false 1 (.t 10)⟩,
    ⟨some 12, none, .fieldAddr 2 (.t 3)⟩,
    ⟨some 13, none, .load false 1 (.t 12)⟩,
    ⟨some 14, none, .call F.ref02_Compare [.t 7, .t 9, .t 11, .t 13]⟩,
    ⟨some 5, none, .mov (.t 14)⟩]
    [2, 3, 5])
  (.seq (.region [⟨some 15, none, .mov (.t 5)⟩,
    ⟨some 16, none, .bin .lss (.t 15) (.c (.int .i64 0))⟩,
    ⟨some 17, none, .mov (.t 16)⟩,
    ⟨some 18, some (17, false), .mov (.t 5)⟩,
    ⟨some 19, some (17, false), .bin .eql (.t 18) (.c (.int .i64 0))⟩,
    ⟨some 20, some (17, false), .mov (.t 19)⟩,
    ⟨some 21, some (20, true), .fieldAddr 0 (.t 2)⟩,
    ⟨some 22, some (20, true), .load false 1 (.t 21)⟩,
    ⟨some 23, some (20, true), .fieldAddr 0 (.t 3)⟩,
    ⟨some 24, some (20, true), .load false 1 (.t 23)⟩,
    ⟨some 25, some (20, true), .bin .lss (.t 22) (.t 24)⟩,
    ⟨some 26, some (17, false), .pick (.t 20) (.t 25) (.c (.bool false))⟩,
    ⟨some 27, none, .pick (.t 17) (.c (.bool true)) (.t 26)⟩,
    ⟨some 4, none, .mov (.t 27)⟩]
    [4])
  .ret)))⟩

def RB.ref02_Times_1 : RCode :=
  (.seq (.seq (.region [⟨some 8, none, .mov (.t 6)⟩,
    ⟨some 9, none, .bin .geq (.t 8) (.c (.int .i64 0))⟩]
    [0, 1, 4, 5, 6, 9])
  (.cond (.t 9)
    .skip
    (.exit 0)))
  (.seq (.block 1
    (.seq (.region [⟨some 13, none, .load true 2 (.t 5)⟩,
      ⟨some 14, none, .call F.ref02_Twice [.t 13, .c (u64 0#64)]⟩,
      ⟨some 12, none, .mov (.t 14)⟩,
      ⟨some 15, none, .ext 0 (.t 12)⟩,
      ⟨some 16, none, .ext 1 (.t 12)⟩,
      ⟨none, none, .store 2 (.t 5) (.t 15)⟩]
      [0, 1, 4, 5, 6])
    (.seq (.region [⟨some 17, none, .mov (.t 1)⟩,
      ⟨some 18, none, .mov (.t 6)⟩,
      ⟨some 19, none, .conv .u64 (.t 18)⟩,
      ⟨some 20, none, .bin .shr (.t 17) (.t 19)⟩,
      ⟨some 21, none, .bin .and (.t 20) (.c (u64 1#64))⟩,
      ⟨some 22, none, .bin .eql (.t 21) (.c (u64 1#64))⟩]
      [0, 1, 4, 5, 6, 22])
    (.cond (.t 22)
      (.region [⟨some 23, none, .load true 2 (.t 5)⟩,
        ⟨some 24, none, .mov (.t 0)⟩,
        ⟨some 25, none, .build [(u64 0#64), (u64 0#64)] [(0, 1, .c (u64 0#64)), (1, 1, .t 24)]⟩,
        ⟨some 26, none, .call F.ref02_Sum [.t 23, .t 25]⟩,
        ⟨none, none, .store 2 (.t 5) (.t 26)⟩]
        [0, 1, 4, 5, 6])
      .skip))) [0, 1, 4, 5, 6])
  (.region [⟨some 10, none, .mov (.t 6)⟩,
    ⟨some 11, none, .bin .sub (.t 10) (.c (.int .i64 1))⟩,
    ⟨some 6, none, .mov (.t 11)⟩]
    [0, 1, 4, 5, 6])))
def RC.ref02_Times : RFn := ⟨2, [.cell 4 true 2],
  (.seq (.region [⟨some 4, none, .alloc [(u64 0#64), (u64 0#64)]⟩]
    [0, 1, 4])
  (.seq (.region [⟨some 7, none, .build [(u64 0#64), (u64 0#64)] []⟩,
    ⟨some 5, none, .alloc [(u64 0#64), (u64 0#64)]⟩,
    ⟨none, none, .store 2 (.t 5) (.t 7)⟩]
    [0, 1, 4, 5])
  (.seq (.seq (.region [⟨some 6, none, .mov (.c (.int .i64 63))⟩]
    [0, 1, 4, 5, 6])
  (.block 0
    (.loop [0, 1, 4, 5, 6] RB.ref02_Times_1) [4, 5]))
  (.seq (.region [⟨some 27, none, .load true 2 (.t 5)⟩,
    ⟨none, none, .store 2 (.t 4) (.t 27)⟩]
    [4])
  .ret))))⟩

def RC.heap_Heap_ahead : RFn := ⟨3, [.slot 6],
  (.seq (.region [⟨some 6, none, .mov (.c (.bool false))⟩]
    [0, 1, 2])
  (.seq (.drawn [⟨some 11, none, .mov (.t 0)⟩,
    ⟨some 12, none, .nilchk (.t 11)⟩,
    ⟨some 13, none, .fieldAddr 2 (.t 12)⟩,
    ⟨some 14, none, .load false 1 (.t 13)⟩,
    ⟨some 15, none, .mov (.t 1)⟩,
    ⟨some 16, none, .idxS 1 (.t 14) (.t 15)⟩,
    ⟨some 17, none, .load false 1 (.t 16)⟩,
    ⟨some 18, none, .mov (.t 0)⟩,
    ⟨some 19, none, .nilchk (.t 18)⟩,
    ⟨some 20, none, .fieldAddr 2 (.t 19)⟩,
    ⟨some 21, none, .load false 1 (.t 20)⟩,
    ⟨some 22, none, .mov (.t 2)⟩,
    ⟨some 23, none, .idxS 1 (.t 21) (.t 22)⟩,
    ⟨some 24, none, .load false 1 (.t 23)⟩,
    ⟨some 7, none, .mov (.t 17)⟩,
    ⟨some 8, none, .mov (.t 24)⟩]
    [[], [0], [1], [2], [], [3, 4], [5], [], [7], [8], [9], [], [10, 11], [12], [6, 0, 1, 2, 3, 4, 5, 6], [13, 14, 0, 1, 2, 3, 4, 5, 6, 7, 8, 9, 10, 11, 12, 13, 14]]
    [(0, []), (1, []), (2, []), (4, []), (7, []), (8, []), (9, []), (11, []), (3, []), (5, []), (6, []), (14, []), (10, []), (12, []), (13, []), (15, [])]
    [[], [0], [0, 1], [0, 1, 2], [], [0, 1, 2, 3, 4], [0, 1, 2, 3, 4, 5], [], [7], [7, 8], [7, 8, 9], [], [7, 8, 9, 10, 11], [7, 8, 9, 10, 11, 12], [0, 1, 2, 3, 4, 5, 6], [0, 1, 2, 3, 4, 5, 6, 7, 8, 9, 10, 11, 12, 13, 14]]
    [0, 7, 8])
  (.seq (.drawn [⟨some 26, none, .mov (.t 0)⟩,
    ⟨some 27, none, .nilchk (.t 26)⟩,
    ⟨some 28, none, .fieldAddr 0 (.t 27)⟩,
    ⟨some 29, none, .load false 1 (.t 28)⟩,
    ⟨some 30, none, .mov (.t 7)⟩,
    ⟨some 31, none, .idxS 2 (.t 29) (.t 30)⟩,
    ⟨some 32, none, .fieldAddr 0 (.t 31)⟩,
    ⟨some 33, none, .load false 1 (.t 32)⟩,
    ⟨some 34, none, .mov (.t 0)⟩,
    ⟨some 35, none, .nilchk (.t 34)⟩,
    ⟨some 36, none, .fieldAddr 0 (.t 35)⟩,
    ⟨some 37, none, .load false 1 (.t 36)⟩,
    ⟨some 38, none, .mov (.t 7)⟩,
    ⟨some 39, none, .idxS 2 (.t 37) (.t 38)⟩,
    ⟨some 40, none, .fieldAddr 1 (.t 39)⟩,
    ⟨some 41, none, .load false 1 (.t 40)⟩,
    ⟨some 42, none, .mov (.t 0)⟩,
    ⟨some 43, none, .nilchk (.t 42)⟩,
    ⟨some 44, none, .fieldAddr 0 (.t 43)⟩,
    ⟨some 45, none, .load false 1 (.t 44)⟩,
    ⟨some 46, none, .mov (.t 8)⟩,
    ⟨some 47, none, .idxS 2 (.t 45) (.t 46)⟩,
    ⟨some 48, none, .fieldAddr 0 (.t 47)⟩,
    ⟨some 49, none, .load false 1 (.t 48)⟩,
    ⟨some 50, none, .mov (.t 0)⟩,
    ⟨some 51, none, .nilchk (.t 50)⟩,
    ⟨some 52, none, .fieldAddr 0 (.t 51)⟩,
    ⟨some 53, none, .load false 1 (.t 52)⟩,
    ⟨some 54, none, .mov (.t 8)⟩,
    ⟨some 55, none, .idxS 2 (.t 53) (.t 54)⟩,
    ⟨some 56, none, .fieldAddr 1 (.t 55)⟩,
    ⟨some 57, none, .load false 1 (.t 56)⟩,
    ⟨some 58, none, .call F.fixq_Compare [.t 33, .t 41, .t 49, .t 57]⟩,
    ⟨some 25, none, .mov (.t 58)⟩,
    ⟨some 59, none, .ext 0 (.t 25)⟩,
    ⟨some 60, none, .ext 1 (.t 25)⟩,
    ⟨some 9, none, .mov (.t 59)⟩,
    ⟨some 10, none, .mov (.t 60)⟩]
    [[], [0], [1], [2], [], [3, 4], [5], [6], [], [8], [9], [10], [], [11, 12], [13], [14], [], [16], [17], [18], [], [19, 20], [21], [22], [], [24], [25], [26], [], [27, 28], [29], [30], [7, 15, 23, 31], [32], [33], [33], [34, 32, 0, 1, 2, 3, 4, 5, 6, 7, 8, 9, 10, 11, 12, 13, 14, 15, 16, 17, 18, 19, 20, 21, 22, 23, 24, 25, 26, 27, 28, 29, 30, 31, 32, 33, 34], [35, 36, 0, 1, 2, 3, 4, 5, 6, 7, 8, 9, 10, 11, 12, 13, 14, 15, 16, 17, 18, 19, 20, 21, 22, 23, 24, 25, 26, 27, 28, 29, 30, 31, 32, 33, 34, 35, 36]]
    [(0, []), (1, []), (2, []), (4, []), (8, []), (9, []), (10, []), (12, []), (16, []), (17, []), (18, []), (20, []), (24, []), (25, []), (26, []), (28, []), (3, []), (5, []), (6, []), (7, []), (11, []), (13, []), (14, []), (15, []), (19, []), (21, []), (22, []), (23, []), (27, []), (29, []), (30, []), (31, []), (32, []), (33, []), (34, []), (35, []), (36, []), (37, [])]
    [[], [0], [0, 1], [0, 1, 2], [], [0, 1, 2, 3, 4], [0, 1, 2, 3, 4, 5], [0, 1, 2, 3, 4, 5, 6], [], [8], [8, 9], [8, 9, 10], [], [8, 9, 10, 11, 12], [8, 9, 10, 11, 12, 13], [8, 9, 10, 11, 12, 13, 14], [], [16], [16, 17], [16, 17, 18], [], [16, 17, 18, 19, 20], [16, 17, 18, 19, 20, 21], [16, 17, 18, 19, 20, 21, 22], [], [24], [24, 25], [24, 25, 26], [], [24, 25, 26, 27, 28], [24, 25, 26, 27, 28, 29], [24, 25, 26, 27, 28, 29, 30], [0, 1, 2, 3, 4, 5, 6, 7, 8, 9, 10, 11, 12, 13, 14, 15, 16, 17, 18, 19, 20, 21, 22, 23, 24, 25, 26, 27, 28, 29, 30, 31], [0, 1, 2, 3, 4, 5, 6, 7, 8, 9, 10, 11, 12, 13, 14, 15, 16, 17, 18, 19, 20, 21, 22, 23, 24, 25, 26, 27, 28, 29, 30, 31, 32], [0, 1, 2, 3, 4, 5, 6, 7, 8, 9, 10, 11, 12, 13, 14, 15, 16, 17, 18, 19, 20, 21, 22, 23, 24, 25, 26, 27, 28, 29, 30, 31, 32, 33], [0, 1, 2, 3, 4, 5, 6, 7, 8, 9, 10, 11, 12, 13, 14, 15, 16, 17, 18, 19, 20, 21, 22, 23, 24, 25, 26, 27, 28, 29, 30, 31, 32, 33], [0, 1, 2, 3, 4, 5, 6, 7, 8, 9, 10, 11, 12, 13, 14, 15, 16, 17, 18, 19, 20, 21, 22, 23, 24, 25, 26, 27, 28, 29, 30, 31, 32, 33, 34], [0, 1, 2, 3, 4, 5, 6, 7, 8, 9, 10, 11, 12, 13, 14, 15, 16, 17, 18, 19, 20, 21, 22, 23, 24, 25, 26, 27, 28, 29, 30, 31, 32, 33, 34, 35, 36]]
    [7, 8, 9])
  (.seq (.region [⟨some 61, none, .mov (.t 9)⟩,
    ⟨some 62, none, .bin .lss (.t 61) (.c (.int .i64 0))⟩,
    ⟨some 63, none, .mov (.t 62)⟩,
    ⟨some 64, some (63, false), .mov (.t 9)⟩,
    ⟨some 65, some (63, false), .bin .eql (.t 64) (.c (.int .i64 0))⟩,
    ⟨some 66, some (63, false), .mov (.t 65)⟩,
    ⟨some 67, some (66, true), .mov (.t 7)⟩,
    ⟨some 68, some (66, true), .mov (.t 8)⟩,
    ⟨some 69, some (66, true), .bin .lss (.t 67) (.t 68)⟩,
    ⟨some 70, some (63, false), .pick (.t 66) (.t 69) (.c (.bool false))⟩,
    ⟨some 71, none, .pick (.t 63) (.c (.bool true)) (.t 70)⟩,
    ⟨some 6, none, .mov (.t 71)⟩]
    [6])
  .ret))))⟩

def RC.ref02_Twice : RFn := ⟨2, [.cell 4 true 2, .slot 5],
  (.seq (.region [⟨some 2, none, .box (.t 0)⟩,
    ⟨some 4, none, .alloc [(u64 0#64), (u64 0#64)]⟩,
    ⟨some 5, none, .mov (.c (.bool false))⟩]
    [1, 2, 4])
  (.seq (.drawn [⟨some 6, none, .fieldAddr 0 (.t 2)⟩,
    ⟨some 7, none, .load false 1 (.t 6)⟩,
    ⟨some 8, none, .bin .shl (.t 7) (.c (u64 1#64))⟩,
    ⟨some 9, none, .fieldAddr 1 (.t 2)⟩,
    ⟨some 10, none, .load false 1 (.t 9)⟩,
    ⟨some 11, none, .bin .shr (.t 10) (.c (u64 63#64))⟩,
    ⟨some 12, none, .bin .or (.t 8) (.t 11)⟩,
    ⟨some 13, none, .fieldAddr 1 (.t 2)⟩,
    ⟨some 14, none, .load false 1 (.t 13)⟩,
    ⟨some 15, none, .bin .shl (.t 14) (.c (u64 1#64))⟩,
    ⟨some 16, none, .mov (.t 1)⟩,
    ⟨some 17, none, .bin .or (.t 15) (.t 16)⟩,
    ⟨some 18, none, .build [(u64 0#64), (u64 0#64)] [(0, 1, .t 12), (1, 1, .t 17)]⟩,
    ⟨some 19, none, .fieldAddr 0 (.t 2)⟩,
    ⟨some 20, none, .load false 1 (.t 19)⟩,
    ⟨some 21, none, .bin .shr (.t 20) (.c (u64 63#64))⟩,
    ⟨some 22, none, .bin .eql (.t 21) (.c (u64 0#64))⟩,
    ⟨none, none, .store 2 (.t 4) (.t 18)⟩,
    ⟨some 5, none, .mov (.t 22)⟩]
    [[], [0], [1], [], [3], [4], [2, 5], [], [7], [8], [], [9, 10], [6, 11], [], [13], [14], [15], [12, 0, 1, 2, 3, 4, 5, 6, 7, 8, 9, 10, 11, 12], [16, 17, 0, 1, 2, 3, 4, 5, 6, 7, 8, 9, 10, 11, 12, 13, 14, 15, 16, 17]]
    [(0, []), (3, []), (7, []), (10, []), (13, []), (1, []), (2, []), (4, []), (5, []), (6, []), (8, []), (9, []), (11, []), (12, []), (14, []), (15, []), (16, []), (17, [19]), (18, [])]
    [[], [0], [0, 1], [], [3], [3, 4], [0, 1, 2, 3, 4, 5], [], [7], [7, 8], [], [7, 8, 9, 10], [0, 1, 2, 3, 4, 5, 6, 7, 8, 9, 10, 11], [], [13], [13, 14], [13, 14, 15], [0, 1, 2, 3, 4, 5, 6, 7, 8, 9, 10, 11, 12], [0, 1, 2, 3, 4, 5, 6, 7, 8, 9, 10, 11, 12, 13, 14, 15, 16, 17]]
    [4, 5])
  .ret))⟩

def RC.ref02_Sum : RFn := ⟨2, [.cell 4 true 2],
  (.seq (.region [⟨some 2, none, .box (.t 0)⟩,
    ⟨some 3, none, .box (.t 1)⟩,
    ⟨some 4, none, .alloc [(u64 0#64), (u64 0#64)]⟩]
    [2, 3, 4])
  (.seq (.region [⟨some 7, none, .fieldAddr 1 (.t 2)⟩,
    ⟨some 8, none, .load false 1 (.t 7)⟩,
    ⟨some 9, none, .fieldAddr 1 (.t 3)⟩,
    ⟨some 10, none, .load false 1 (.t 9)⟩,
    ⟨some 11, none, .bin .add (.t 8) (.t 10)⟩,
    ⟨some 5, none, .mov (.t 11)⟩]
    [2, 3, 4, 5])
  (.seq (.region [⟨some 12, none, .fieldAddr 0 (.t 2)⟩,
    ⟨some 13, none, .load false 1 (.t 12)⟩,
    ⟨some 14, none, .fieldAddr 0 (.t 3)⟩,
    ⟨some 15, none, .load false 1 (.t 14)⟩,
    ⟨some 16, none, .bin .add (.t 13) (.t 15)⟩,
    ⟨some 6, none, .mov (.t 16)⟩]
    [2, 4, 5, 6])
  (.seq (.seq (.region [⟨some 17, none, .mov (.t 5)⟩,
    ⟨some 18, none, .fieldAddr 1 (.t 2)⟩,
    ⟨some 19, none, .load false 1 (.t 18)⟩,
    ⟨some 20, none, .bin .lss (.t 17) (.t 19)⟩]
    [4, 5, 6, 20])
  (.cond (.t 20)
    (.region [⟨some 21, none, .mov (.t 6)⟩,
      ⟨some 22, none, .bin .add (.t 21) (.c (u64 1#64))⟩,
      ⟨some 6, none, .mov (.t 22)⟩]
      [4, 5, 6])
    .skip))
  (.seq (.region [⟨some 23, none, .mov (.t 6)⟩,
    ⟨some 24, none, .mov (.t 5)⟩,
    ⟨some 25, none, .build [(u64 0#64), (u64 0#64)] [(0, 1, .t 23), (1, 1, .t 24)]⟩,
    ⟨none, none, .store 2 (.t 4) (.t 25)⟩]
    [4])
  .ret)))))⟩

def RC.fixq_Compare : RFn := ⟨4, [.slot 8, .slot 9],
  (.seq (.region [⟨some 8, none, .mov (.c (.int .i64 0))⟩,
    ⟨some 9, none, .mov (.c (.int .i64 0))⟩]
    [0, 1, 2, 3])
  (.seq (.seq (.region [⟨some 14, none, .mov (.t 1)⟩,
    ⟨some 15, none, .bin .eql (.t 14) (.c (u64 0#64))⟩,
    ⟨some 16, none, .mov (.t 15)⟩,
    ⟨some 17, some (16, false), .mov (.t 3)⟩,
    ⟨some 18, some (16, false), .bin .eql (.t 17) (.c (u64 0#64))⟩,
    ⟨some 19, none, .pick (.t 16) (.c (.bool true)) (.t 18)⟩]
    [0, 1, 2, 3, 19])
  (.cond (.t 19)
    (.seq (.region [⟨some 8, none, .mov (.c (.int .i64 0))⟩,
      ⟨some 9, none, .mov (.c (.int .i64 1))⟩]
      [8, 9])
    .ret)
    .skip))
  (.seq (.region [⟨some 21, none, .mov (.t 0)⟩,
    ⟨some 22, none, .mov (.t 3)⟩,
    ⟨some 23, none, .call F.math_bits_Mul64 [.t 21, .t 22]⟩,
    ⟨some 20, none, .mov (.t 23)⟩,
    ⟨some 24, none, .ext 0 (.t 20)⟩,
    ⟨some 25, none, .ext 1 (.t 20)⟩,
    ⟨some 10, none, .mov (.t 24)⟩,
    ⟨some 11, none, .mov (.t 25)⟩]
    [1, 2, 10, 11])
  (.seq (.region [⟨some 27, none, .mov (.t 2)⟩,
    ⟨some 28, none, .mov (.t 1)⟩,
    ⟨some 29, none, .call F.math_bits_Mul64 [.t 27, .t 28]⟩,
    ⟨some 26, none, .mov (.t 29)⟩,
    ⟨some 30, none, .ext 0 (.t 26)⟩,
    ⟨some 31, none, .ext 1 (.t 26)⟩,
    ⟨some 12, none, .mov (.t 30)⟩,
    ⟨some 13, none, .mov (.t 31)⟩]
    [10, 11, 12, 13])
  (.seq (.block 0
    (.seq (.region [⟨some 33, none, .mov (.t 10)⟩,
      ⟨some 34, none, .mov (.t 12)⟩,
      ⟨some 35, none, .bin .lss (.t 33) (.t 34)⟩,
      ⟨some 36, none, .mov (.t 35)⟩,
      ⟨some 37, some (36, false), .mov (.t 10)⟩,
      ⟨some 38, some (36, false), .mov (.t 12)⟩,
      ⟨some 39, some (36, false), .bin .eql (.t 37) (.t 38)⟩,
      ⟨some 40, some (36, false), .mov (.t 39)⟩,
      ⟨some 41, some (40, true), .mov (.t 11)⟩,
      ⟨some 42, some (40, true), .mov (.t 13)⟩,
      ⟨some 43, some (40, true), .bin .lss (.t 41) (.t 42)⟩,
      ⟨some 44, some (36, false), .pick (.t 40) (.t 43) (.c (.bool false))⟩,
      ⟨some 45, none, .pick (.t 36) (.c (.bool true)) (.t 44)⟩,
      ⟨some 32, none, .mov (.t 45)⟩]
      [10, 11, 12, 13, 32])
    (.cond (.t 32)
      (.seq (.region [⟨some 8, none, .mov (.c (.int .i64 (-1)))⟩,
        ⟨some 9, none, .mov (.c (.int .i64 0))⟩]
        [8, 9])
      .ret)
      (.seq (.region [⟨some 47, none, .mov (.t 10)⟩,
        ⟨some 48, none, .mov (.t 12)⟩,
        ⟨some 49, none, .bin .eql (.t 47) (.t 48)⟩,
        ⟨some 50, none, .mov (.t 49)⟩,
        ⟨some 51, some (50, true), .mov (.t 11)⟩,
        ⟨some 52, some (50, true), .mov (.t 13)⟩,
        ⟨some 53, some (50, true), .bin .eql (.t 51) (.t 52)⟩,
        ⟨some 54, none, .pick (.t 50) (.t 53) (.c (.bool false))⟩,
        ⟨some 46, none, .mov (.t 54)⟩]
        [46])
      (.cond (.t 46)
        (.seq (.region [⟨some 8, none, .mov (.c (.int .i64 0))⟩,
          ⟨some 9, none, .mov (.c (.int .i64 0))⟩]
          [8, 9])
        .ret)
        .skip)))) [])
  (.seq (.region [⟨some 8, none, .mov (.c (.int .i64 1))⟩,
    ⟨some 9, none, .mov (.c (.int .i64 0))⟩]
    [8, 9])
  .ret))))))⟩

def RC.math_bits_Mul64 : RFn := ⟨2, [.slot 4, .slot 5],
  (.seq (.region [⟨some 4, none, .mov (.c (u64 0#64))⟩,
    ⟨some 5, none, .mov (.c (u64 0#64))⟩]
    [0, 1])
  (.seq (.region [⟨some 14, none, .mov (.t 0)⟩,
    ⟨some 15, none, .bin .and (.t 14) (.c (u64 4294967295#64))⟩,
    ⟨some 6, none, .mov (.t 15)⟩]
    [0, 1, 6])
  (.seq (.region [⟨some 16, none, .mov (.t 0)⟩,
    ⟨some 17, none, .bin .shr (.t 16) (.c (u64 32#64))⟩,
    ⟨some 7, none, .mov (.t 17)⟩]
    [0, 1, 6, 7])
  (.seq (.region [⟨some 18, none, .mov (.t 1)⟩,
    ⟨some 19, none, .bin .and (.t 18) (.c (u64 4294967295#64))⟩,
    ⟨some 8, none, .mov (.t 19)⟩]
    [0, 1, 6, 7, 8])
  (.seq (.region [⟨some 20, none, .mov (.t 1)⟩,
    ⟨some 21, none, .bin .shr (.t 20) (.c (u64 32#64))⟩,
    ⟨some 9, none, .mov (.t 21)⟩]
    [0, 1, 6, 7, 8, 9])
  (.seq (.region [⟨some 22, none, .mov (.t 6)⟩,
    ⟨some 23, none, .mov (.t 8)⟩,
    ⟨some 24, none, .bin .mul (.t 22) (.t 23)⟩,
    ⟨some 10, none, .mov (.t 24)⟩]
    [0, 1, 6, 7, 8, 9, 10])
  (.seq (.region [⟨some 25, none, .mov (.t 7)⟩,
    ⟨some 26, none, .mov (.t 8)⟩,
    ⟨some 27, none, .bin .mul (.t 25) (.t 26)⟩,
    ⟨some 28, none, .mov (.t 10)⟩,
    ⟨some 29, none, .bin .shr (.t 28) (.c (u64 32#64))⟩,
    ⟨some 30, none, .bin .add (.t 27) (.t 29)⟩,
    ⟨some 11, none, .mov (.t 30)⟩]
    [0, 1, 6, 7, 9, 11])
  (.seq (.region [⟨some 31, none, .mov (.t 11)⟩,
    ⟨some 32, none, .bin .and (.t 31) (.c (u64 4294967295#64))⟩,
    ⟨some 12, none, .mov (.t 32)⟩]
    [0, 1, 6, 7, 9, 11, 12])
  (.seq (.region [⟨some 33, none, .mov (.t 11)⟩,
    ⟨some 34, none, .bin .shr (.t 33) (.c (u64 32#64))⟩,
    ⟨some 13, none, .mov (.t 34)⟩]
    [0, 1, 6, 7, 9, 12, 13])
  (.seq (.region [⟨some 35, none, .mov (.t 12)⟩,
    ⟨some 36, none, .mov (.t 6)⟩,
    ⟨some 37, none, .mov (.t 9)⟩,
    ⟨some 38, none, .bin .mul (.t 36) (.t 37)⟩,
    ⟨some 39, none, .bin .add (.t 35) (.t 38)⟩,
    ⟨some 12, none, .mov (.t 39)⟩]
    [0, 1, 7, 9, 12, 13])
  (.seq (.region [⟨some 40, none, .mov (.t 7)⟩,
    ⟨some 41, none, .mov (.t 9)⟩,
    ⟨some 42, none, .bin .mul (.t 40) (.t 41)⟩,
    ⟨some 43, none, .mov (.t 13)⟩,
    ⟨some 44, none, .bin .add (.t 42) (.t 43)⟩,
    ⟨some 45, none, .mov (.t 12)⟩,
    ⟨some 46, none, .bin .shr (.t 45) (.c (u64 32#64))⟩,
    ⟨some 47, none, .bin .add (.t 44) (.t 46)⟩,
    ⟨some 4, none, .mov (.t 47)⟩]
    [0, 1, 4])
  (.seq (.region [⟨some 48, none, .mov (.t 0)⟩,
    ⟨some 49, none, .mov (.t 1)⟩,
    ⟨some 50, none, .bin .mul (.t 48) (.t 49)⟩,
    ⟨some 5, none, .mov (.t 50)⟩]
    [4, 5])
  .ret))))))))))))⟩

def tab0 : List (Nat × FEnt) := [(F.law06_HeapPlays, .rc RC.law06_HeapPlays),
  (F.law06_HeapSorts, .rc RC.law06_HeapSorts),
  (F.law06_HeapNobody, .rc RC.law06_HeapNobody),
  (F.heap_New, .rc RC.heap_New),
  (F.law06_awake, .rc RC.law06_awake),
  (F.ref06_Put, .rc RC.ref06_Put),
  (F.heap_Heap_Put, .rc RC.heap_Heap_Put),
  (F.ref06_Remove, .rc RC.ref06_Remove),
  (F.heap_Heap_Remove, .rc RC.heap_Heap_Remove),
  (F.ref06_Min, .rc RC.ref06_Min),
  (F.heap_Heap_Pop, .rc RC.heap_Heap_Pop),
  (F.heap_Heap_Min, .rc RC.heap_Heap_Min),
  (F.heap_Heap_Key, .rc RC.heap_Heap_Key),
  (F.ref06_Key, .rc RC.ref06_Key),
  (F.heap_Heap_Len, .rc RC.heap_Heap_Len),
  (F.ref02_Compare, .rc RC.ref02_Compare),
  (F.heap_Heap_up, .rc RC.heap_Heap_up),
  (F.heap_Heap_down, .rc RC.heap_Heap_down),
  (F.heap_Heap_has, .rc RC.heap_Heap_has),
  (F.heap_Heap_swap, .rc RC.heap_Heap_swap),
  (F.ref06_ahead, .rc RC.ref06_ahead),
  (F.ref02_Times, .rc RC.ref02_Times),
  (F.heap_Heap_ahead, .rc RC.heap_Heap_ahead),
  (F.ref02_Twice, .rc RC.ref02_Twice),
  (F.ref02_Sum, .rc RC.ref02_Sum),
  (F.fixq_Compare, .rc RC.fixq_Compare),
  (F.math_bits_Mul64, .rc RC.math_bits_Mul64)]
/-- What each number stands for. -/
def R0 : Nat → Option FEnt := lookF tab0
/-- The same, with the examples as known. -/
def tab : List (Nat × FEnt) := (F.law06_awake, .ext X.ok) :: tab0
def R : Nat → Option FEnt := lookF tab
theorem R.law06_awake : R F.law06_awake = some (.ext X.ok) := by with_unfolding_all rfl
theorem R.law06_HeapPlays : R F.law06_HeapPlays = some (.rc RC.law06_HeapPlays) := by with_unfolding_all rfl
theorem R.law06_HeapSorts : R F.law06_HeapSorts = some (.rc RC.law06_HeapSorts) := by with_unfolding_all rfl
theorem R.law06_HeapNobody : R F.law06_HeapNobody = some (.rc RC.law06_HeapNobody) := by with_unfolding_all rfl
theorem R.heap_New : R F.heap_New = some (.rc RC.heap_New) := by with_unfolding_all rfl
theorem R.ref06_Put : R F.ref06_Put = some (.rc RC.ref06_Put) := by with_unfolding_all rfl
theorem R.heap_Heap_Put : R F.heap_Heap_Put = some (.rc RC.heap_Heap_Put) := by with_unfolding_all rfl
theorem R.ref06_Remove : R F.ref06_Remove = some (.rc RC.ref06_Remove) := by with_unfolding_all rfl
theorem R.heap_Heap_Remove : R F.heap_Heap_Remove = some (.rc RC.heap_Heap_Remove) := by with_unfolding_all rfl
theorem R.ref06_Min : R F.ref06_Min = some (.rc RC.ref06_Min) := by with_unfolding_all rfl
theorem R.heap_Heap_Pop : R F.heap_Heap_Pop = some (.rc RC.heap_Heap_Pop) := by with_unfolding_all rfl
theorem R.heap_Heap_Min : R F.heap_Heap_Min = some (.rc RC.heap_Heap_Min) := by with_unfolding_all rfl
theorem R.heap_Heap_Key : R F.heap_Heap_Key = some (.rc RC.heap_Heap_Key) := by with_unfolding_all rfl
theorem R.ref06_Key : R F.ref06_Key = some (.rc RC.ref06_Key) := by with_unfolding_all rfl
theorem R.heap_Heap_Len : R F.heap_Heap_Len = some (.rc RC.heap_Heap_Len) := by with_unfolding_all rfl
theorem R.ref02_Compare : R F.ref02_Compare = some (.rc RC.ref02_Compare) := by with_unfolding_all rfl
theorem R.heap_Heap_up : R F.heap_Heap_up = some (.rc RC.heap_Heap_up) := by with_unfolding_all rfl
theorem R.heap_Heap_down : R F.heap_Heap_down = some (.rc RC.heap_Heap_down) := by with_unfolding_all rfl
theorem R.heap_Heap_has : R F.heap_Heap_has = some (.rc RC.heap_Heap_has) := by with_unfolding_all rfl
theorem R.heap_Heap_swap : R F.heap_Heap_swap = some (.rc RC.heap_Heap_swap) := by with_unfolding_all rfl
theorem R.ref06_ahead : R F.ref06_ahead = some (.rc RC.ref06_ahead) := by with_unfolding_all rfl
theorem R.ref02_Times : R F.ref02_Times = some (.rc RC.ref02_Times) := by with_unfolding_all rfl
theorem R.heap_Heap_ahead : R F.heap_Heap_ahead = some (.rc RC.heap_Heap_ahead) := by with_unfolding_all rfl
theorem R.ref02_Twice : R F.ref02_Twice = some (.rc RC.ref02_Twice) := by with_unfolding_all rfl
theorem R.ref02_Sum : R F.ref02_Sum = some (.rc RC.ref02_Sum) := by with_unfolding_all rfl
theorem R.fixq_Compare : R F.fixq_Compare = some (.rc RC.fixq_Compare) := by with_unfolding_all rfl
theorem R.math_bits_Mul64 : R F.math_bits_Mul64 = some (.rc RC.math_bits_Mul64) := by with_unfolding_all rfl
end Go.Am


/- The table of the layer heap is as the program has it. Printed by lawgen.py. -/
namespace Go.Am
open Go.Proofs
set_option maxRecDepth 100000

/-- Nothing is asked of the world. -/
def G : Nat → World → Prop := fun _ _ => True
instance : Keeps G := ⟨fun _ _ _ _ h => h⟩
instance : Rises G := ⟨fun _ _ _ _ h => h⟩
theorem hmix : Try.prog.follows .mixedOrders = true := by kernel_rfl
theorem E.law06_HeapPlays : EntOk Try.prog G F.law06_HeapPlays (.rc RC.law06_HeapPlays) := ⟨Try.f3, by unfold F.law06_HeapPlays; exact Try.func3, by kernel_rfl, by kernel_rfl⟩
theorem E.law06_HeapSorts : EntOk Try.prog G F.law06_HeapSorts (.rc RC.law06_HeapSorts) := ⟨Try.f4, by unfold F.law06_HeapSorts; exact Try.func4, by kernel_rfl, by kernel_rfl⟩
theorem E.law06_HeapNobody : EntOk Try.prog G F.law06_HeapNobody (.rc RC.law06_HeapNobody) := ⟨Try.f5, by unfold F.law06_HeapNobody; exact Try.func5, by kernel_rfl, by kernel_rfl⟩
theorem E.heap_New : EntOk Try.prog G F.heap_New (.rc RC.heap_New) := ⟨Try.f6, by unfold F.heap_New; exact Try.func6, by kernel_rfl, by kernel_rfl⟩
theorem E.law06_awake : EntOk Try.prog G F.law06_awake (.rc RC.law06_awake) := ⟨Try.f7, by unfold F.law06_awake; exact Try.func7, by kernel_rfl, by kernel_rfl⟩
theorem E.ref06_Put : EntOk Try.prog G F.ref06_Put (.rc RC.ref06_Put) := ⟨Try.f8, by unfold F.ref06_Put; exact Try.func8, by kernel_rfl, by kernel_rfl⟩
theorem E.heap_Heap_Put : EntOk Try.prog G F.heap_Heap_Put (.rc RC.heap_Heap_Put) := ⟨Try.f9, by unfold F.heap_Heap_Put; exact Try.func9, by kernel_rfl, by kernel_rfl⟩
theorem E.ref06_Remove : EntOk Try.prog G F.ref06_Remove (.rc RC.ref06_Remove) := ⟨Try.f10, by unfold F.ref06_Remove; exact Try.func10, by kernel_rfl, by kernel_rfl⟩
theorem E.heap_Heap_Remove : EntOk Try.prog G F.heap_Heap_Remove (.rc RC.heap_Heap_Remove) := ⟨Try.f11, by unfold F.heap_Heap_Remove; exact Try.func11, by kernel_rfl, by kernel_rfl⟩
theorem E.ref06_Min : EntOk Try.prog G F.ref06_Min (.rc RC.ref06_Min) := ⟨Try.f12, by unfold F.ref06_Min; exact Try.func12, by kernel_rfl, by kernel_rfl⟩
theorem E.heap_Heap_Pop : EntOk Try.prog G F.heap_Heap_Pop (.rc RC.heap_Heap_Pop) := ⟨Try.f13, by unfold F.heap_Heap_Pop; exact Try.func13, by kernel_rfl, by kernel_rfl⟩
theorem E.heap_Heap_Min : EntOk Try.prog G F.heap_Heap_Min (.rc RC.heap_Heap_Min) := ⟨Try.f14, by unfold F.heap_Heap_Min; exact Try.func14, by kernel_rfl, by kernel_rfl⟩
theorem E.heap_Heap_Key : EntOk Try.prog G F.heap_Heap_Key (.rc RC.heap_Heap_Key) := ⟨Try.f15, by unfold F.heap_Heap_Key; exact Try.func15, by kernel_rfl, by kernel_rfl⟩
theorem E.ref06_Key : EntOk Try.prog G F.ref06_Key (.rc RC.ref06_Key) := ⟨Try.f16, by unfold F.ref06_Key; exact Try.func16, by kernel_rfl, by kernel_rfl⟩
theorem E.heap_Heap_Len : EntOk Try.prog G F.heap_Heap_Len (.rc RC.heap_Heap_Len) := ⟨Try.f17, by unfold F.heap_Heap_Len; exact Try.func17, by kernel_rfl, by kernel_rfl⟩
theorem E.ref02_Compare : EntOk Try.prog G F.ref02_Compare (.rc RC.ref02_Compare) := ⟨Try.f18, by unfold F.ref02_Compare; exact Try.func18, by kernel_rfl, by kernel_rfl⟩
theorem E.heap_Heap_up : EntOk Try.prog G F.heap_Heap_up (.rc RC.heap_Heap_up) := ⟨Try.f19, by unfold F.heap_Heap_up; exact Try.func19, by kernel_rfl, by kernel_rfl⟩
theorem E.heap_Heap_down : EntOk Try.prog G F.heap_Heap_down (.rc RC.heap_Heap_down) := ⟨Try.f20, by unfold F.heap_Heap_down; exact Try.func20, by kernel_rfl, by kernel_rfl⟩
theorem E.heap_Heap_has : EntOk Try.prog G F.heap_Heap_has (.rc RC.heap_Heap_has) := ⟨Try.f21, by unfold F.heap_Heap_has; exact Try.func21, by kernel_rfl, by kernel_rfl⟩
theorem E.heap_Heap_swap : EntOk Try.prog G F.heap_Heap_swap (.rc RC.heap_Heap_swap) := ⟨Try.f22, by unfold F.heap_Heap_swap; exact Try.func22, by kernel_rfl, by kernel_rfl⟩
theorem E.ref06_ahead : EntOk Try.prog G F.ref06_ahead (.rc RC.ref06_ahead) := ⟨Try.f23, by unfold F.ref06_ahead; exact Try.func23, by kernel_rfl, by kernel_rfl⟩
theorem E.ref02_Times : EntOk Try.prog G F.ref02_Times (.rc RC.ref02_Times) := ⟨Try.f24, by unfold F.ref02_Times; exact Try.func24, by kernel_rfl, by kernel_rfl⟩
theorem E.heap_Heap_ahead : EntOk Try.prog G F.heap_Heap_ahead (.rc RC.heap_Heap_ahead) := ⟨Try.f25, by unfold F.heap_Heap_ahead; exact Try.func25, by kernel_rfl, by kernel_rfl⟩
theorem E.ref02_Twice : EntOk Try.prog G F.ref02_Twice (.rc RC.ref02_Twice) := ⟨Try.f26, by unfold F.ref02_Twice; exact Try.func26, by kernel_rfl, by kernel_rfl⟩
theorem E.ref02_Sum : EntOk Try.prog G F.ref02_Sum (.rc RC.ref02_Sum) := ⟨Try.f27, by unfold F.ref02_Sum; exact Try.func27, by kernel_rfl, by kernel_rfl⟩
theorem E.fixq_Compare : EntOk Try.prog G F.fixq_Compare (.rc RC.fixq_Compare) := ⟨Try.f28, by unfold F.fixq_Compare; exact Try.func28, by kernel_rfl, by kernel_rfl⟩
theorem E.math_bits_Mul64 : EntOk Try.prog G F.math_bits_Mul64 (.rc RC.math_bits_Mul64) := ⟨Try.f29, by unfold F.math_bits_Mul64; exact Try.func29, by kernel_rfl, by kernel_rfl⟩
theorem ents : EntsOk Try.prog G tab0 := ⟨E.law06_HeapPlays, E.law06_HeapSorts, E.law06_HeapNobody, E.heap_New, E.law06_awake, E.ref06_Put, E.heap_Heap_Put, E.ref06_Remove, E.heap_Heap_Remove, E.ref06_Min, E.heap_Heap_Pop, E.heap_Heap_Min, E.heap_Heap_Key, E.ref06_Key, E.heap_Heap_Len, E.ref02_Compare, E.heap_Heap_up, E.heap_Heap_down, E.heap_Heap_has, E.heap_Heap_swap, E.ref06_ahead, E.ref02_Times, E.heap_Heap_ahead, E.ref02_Twice, E.ref02_Sum, E.fixq_Compare, E.math_bits_Mul64, trivial⟩
theorem tabOk0 : TabOk Try.prog G R0 := TabOk.of ents
theorem C.law06_awake : EntOk Try.prog G F.law06_awake (.ext X.ok) := X.ok_sim (const_sim hmix tabOk0 (n := 1000) (by kernel_rfl))
theorem tabOk : TabOk Try.prog G R := TabOk.of (l := tab) (⟨C.law06_awake, ents⟩)
end Go.Am


/- Blocks, by their numbers: loads and stores as what they do to a block's cells. -/
set_option linter.unusedVariables false
namespace Go.Am

def ldW : Option AObj → Nat → Option Value
  | some (.cells c _), o => c[o]?
  | _, _ => none
def ldA : Option AObj → Nat → Nat → Option Value
  | some (.cells c _), o, sz => if o + sz ≤ c.length then some (.agg ((c.drop o).take sz).toArray) else none
  | _, _, _ => none
def stB (m : Mem) (b : Nat) : Option AObj → Nat → List Value → Option Mem
  | some (.cells c (some u)), o, vs => if o + vs.length ≤ c.length ∧ oneCells vs = true then some (m.set b (some (.cells (writeL c o vs) (some u)))) else none
  | _, _, _ => none

theorem ldW_c {c : List Value} {own : Option Nat} {o : Nat} : ldW (some (.cells c own)) o = c[o]? := rfl
theorem ldA_c {c : List Value} {own : Option Nat} {o sz : Nat} : ldA (some (.cells c own)) o sz = if o + sz ≤ c.length then some (.agg ((c.drop o).take sz).toArray) else none := rfl
theorem stB_c {m : Mem} {b u o : Nat} {c vs : List Value} : stB m b (some (.cells c (some u))) o vs = if o + vs.length ≤ c.length ∧ oneCells vs = true then some (m.set b (some (.cells (writeL c o vs) (some u)))) else none := rfl

theorem load_w {m : Mem} {sz b o : Nat} : aLoad false sz m (.pointer (some ⟨b, o, none⟩)) = ldW (m.blk b) o := by
  simp only [aLoad, Bool.false_eq_true, if_false]
  unfold ldW
  split <;> simp_all
theorem load_a {m : Mem} {sz b o : Nat} : aLoad true sz m (.pointer (some ⟨b, o, none⟩)) = ldA (m.blk b) o sz := by
  simp only [aLoad, if_true]
  unfold ldA
  split <;> simp_all
theorem store_b {m : Mem} {sz b o : Nat} {v : Value} : aStore sz m (.pointer (some ⟨b, o, none⟩)) v = if v.cells.size = sz then stB m b (m.blk b) o v.cells.toList else none := by
  simp only [aStore]
  split
  · unfold aWrite stB
    split <;> simp_all
  · rfl
theorem idxS_b {u b o n c : Nat} {k : IntKind} {i : Int} : aIdxS u (.slice (some ⟨b, o, none⟩) n c) (.int k i) = if 0 ≤ i ∧ i < n then some (.pointer (some ⟨b, o + i.toNat * u, none⟩)) else none := rfl
theorem set_blk {m : Mem} {b k : Nat} {o : Option AObj} : (m.set b o).blk k = if k = b then o else m.blk k := rfl
theorem new_blk {m : Mem} {k : Nat} {o : AObj} : (m.new o).blk k = if k = m.next then some o else m.blk k := rfl
theorem set_next {m : Mem} {b : Nat} {o : Option AObj} : (m.set b o).next = m.next := rfl
theorem new_next {m : Mem} {o : AObj} : (m.new o).next = m.next + 1 := rfl
theorem len_s {a : Option Addr} {n c : Nat} : aLen (.slice a n c) = some (.int .i64 n) := rfl
theorem writeL_one {cs : List Value} {i : Nat} {v : Value} (h : i < cs.length) : writeL cs i [v] = cs.set i v := writeL_set h
theorem toArr_one {v : Value} : (#[v] : Array Value).toList = [v] := rfl
theorem size_one {v : Value} : (#[v] : Array Value).size = 1 := rfl
theorem toList_toArr {l : List Value} : l.toArray.toList = l := rfl
theorem size_toArr {l : List Value} : l.toArray.size = l.length := by simp

/-- What is at these blocks may have changed; all else is as it was. -/
structure Upd (m m' : Mem) (fp : List Nat) : Prop where
  next : m.next ≤ m'.next
  same : ∀ b, b < m.next → b ∉ fp → m'.blk b = m.blk b

theorem Upd.refl (m : Mem) (fp : List Nat) : Upd m m fp := ⟨Nat.le_refl _, fun _ _ _ => rfl⟩
theorem Upd.trans {a b c : Mem} {fp fq fr : List Nat} (h : Upd a b fp) (k : Upd b c fq) (h1 : ∀ x ∈ fp, x ∈ fr) (h2 : ∀ x ∈ fq, x ∈ fr ∨ a.next ≤ x) : Upd a c fr :=
  ⟨Nat.le_trans h.next k.next, fun x hx hn => by
    rw [k.same x (Nat.lt_of_lt_of_le hx h.next) (fun hm => by rcases h2 x hm with h3 | h3; exact hn h3; omega), h.same x hx (fun hm => hn (h1 x hm))]⟩
theorem Ext.upd {m m' : Mem} (h : Ext m m') {fp : List Nat} : Upd m m' fp := ⟨h.next, fun b hb _ => h.same b hb⟩
theorem Upd.ext {m m' : Mem} (h : Upd m m' []) : Ext m m' := ⟨h.next, fun b hb => h.same b hb (by simp)⟩
theorem Upd.set {m : Mem} {b : Nat} {o : Option AObj} {fp : List Nat} (h : b ∈ fp) : Upd m (m.set b o) fp :=
  ⟨Nat.le_refl _, fun x hx hn => by rw [set_blk, if_neg (fun e => hn (by rw [e]; exact h))]⟩
/-- Only blocks from some number on have changed. -/
theorem Upd.ext_of {m0 m m' : Mem} {fp : List Nat} (h0 : Ext m0 m) (h : Upd m m' fp) (hf : ∀ x ∈ fp, m0.next ≤ x) : Ext m0 m' :=
  ⟨Nat.le_trans h0.next h.next, fun b hb => by
    rw [h.same b (Nat.lt_of_lt_of_le hb h0.next) (fun hm => by have := hf b hm; omega), h0.same b hb]⟩
end Go.Am


/- More of slices that grow: whole slices put behind. -/
set_option linter.unusedVariables false
namespace Go.Am

theorem Sl.src {m : Mem} {u k : Nat} {xs : List Value} {x : Value} (h : Sl m u k xs x) : aSrc u k m x = some xs ∧ sliceLen x = some k := by
  cases h with
  | nil h hc => subst h; subst hc; exact ⟨rfl, rfl⟩
  | «at» hc h =>
    refine ⟨?_, rfl⟩
    simp only [aSrc]
    split
    · rename_i e; subst e
      have := aCells_len h
      rw [Nat.zero_mul] at this
      rw [List.eq_nil_of_length_eq_zero this]
    · rw [if_pos (Nat.le_refl _)]; exact h

/-- All of a slice behind one's own. -/
theorem Own.appAll {m0 m : Mem} {u n k by_ : Nat} {cs xs : List Value} {v x : Value} (h : Own m0 m u n cs v) (hx : Ext m0 m) (hs : Sl m u k xs x) (h1 : oneCells xs = true) (hby : (n + k) * by_ ≤ 2 ^ 47) (hn : n + k < 2 ^ 62) (hfull : ∀ a p q, v = .slice a p q → p = q) :
    ∃ v' m', aApp none u by_ m v x = some (v', m') ∧ Own m0 m' u (n + k) (cs ++ xs) v' ∧ Ext m0 m' := by
  obtain ⟨hsrc, hlen⟩ := hs.src
  have hxl := hs.length
  cases h with
  | nil h hc =>
    subst h; subst hc
    by_cases hk : k = 0
    · subst hk
      refine ⟨.slice none 0 0, m, by simp [aApp, hlen, hsrc], .nil rfl ?_, hx⟩
      rw [Nat.zero_mul] at hxl
      rw [List.eq_nil_of_length_eq_zero hxl]; rfl
    · refine ⟨.slice (some ⟨m.next, 0, none⟩) k k, m.new (.cells xs (some u)), ?_, ?_, hx.trans Ext.new⟩
      · simp only [aApp, hlen, Option.bind_some, hsrc, hk, if_false]
        rw [if_pos ⟨by simpa using hby, by simpa using hn, h1⟩]
        rfl
      · rw [Nat.zero_add, List.nil_append]
        exact .at (all := xs) hx.next (by simp [Mem.new]) (Nat.le_refl _) (by simp [Mem.new]) hxl (by rw [← hxl, List.take_length]) h1
  | @«at» b c all hb hb2 hnc hm hl hcs hone =>
    by_cases hk : k = 0
    · subst hk
      rw [Nat.zero_mul] at hxl
      have hxs := List.eq_nil_of_length_eq_zero hxl
      subst hxs
      refine ⟨.slice (some ⟨b, 0, none⟩) n c, m, ?_, by rw [List.append_nil]; exact .at hb hb2 hnc hm hl hcs hone, hx⟩
      simp only [aApp, hlen, Option.bind_some, hsrc, if_true]
      rw [if_pos ⟨hnc, by rw [hm]; rfl⟩]
    · by_cases hroom : n + k ≤ c
      · have hle : n * u + k * u ≤ c * u := by rw [← Nat.add_mul]; exact Nat.mul_le_mul_right _ hroom
        refine ⟨.slice (some ⟨b, 0, none⟩) (n + k) c, m.set b (some (.cells (writeL all (n * u) xs) (some u))), ?_, ?_, hx.set hb⟩
        · simp only [aApp, hlen, Option.bind_some, hsrc, hk, if_false, Nat.zero_add]
          rw [if_pos hroom]
          unfold aWrite
          rw [hm]
          simp only
          rw [if_pos ⟨by omega, h1⟩]; rfl
        · refine .at (all := writeL all (n * u) xs) hb (by simpa [Mem.set] using hb2) hroom (by simp [Mem.set]) ?_ ?_ (oneCells_append hone h1)
          · unfold writeL; simp; omega
          · unfold writeL
            rw [Nat.add_mul, List.append_assoc, List.take_append]
            have e : (all.take (n * u)).length = n * u := by simp; omega
            rw [e, List.take_of_length_le (by omega), show n * u + k * u - n * u = xs.length by omega, List.take_left, hcs]
      · have hcn : n = c := hfull _ _ _ rfl
        subst hcn
        have hall : all.take (n * u) = all := by rw [← hl, List.take_length]
        rw [hall] at hcs
        subst hcs
        refine ⟨.slice (some ⟨m.next, 0, none⟩) (n + k) (n + k), (m.set b none).new (.cells (all ++ xs) (some u)), ?_, ?_, (hx.set hb).trans Ext.new⟩
        · simp only [aApp, hlen, Option.bind_some, hsrc, hk, if_false, Nat.zero_add]
          rw [if_neg hroom, hm]
          simp only [List.drop_zero, hall]
          rw [if_pos ⟨hby, hn, h1, hone, Nat.le_refl _, by omega, .inr ⟨by first | rfl | trivial, .inr (by first | rfl | trivial)⟩⟩]
          simp only [Option.isSome_some, true_and, hl, if_true, place]
          rfl
        · refine .at (all := all ++ xs) (by have := hx.next; omega) (by simp [Mem.new, Mem.set]) (Nat.le_refl _) (by simp [Mem.new, Mem.set]) (by simp [hl, hxl, Nat.add_mul]) ?_ (oneCells_append hone h1)
          rw [Nat.add_mul, List.take_of_length_le (by simp; omega)]

/-- A slice, copied: what stands behind an empty one. -/
theorem app_copy {m : Mem} {u k by_ : Nat} {xs : List Value} {x : Value} (hs : Sl (m.new (.cells [] (some u))) u k xs x) (h1 : oneCells xs = true) (hby : k * by_ ≤ 2 ^ 47) (hn : k < 2 ^ 62) :
    ∃ v' m', aApp none u by_ (m.new (.cells [] (some u))) (.slice (some ⟨m.next, 0, none⟩) 0 0) x = some (v', m') ∧ Own m m' u k xs v' ∧ Ext m m' := by
  have ho : Own m (m.new (.cells [] (some u))) u 0 [] (.slice (some ⟨m.next, 0, none⟩) 0 0) :=
    .at (all := []) (Nat.le_refl _) (by simp [Mem.new]) (Nat.le_refl _) (by simp [Mem.new]) (by simp) (by simp) rfl
  have := ho.appAll (by_ := by_) Ext.new hs h1 (by simpa using hby) (by simpa using hn) (by intro a p q h; cases h; rfl)
  simpa using this

/-- The same, with where it stands. -/
theorem app_copy_at {m : Mem} {u k by_ : Nat} {xs : List Value} {x : Value} (hs : Sl (m.new (.cells [] (some u))) u k xs x) (h1 : oneCells xs = true) (hby : k * by_ ≤ 2 ^ 47) (hn : k < 2 ^ 62) (hk : k ≠ 0) :
    ∃ m', aApp none u by_ (m.new (.cells [] (some u))) (.slice (some ⟨m.next, 0, none⟩) 0 0) x = some (.slice (some ⟨m.next + 1, 0, none⟩) k k, m') ∧ m'.blk (m.next + 1) = some (.cells xs (some u)) ∧ m'.next = m.next + 2 ∧ Ext m m' := by
  obtain ⟨hsrc, hlen⟩ := hs.src
  refine ⟨((m.new (.cells [] (some u))).set m.next none).new (.cells xs (some u)), ?_, by simp [Mem.new, Mem.set], by simp [Mem.new, Mem.set], (Ext.new.set (Nat.le_refl _)).trans Ext.new⟩
  have hb : (m.new (.cells [] (some u))).blk m.next = some (.cells [] (some u)) := by simp [Mem.new]
  simp only [aApp, hlen, Option.bind_some, hsrc, hk, if_false, Nat.zero_add]
  rw [if_neg (by omega), hb]
  simp only [List.drop_nil, List.take_nil, Nat.zero_mul, List.length_nil, List.nil_append]
  rw [if_pos ⟨by simpa using hby, by simpa using hn, h1, by first | rfl | trivial, Nat.le_refl _, Nat.le_refl _, .inr ⟨by first | rfl | trivial, .inr (by first | rfl | trivial)⟩⟩]
  simp [place, Mem.new, Mem.set]
  rfl

/-- The same behind nothing. -/
theorem app_nil {m : Mem} {u k by_ : Nat} {xs : List Value} {x : Value} (hs : Sl m u k xs x) (h1 : oneCells xs = true) (hby : k * by_ ≤ 2 ^ 47) (hn : k < 2 ^ 62) :
    ∃ v' m', aApp none u by_ m (.slice none 0 0) x = some (v', m') ∧ Own m m' u k xs v' ∧ Ext m m' := by
  have ho : Own m m u 0 [] (.slice none 0 0) := .nil rfl rfl
  have := ho.appAll (by_ := by_) (Ext.refl _) hs h1 (by simpa using hby) (by simpa using hn) (by intro a p q h; cases h; rfl)
  simpa using this

/-- A slice whose block is none of some. -/
def SlOff (fp : List Nat) : Value → Prop
  | .slice (some a) _ _ => a.block ∉ fp
  | _ => True

theorem Sl.upd {m m' : Mem} {u n : Nat} {cs : List Value} {v : Value} {fp : List Nat} (h : Sl m u n cs v) (hb : SlLt m v) (ho : SlOff fp v) (hx : Upd m m' fp) : Sl m' u n cs v := by
  cases h with
  | nil h hc => exact .nil h hc
  | «at» hc h =>
    refine .at hc ?_
    unfold aCells at h ⊢
    rw [hx.same _ hb ho]; exact h

theorem SlLt.upd {m m' : Mem} {v : Value} {fp : List Nat} (h : SlLt m v) (hx : Upd m m' fp) : SlLt m' v := by
  unfold SlLt at *
  split <;> simp_all
  exact Nat.lt_of_lt_of_le h hx.next

theorem Own.lt {m0 m : Mem} {u n : Nat} {cs : List Value} {v : Value} (h : Own m0 m u n cs v) : SlLt m v := by
  cases h with
  | nil h hc => trivial
  | «at» hb hb2 hn hm hl hcs h1 => exact hb2
theorem Own.off {m0 m : Mem} {u n : Nat} {cs : List Value} {v : Value} {fp : List Nat} (h : Own m0 m u n cs v) (hf : ∀ x ∈ fp, x < m0.next) : SlOff fp v := by
  cases h with
  | nil h hc => trivial
  | «at» hb hb2 hn hm hl hcs h1 => intro hm; have := hf _ hm; simp only at this; omega

/-- One more behind one's own, where the new block's number is given. -/
theorem Own.appAt {m0 m : Mem} {u n by_ q : Nat} {cs xs : List Value} {v x : Value} (h : Own m0 m u n cs v) (hx : Ext m0 m) (hs : Sl m u 1 xs x) (h1 : oneCells xs = true) (hby : (n + 1) * by_ ≤ 2 ^ 47) (hn : n + 1 < 2 ^ 62) (hq : m0.next ≤ q) (hq2 : q < m.next) (ho : SlOff [q] v) :
    ∃ v' m', aApp (some q) u by_ m v x = some (v', m') ∧ Own m0 m' u (n + 1) (cs ++ xs) v' ∧ Ext m0 m' := by
  obtain ⟨hsrc, hlen⟩ := hs.src
  have hxl := hs.length
  cases h with
  | nil h hc =>
    subst h; subst hc
    refine ⟨.slice (some ⟨q, 0, none⟩) 1 1, m.set q (some (.cells xs (some u))), ?_, ?_, hx.set hq⟩
    · simp only [aApp, hlen, Option.bind_some, hsrc, Nat.one_ne_zero, if_false]
      rw [if_pos ⟨by simpa using hby, by simp, h1⟩]
      rfl
    · rw [Nat.zero_add, List.nil_append]
      exact .at (all := xs) hq (by simpa [Mem.set] using hq2) (Nat.le_refl _) (by simp [Mem.set]) hxl (by rw [← hxl, List.take_length]) h1
  | @«at» b c all hb hb2 hnc hm hl hcs hone =>
    have hbq : b ≠ q := by intro e; subst e; simp [SlOff] at ho
    by_cases hroom : n + 1 ≤ c
    · have hle : n * u + 1 * u ≤ c * u := by rw [← Nat.add_mul]; exact Nat.mul_le_mul_right _ hroom
      refine ⟨.slice (some ⟨b, 0, none⟩) (n + 1) c, m.set b (some (.cells (writeL all (n * u) xs) (some u))), ?_, ?_, hx.set hb⟩
      · simp only [aApp, hlen, Option.bind_some, hsrc, Nat.one_ne_zero, if_false, Nat.zero_add]
        rw [if_pos hroom]
        unfold aWrite
        rw [hm]
        simp only
        rw [if_pos ⟨by omega, h1⟩]; rfl
      · refine .at (all := writeL all (n * u) xs) hb (by simpa [Mem.set] using hb2) hroom (by simp [Mem.set]) ?_ ?_ (oneCells_append hone h1)
        · unfold writeL; simp; omega
        · unfold writeL
          rw [Nat.add_mul, List.append_assoc, List.take_append]
          have e : (all.take (n * u)).length = n * u := by simp; omega
          rw [e, List.take_of_length_le (by omega), show n * u + 1 * u - n * u = xs.length by omega, List.take_left, hcs]
    · have hcn : n = c := by omega
      subst hcn
      have hall : all.take (n * u) = all := by rw [← hl, List.take_length]
      rw [hall] at hcs
      subst hcs
      refine ⟨.slice (some ⟨q, 0, none⟩) (n + 1) (n + 1), (m.set b none).set q (some (.cells (all ++ xs) (some u))), ?_, ?_, (hx.set hb).set hq⟩
      · simp only [aApp, hlen, Option.bind_some, hsrc, Nat.one_ne_zero, if_false, Nat.zero_add]
        rw [if_neg hroom, hm]
        simp only [List.drop_zero, hall]
        rw [if_pos ⟨hby, hn, h1, hone, Nat.le_refl _, by omega, .inr ⟨by first | rfl | trivial, .inr (by first | rfl | trivial)⟩⟩]
        simp only [Option.isSome_some, true_and, hl, if_true, place]
      · refine .at (all := all ++ xs) hq (by simpa [Mem.set] using hq2) (Nat.le_refl _) (by simp [Mem.set]) (by simp [hl, hxl, Nat.add_mul]) ?_ (oneCells_append hone h1)
        rw [Nat.add_mul, List.take_of_length_le (by simp; omega)]

/-- The same in an open order. -/
theorem Own.appD {m0 m : Mem} {u n by_ N s t : Nat} {cs es : List Value} {v : Value} (h : Own m0 m u n cs v) (hx : Ext m0 m) (he : es.length = u) (h1 : oneCells es = true) (hby : (n + 1) * by_ ≤ 2 ^ 47) (hn : n + 1 < 2 ^ 62) (hs : s < N) (ht : t < N) :
    ∃ v' m', aApp (some (m.next + t)) u by_ ((m.bump N).set (m.next + s) (some (.cells es (some u)))) v (.slice (some ⟨m.next + s, 0, none⟩) 1 1) = some (v', m') ∧ Own m0 m' u (n + 1) (cs ++ es) v' ∧ Ext m0 m' := by
  have hX : Ext m ((m.bump N).set (m.next + s) (some (.cells es (some u)))) := by
    refine Ext.set ⟨by simp, fun b hb => rfl⟩ (by omega)
  refine (h.keep hX).appAt (hx.trans hX) ?_ h1 hby hn (by have := hx.next; omega) (by simp [Mem.set]; omega) ?_
  · refine .at (Nat.le_refl _) ?_
    unfold aCells
    simp only [Mem.set, if_true, Nat.zero_add, List.drop_zero]
    rw [if_pos (by omega), Nat.one_mul, ← he, List.take_length]
  · have := h.lt
    revert this
    cases v <;> simp only [SlOff, SlLt] <;> try (intros; trivial)
    rename_i b _ _
    cases b <;> simp only [] <;> try (intros; trivial)
    intro h; simp; omega

/-- What a loop leaves may be told ahead, and used later. -/
theorem WL.mono {R : Nat → Option FEnt} {ks : List Nat} {c : RCode} {e : Env} {m : Mem} {Q Q' : Ex → Env → Mem → Prop} (h : WL R ks c e m Q) (hq : ∀ x e m, Q x e m → Q' x e m) : WL R ks c e m Q' := by
  intro Z hZ
  refine h Z fun e m hz => hZ e m (wp.mono (fun x e' m' hx => ?_) hz)
  exact onNormal.mono (fun _ _ _ h => hq _ _ _ h) (fun e m h => h) hx

theorem watchOk_nil {e : Env} {m m' : Mem} : watchOk e m m' [] = True := (rfl)
theorem watchOk_cons {e : Env} {m m' : Mem} {x : Nat} {r : List Nat} : watchOk e m m' (x :: r) = ((match Env.get e x with | some v => (match blkOf v with | some b => m'.blk b = m.blk b | none => True) | none => False) ∧ watchOk e m m' r) := (rfl)
theorem blkOf_ptr {b o : Nat} : blkOf (.pointer (some ⟨b, o, none⟩)) = some b := (rfl)
theorem blkOf_undef : blkOf undef = none := (rfl)
theorem blkOf_int {k : IntKind} {a : Int} : blkOf (.int k a) = none := (rfl)
attribute [go_sem] watchOk_nil watchOk_cons blkOf_ptr blkOf_undef blkOf_int
theorem load_bump {w : Bool} {u n : Nat} {m : Mem} {p : Value} : aLoad w u (m.bump n) p = aLoad w u m p := (rfl)
theorem blk_bump {n : Nat} {m : Mem} : (m.bump n).blk = m.blk := (rfl)
attribute [go_sem] load_bump blk_bump
theorem Ext.bump {m : Mem} {n : Nat} : Ext m (m.bump n) := ⟨by simp, fun b hb => rfl⟩

/-! ### parts of slices, copies -/

theorem unitOk_own {m : Mem} {b u : Nat} {cs : List Value} (h : m.blk b = some (.cells cs (some u))) : unitOk u m b = true := by unfold unitOk; rw [h]; simp

theorem sub_from {m : Mem} {b o n c u : Nat} {k : IntKind} {i : Nat} (hu : unitOk u m b = true) (h : i ≤ n) (hc : n ≤ c) :
    aSub u m (.slice (some ⟨b, o, none⟩) n c) (some (.int k i)) none none = some (.slice (some ⟨b, o + i * u, none⟩) (n - i) (c - i)) := by
  simp only [aSub, hu, if_true, aBounds, aBound]
  simp [h, cutAt, hc, Int.toNat_natCast]

theorem sub_to {m : Mem} {b o n c u : Nat} {k : IntKind} {i : Nat} (hu : unitOk u m b = true) (h : i ≤ c) :
    aSub u m (.slice (some ⟨b, o, none⟩) n c) none (some (.int k i)) none = some (.slice (some ⟨b, o, none⟩) i c) := by
  simp only [aSub, hu, if_true, aBounds, aBound]
  simp [h, cutAt, Int.toNat_natCast]

theorem sub_both {m : Mem} {b o n c u : Nat} {k k' : IntKind} {i j : Nat} (hu : unitOk u m b = true) (h : i ≤ j) (hj : j ≤ c) :
    aSub u m (.slice (some ⟨b, o, none⟩) n c) (some (.int k i)) (some (.int k' j)) none = some (.slice (some ⟨b, o + i * u, none⟩) (j - i) (c - i)) := by
  simp only [aSub, hu, if_true, aBounds, aBound]
  simp [h, hj, cutAt, Int.toNat_natCast]

/-- A copy into one's own block. -/
theorem copy_into {m : Mem} {b o n c u k : Nat} {cs xs : List Value} {x : Value} (hm : m.blk b = some (.cells cs (some u))) (hs : aSrc u (Nat.min k n) m x = some xs) (hl : sliceLen x = some k) (h1 : oneCells xs = true) (hx : xs.length = (Nat.min k n) * u) (ho : o + n * u ≤ cs.length) :
    aCopy u m (.slice (some ⟨b, o, none⟩) n c) x = some (.int .i64 (Nat.min k n : Nat), m.set b (some (.cells (writeL cs o xs) (some u)))) := by
  have hd : sliceLen (.slice (some ⟨b, o, none⟩) n c) = some n := rfl
  simp only [aCopy, hd, hl, Option.bind_some, hs]
  have hle : (Nat.min k n) * u ≤ n * u := Nat.mul_le_mul_right _ (Nat.min_le_right _ _)
  by_cases h0 : Nat.min k n = 0
  · rw [if_pos h0, h0]
    rw [h0, Nat.zero_mul] at hx
    have := List.eq_nil_of_length_eq_zero hx
    subst this
    have e : writeL cs o [] = cs := by unfold writeL; simp
    rw [e]
    have : m.set b (some (.cells cs (some u))) = m := by
      unfold Mem.set; congr 1; funext q; split
      · rename_i e; subst e; exact hm.symm
      · rfl
    rw [this]; rfl
  · rw [if_neg h0]
    unfold aWrite
    rw [hm]
    simp only
    rw [if_pos ⟨by omega, h1⟩]; rfl

theorem make_eq {m : Mem} {u by_ n : Nat} {z : List Value} {k k' : IntKind} (h1 : n < 2 ^ 62) (h2 : n * by_ ≤ 2 ^ 47) (h3 : z.length = u) (h4 : oneCells z = true) :
    aMake none u by_ z m (.int k n) (.int k' n) = some (.slice (some ⟨m.next, 0, none⟩) n n, m.new (.cells (zeros z n) (some u))) := by
  simp only [aMake, place]
  rw [if_pos ⟨by omega, by omega, by omega, by omega, h3, h4⟩, Int.toNat_natCast]

theorem zeros_int {n : Nat} : zeros [.int .i64 0] n = intsZ (List.replicate n 0) := by
  induction n with
  | zero => rfl
  | succ n ih => simp [zeros, ih, intsZ, List.replicate_succ]

/-! ### elements of more than one cell -/

theorem flat_len {α : Type} {f : α → List Value} {u : Nat} (hf : ∀ a, (f a).length = u) : ∀ {l : List α}, (l.flatMap f).length = l.length * u
  | [] => by simp
  | a :: l => by rw [List.flatMap_cons, List.length_append, hf, flat_len hf, List.length_cons, Nat.succ_mul]; omega

theorem flat_drop {α : Type} {f : α → List Value} {u : Nat} (hf : ∀ a, (f a).length = u) : ∀ {l : List α} {i : Nat} (h : i < l.length), ((l.flatMap f).drop (i * u)).take u = f l[i]
  | a :: l, 0, _ => by rw [Nat.zero_mul, List.drop_zero, List.flatMap_cons, ← hf a, List.take_left]; rfl
  | a :: l, i + 1, h => by
    rw [List.flatMap_cons, show (i + 1) * u = (f a).length + i * u by rw [hf, Nat.succ_mul]; omega, ← List.drop_drop, List.drop_left, flat_drop hf (by simpa using h)]; rfl

/-- What is read of the i-th element. -/
theorem Sl.elem {α : Type} {f : α → List Value} {m : Mem} {u : Nat} {l : List α} {v : Value} (h : Sl m u l.length (l.flatMap f) v) (hf : ∀ a, (f a).length = u) {k : IntKind} {i : Nat} (hi : i < l.length) :
    ∃ b o, aIdxS u v (.int k i) = some (.pointer (some ⟨b, o, none⟩)) ∧ aLoad true u m (.pointer (some ⟨b, o, none⟩)) = some (.agg (f l[i]).toArray) ∧
      (∀ j, j < u → aLoad false 1 m (.pointer (some ⟨b, o + j, none⟩)) = (f l[i])[j]?) ∧ (SlLt m v → b < m.next) := by
  have hb : ∃ b o, aIdxS u v (.int k i) = some (.pointer (some ⟨b, o, none⟩)) ∧ (SlLt m v → b < m.next) := by
    cases h with
    | nil h hc => omega
    | @«at» b o c hc h =>
      refine ⟨b, o + i * u, ?_, fun h => h⟩
      simp only [aIdxS]; rw [if_pos (by omega), Int.toNat_natCast]
  obtain ⟨b, o, h1, h4⟩ := hb
  obtain ⟨b', o', h1', h2, h3⟩ := h.cell (k := k) hi
  rw [h1] at h1'
  cases h1'
  refine ⟨b, o, h1, by rw [h3, flat_drop hf hi], fun j hj => ?_, h4⟩
  rw [h2 j hj, ← flat_drop hf hi, List.getElem?_take, List.getElem?_drop, if_pos hj]

/-- A block that is there. -/
structure Bk (m : Mem) (b : Nat) (cs : List Value) (u : Nat) : Prop where
  at_ : m.blk b = some (.cells cs (some u))
  lt : b < m.next
theorem Bk.new {m : Mem} {cs : List Value} {u : Nat} : Bk (m.new (.cells cs (some u))) m.next cs u := ⟨by simp [Mem.new], by simp [Mem.new]⟩
theorem Bk.ne {m : Mem} {b u : Nat} {cs : List Value} (h : Bk m b cs u) : (b = m.next) = False := eq_false (Nat.ne_of_lt h.lt)
theorem Bk.keep {m m' : Mem} {b u : Nat} {cs : List Value} (h : Bk m b cs u) (hx : Ext m m') : Bk m' b cs u := ⟨by rw [hx.same _ h.lt]; exact h.at_, Nat.lt_of_lt_of_le h.lt hx.next⟩
theorem Bk.upd {m m' : Mem} {b u : Nat} {cs : List Value} {fp : List Nat} (h : Bk m b cs u) (hx : Upd m m' fp) (hn : b ∉ fp) : Bk m' b cs u := ⟨by rw [hx.same _ h.lt hn]; exact h.at_, Nat.lt_of_lt_of_le h.lt hx.next⟩
end Go.Am


/- What putting behind a slice touches: its own block alone. -/
set_option linter.unusedVariables false
namespace Go.Am

/-- The block of a slice. -/
def vb : Value → List Nat
  | .slice (some a) _ _ => [a.block]
  | _ => []

theorem SlOff.vb_iff {v : Value} {fp : List Nat} : SlOff fp v ↔ ∀ b ∈ vb v, b ∉ fp := by
  unfold SlOff vb
  split <;> simp
theorem SlLt.vb_iff {m : Mem} {v : Value} : SlLt m v ↔ ∀ b ∈ vb v, b < m.next := by
  unfold SlLt vb
  split <;> simp

theorem Upd.new_of {m m' : Mem} {fp : List Nat} {o : AObj} (h : Upd m m' fp) : Upd m (m'.new o) fp :=
  ⟨Nat.le_trans h.next (by simp [Mem.new]), fun b hb hn => by
    have := h.next
    rw [← h.same b hb hn]
    simp only [Mem.new]
    rw [if_neg (by omega)]⟩

theorem aWrite_upd {m m' : Mem} {b o : Nat} {xs : List Value} (h : aWrite m b o xs = some m') : Upd m m' [b] ∧ m'.next = m.next := by
  unfold aWrite at h
  split at h
  · split at h
    · cases h; exact ⟨Upd.set (by simp), rfl⟩
    · cases h
  · cases h

theorem app_upd {u by_ : Nat} {m m' : Mem} {v v' x : Value} (h : aApp none u by_ m v x = some (v', m')) : Upd m m' (vb v) ∧ (vb v' = vb v ∨ vb v' = [m.next]) := by
  unfold aApp at h
  rw [Option.bind_eq_some_iff] at h
  obtain ⟨n, hn, h⟩ := h
  rw [Option.bind_eq_some_iff] at h
  obtain ⟨xs, hxs, h⟩ := h
  split at h
  · split at h
    · cases h; exact ⟨Upd.refl _ _, .inl rfl⟩
    · split at h
      · simp only [place] at h
        cases h
        exact ⟨(Upd.refl _ _).new_of, .inr rfl⟩
      · cases h
  · split at h
    · split at h
      · cases h; exact ⟨Upd.refl _ _, .inl rfl⟩
      · cases h
    · split at h
      · rw [Option.map_eq_some_iff] at h
        obtain ⟨m1, h1, h2⟩ := h
        cases h2
        exact ⟨(aWrite_upd h1).1, .inl rfl⟩
      · split at h
        · split at h
          · simp only [place] at h
            cases h
            refine ⟨?_, .inr ?_⟩
            · split
              · exact (Upd.set (by simp [vb])).new_of
              · exact (Upd.refl _ _).new_of
            · split <;> rfl
          · cases h
        · cases h
  · cases h
/-- A function value is called. -/
def gV (R : Nat → Option FEnt) (fv : Value) (vs : List Value) (m : Mem) (Q : Value → Mem → Prop) (_ : Ph Q := ph) : Prop := ∃ f a b, fv = .func (.func f) a b ∧ WC R f (a.toList ++ vs ++ b.toList) m Q
theorem a_callv {R : Nat → Option FEnt} {at_ : Option Nat} {e : Env} {m : Mem} {Q : Value → Mem → Prop} {x : X} {xs : List X} : gpA R at_ e m (.callv x xs) Q = Got (x.ev e) fun fv => Got (evs e xs) fun vs => gV R fv vs m Q := by
  refine propext ⟨?_, ?_⟩
  · rintro ⟨f, a, b, vs, h1, h2, h3⟩; exact ⟨_, h1, _, h2, f, a, b, rfl, h3⟩
  · rintro ⟨_, h1, vs, h2, f, a, b, rfl, h3⟩; exact ⟨f, a, b, vs, h1, h2, h3⟩
theorem gV_func {R : Nat → Option FEnt} {m : Mem} {Q : Value → Mem → Prop} {f : Nat} {vs : List Value} : gV R (.func (.func f) #[] #[]) vs m Q = gC R f vs m Q := by
  refine propext ⟨?_, fun h => ⟨f, #[], #[], rfl, by have h : WC R f vs m Q := h; simpa using h⟩⟩
  rintro ⟨_, _, _, h, k⟩
  cases h
  show WC R f vs m Q
  simpa using k
attribute [go_sem] a_callv gV_func

theorem gV.of {R : Nat → Option FEnt} {fv : Value} {vs : List Value} {m : Mem} {Q Q' : Value → Mem → Prop} (h : gV R fv vs m Q') (k : ∀ v m', Q' v m' → Q v m') : gV R fv vs m Q := by
  obtain ⟨f, a, b, rfl, h2⟩ := h
  exact ⟨f, a, b, rfl, h2.mono k⟩
theorem gV_cap {R : Nat → Option FEnt} {m : Mem} {Q : Value → Mem → Prop} {f : Nat} {vs : List Value} {c : Value} : gV R (.func (.func f) #[] #[c]) vs m Q = gC R f (vs ++ [c]) m Q := by
  refine propext ⟨?_, fun h => ⟨f, #[], #[c], rfl, by have h : WC R f (vs ++ [c]) m Q := h; simpa using h⟩⟩
  rintro ⟨_, _, _, h, k⟩
  cases h
  show WC R f (vs ++ [c]) m Q
  simpa using k
theorem Own.updq {m0 m m' : Mem} {u n : Nat} {cs : List Value} {v : Value} {fp : List Nat} (h : Own m0 m u n cs v) (hx : Upd m m' fp) (ho : ∀ b ∈ vb v, b ∉ fp) : Own m0 m' u n cs v := by
  cases h with
  | nil h hc => exact .nil h hc
  | @«at» b c all hb hb2 hn hm hl hcs h1 => exact .at hb (Nat.lt_of_lt_of_le hb2 hx.next) hn (by rw [hx.same b hb2 (ho b (by simp [vb]))]; exact hm) hl hcs h1
end Go.Am


/- Heaps, plain: fractions in their order, and what one who goes up, or down, leaves. -/
set_option linter.unusedVariables false
set_option linter.unusedSimpArgs false
namespace Go.Am
open Classical

abbrev Ky := BitVec 64 × BitVec 64
def crs (p q : Ky) : Nat := p.1.toNat * q.2.toNat
def ltK (p q : Ky) (a b : Nat) : Prop := crs p q < crs q p ∨ (crs p q = crs q p ∧ a < b)

theorem ltK_irrefl {p : Ky} {a : Nat} : ¬ ltK p p a a := by unfold ltK; omega
theorem ltK_total {p q : Ky} {a b : Nat} (h : a ≠ b) : ltK p q a b ∨ ltK q p b a := by unfold ltK; omega
theorem ltK_asymm {p q : Ky} {a b : Nat} (h : ltK p q a b) : ¬ ltK q p b a := by unfold ltK at *; omega
theorem crs_trans {p q r : Ky} (hq : q.2 ≠ 0#64) (h1 : crs p q ≤ crs q p) (h2 : crs q r ≤ crs r q) : crs p r ≤ crs r p ∧ (crs p q < crs q p → r.2 ≠ 0#64 → crs p r < crs r p) ∧ (crs q r < crs r q → p.2 ≠ 0#64 → crs p r < crs r p) := by
  unfold crs at *
  have pos : ∀ {x : BitVec 64}, x ≠ 0#64 → 0 < x.toNat := fun {x} h => Nat.pos_of_ne_zero fun e => h (BitVec.eq_of_toNat_eq (by simpa using e))
  have hq' := pos hq
  generalize p.1.toNat = P at *
  generalize hp' : p.2.toNat = p' at *
  generalize q.1.toNat = Q at *
  generalize q.2.toNat = q' at *
  generalize r.1.toNat = R' at *
  generalize hr' : r.2.toNat = r' at *
  have a1 : P * q' * r' ≤ Q * p' * r' := Nat.mul_le_mul_right _ h1
  have a2 : Q * r' * p' ≤ R' * q' * p' := Nat.mul_le_mul_right _ h2
  have e1 : P * q' * r' = P * r' * q' := Nat.mul_right_comm ..
  have e2 : Q * p' * r' = Q * r' * p' := Nat.mul_right_comm ..
  have e3 : R' * q' * p' = R' * p' * q' := Nat.mul_right_comm ..
  refine ⟨Nat.le_of_mul_le_mul_right (c := q') (by omega) hq', fun h hr => ?_, fun h hp => ?_⟩
  · have hr := pos hr
    rw [hr'] at hr
    have a3 : P * q' * r' < Q * p' * r' := Nat.mul_lt_mul_of_pos_right h hr
    exact Nat.lt_of_mul_lt_mul_right (a := q') (by omega)
  · have hp := pos hp
    rw [hp'] at hp
    have a3 : Q * r' * p' < R' * q' * p' := Nat.mul_lt_mul_of_pos_right h hp
    exact Nat.lt_of_mul_lt_mul_right (a := q') (by omega)
theorem ltK_trans {p q r : Ky} {a b c : Nat} (hp : p.2 ≠ 0#64) (hq : q.2 ≠ 0#64) (hr : r.2 ≠ 0#64) (h1 : ltK p q a b) (h2 : ltK q r b c) : ltK p r a c := by
  unfold ltK at *
  obtain ⟨k1, k2, k3⟩ := crs_trans (p := p) (q := q) (r := r) hq (by omega) (by omega)
  rcases h1 with h1 | ⟨h1, g1⟩
  · exact .inl (k2 h1 hr)
  · rcases h2 with h2 | ⟨h2, g2⟩
    · exact .inl (k3 h2 hp)
    · by_cases e : crs p r = crs r p
      · exact .inr ⟨e, by omega⟩
      · exact .inl (by omega)

/-- A heap: keys by id, where an id stands (and one more), and the ids in their order. -/
structure HpS where
  keys : List Ky
  pl : List Nat
  ids : List Nat
namespace HpS
def at_ (s : HpS) (k : Nat) : Nat := s.ids.getD k 0
def key (s : HpS) (x : Nat) : Ky := s.keys.getD x (0#64, 0#64)
def lt (s : HpS) (a b : Nat) : Prop := ltK (s.key a) (s.key b) a b
def le (s : HpS) (a b : Nat) : Prop := s.lt a b ∨ a = b
structure Wf (s : HpS) : Prop where
  len : s.pl.length = s.keys.length
  up : ∀ i x, s.ids[i]? = some x → s.pl[x]? = some (i + 1)
  dn : ∀ x k, s.pl[x]? = some (k + 1) → s.ids[k]? = some x
  den : ∀ x ∈ s.ids, (s.key x).2 ≠ 0#64

theorem at_get {s : HpS} {k : Nat} (h : k < s.ids.length) : s.at_ k = s.ids[k] := by unfold at_; simp [h]
theorem at_mem {s : HpS} {k : Nat} (h : k < s.ids.length) : s.at_ k ∈ s.ids := by rw [at_get h]; exact List.getElem_mem h
theorem Wf.lt_n {s : HpS} (w : s.Wf) {x : Nat} (h : x ∈ s.ids) : x < s.keys.length := by
  obtain ⟨i, hi, rfl⟩ := List.getElem_of_mem h
  have := w.up i _ (List.getElem?_eq_getElem hi)
  have := (List.getElem?_eq_some_iff.1 this).1
  rw [w.len] at this; exact this
theorem Wf.pos {s : HpS} (w : s.Wf) {k : Nat} (h : k < s.ids.length) : s.pl[s.at_ k]? = some (k + 1) := by
  rw [at_get h]; exact w.up k _ (List.getElem?_eq_getElem h)
theorem Wf.inj {s : HpS} (w : s.Wf) {i j : Nat} (hi : i < s.ids.length) (hj : j < s.ids.length) (h : s.at_ i = s.at_ j) : i = j := by
  have h1 := w.pos hi
  have h2 := w.pos hj
  rw [h, h2] at h1
  have := Option.some.inj h1
  omega
theorem Wf.nlt {s : HpS} (w : s.Wf) {a b : Nat} (h : ¬ s.lt a b) : s.le b a := by
  by_cases e : b = a
  · exact .inr e
  · exact .inl ((ltK_total (fun e' => e e'.symm)).resolve_left h)
theorem le_nlt {s : HpS} {a b : Nat} (h : s.le a b) : ¬ s.lt b a := by
  rcases h with h | rfl
  · exact ltK_asymm h
  · exact ltK_irrefl
theorem Wf.trans {s : HpS} (w : s.Wf) {a b c : Nat} (ha : a ∈ s.ids) (hb : b ∈ s.ids) (hc : c ∈ s.ids) (h1 : s.le a b) (h2 : s.le b c) : s.le a c := by
  rcases h1 with h1 | rfl
  · rcases h2 with h2 | rfl
    · exact .inl (ltK_trans (w.den a ha) (w.den b hb) (w.den c hc) h1 h2)
    · exact .inl h1
  · exact h2

/-- All but who stands at i are in order; who stands below i may stand below i's parent. -/
structure Up (s : HpS) (i : Nat) : Prop where
  lt : i < s.ids.length
  ok : ∀ k, 0 < k → k < s.ids.length → k ≠ i → (k - 1) / 2 ≠ i → s.le (s.at_ ((k - 1) / 2)) (s.at_ k)
  gp : ∀ k, 0 < k → k < s.ids.length → (k - 1) / 2 = i → 0 < i → s.le (s.at_ ((i - 1) / 2)) (s.at_ k)
structure Dn (s : HpS) (i : Nat) : Prop where
  lt : i < s.ids.length
  ok : ∀ k, 0 < k → k < s.ids.length → (k - 1) / 2 ≠ i → s.le (s.at_ ((k - 1) / 2)) (s.at_ k)
  gp : ∀ k, 0 < k → k < s.ids.length → (k - 1) / 2 = i → 0 < i → s.le (s.at_ ((i - 1) / 2)) (s.at_ k)
def Heap (s : HpS) : Prop := ∀ k, 0 < k → k < s.ids.length → s.le (s.at_ ((k - 1) / 2)) (s.at_ k)

/-- The same ids with the same keys. -/
structure Same (s t : HpS) : Prop where
  keys : t.keys = s.keys
  len : t.ids.length = s.ids.length
  mem : ∀ x, x ∈ t.ids ↔ x ∈ s.ids
theorem Same.refl (s : HpS) : Same s s := ⟨rfl, rfl, fun _ => Iff.rfl⟩
theorem Same.trans {s t u : HpS} (h : Same s t) (k : Same t u) : Same s u := ⟨by rw [k.keys, h.keys], by rw [k.len, h.len], fun x => by rw [k.mem, h.mem]⟩
theorem Same.lt {s t : HpS} (h : Same s t) {a b : Nat} : t.lt a b ↔ s.lt a b := by unfold HpS.lt HpS.key; rw [h.keys]
theorem Same.le {s t : HpS} (h : Same s t) {a b : Nat} : t.le a b ↔ s.le a b := by unfold HpS.le; rw [h.lt]

def swap (s : HpS) (i j : Nat) : HpS :=
  { s with ids := (s.ids.set i (s.at_ j)).set j (s.at_ i), pl := (s.pl.set (s.at_ j) (i + 1)).set (s.at_ i) (j + 1) }
theorem swap_len {s : HpS} {i j : Nat} : (s.swap i j).ids.length = s.ids.length := by simp [swap]
theorem swap_at {s : HpS} {i j k : Nat} (hi : i < s.ids.length) (hj : j < s.ids.length) : (s.swap i j).at_ k = if k = j then s.at_ i else if k = i then s.at_ j else s.at_ k := by
  unfold swap at_
  simp only [List.getD_eq_getElem?_getD, List.getElem?_set, List.length_set]
  by_cases h1 : k = j
  · subst h1; simp [hj]
  · by_cases h2 : k = i
    · subst h2; simp [hi, h1, Ne.symm h1]
    · simp [h1, h2, Ne.symm h1, Ne.symm h2]
theorem swap_same {s : HpS} {i j : Nat} (hi : i < s.ids.length) (hj : j < s.ids.length) : Same s (s.swap i j) := by
  refine ⟨rfl, swap_len, fun x => ?_⟩
  have key : ∀ t : HpS, x ∈ t.ids ↔ ∃ k, k < t.ids.length ∧ t.at_ k = x := fun t => by
    constructor
    · intro h
      obtain ⟨k, hk, rfl⟩ := List.getElem_of_mem h
      exact ⟨k, hk, at_get hk⟩
    · rintro ⟨k, hk, rfl⟩; exact at_mem hk
  rw [key, key, swap_len]
  constructor
  · rintro ⟨k, hk, h⟩
    rw [swap_at hi hj] at h
    split at h
    · exact ⟨i, hi, h⟩
    · split at h
      · exact ⟨j, hj, h⟩
      · exact ⟨k, hk, h⟩
  · rintro ⟨k, hk, h⟩
    by_cases e1 : k = i
    · subst e1
      exact ⟨j, hj, by rw [swap_at hi hj, if_pos rfl]; exact h⟩
    · by_cases e2 : k = j
      · subst e2
        refine ⟨i, hi, ?_⟩
        rw [swap_at hi hj, if_neg (fun e => e1 e.symm), if_pos rfl]; exact h
      · exact ⟨k, hk, by rw [swap_at hi hj, if_neg e2, if_neg e1]; exact h⟩
theorem Wf.swap {s : HpS} (w : s.Wf) {i j : Nat} (hi : i < s.ids.length) (hj : j < s.ids.length) : (s.swap i j).Wf := by
  have hS := swap_same hi hj
  have get : ∀ (t : HpS) k x, t.ids[k]? = some x ↔ k < t.ids.length ∧ t.at_ k = x := fun t k x => by
    rw [List.getElem?_eq_some_iff]
    constructor
    · rintro ⟨h, e⟩; exact ⟨h, by rw [at_get h]; exact e⟩
    · rintro ⟨h, e⟩; exact ⟨h, by rw [← at_get h]; exact e⟩
  have hpi := w.pos hi
  have hpj := w.pos hj
  have li := (List.getElem?_eq_some_iff.1 hpi).1
  have lj := (List.getElem?_eq_some_iff.1 hpj).1
  have pl : ∀ x, (s.swap i j).pl[x]? = if x = s.at_ i then some (j + 1) else if x = s.at_ j then some (i + 1) else s.pl[x]? := fun x => by
    show ((s.pl.set (s.at_ j) (i + 1)).set (s.at_ i) (j + 1))[x]? = _
    simp only [List.getElem?_set, List.length_set]
    by_cases h1 : x = s.at_ i
    · subst h1; simp [li]
    · by_cases h2 : x = s.at_ j
      · subst h2; simp [lj, h1, Ne.symm h1]
      · simp [h1, h2, Ne.symm h1, Ne.symm h2]
  refine ⟨?_, ?_, ?_, ?_⟩
  · show ((s.pl.set _ _).set _ _).length = _; simp [w.len]; rfl
  · intro k x hk
    rw [get, swap_len, swap_at hi hj] at hk
    obtain ⟨hk, hx⟩ := hk
    rw [pl]
    by_cases e1 : k = j
    · subst e1; rw [if_pos rfl] at hx; rw [if_pos hx.symm]
    · rw [if_neg e1] at hx
      by_cases e2 : k = i
      · subst e2
        rw [if_pos rfl] at hx
        have : x ≠ s.at_ k := fun e => e1 (w.inj hi hj (by rw [← e, hx]))
        rw [if_neg this, if_pos hx.symm]
      · rw [if_neg e2] at hx
        have n1 : x ≠ s.at_ i := fun e => e2 (w.inj hk hi (by rw [← e, hx]))
        have n2 : x ≠ s.at_ j := fun e => e1 (w.inj hk hj (by rw [← e, hx]))
        rw [if_neg n1, if_neg n2, ← hx]; exact w.pos hk
  · intro x k h
    rw [pl] at h
    rw [get, swap_len, swap_at hi hj]
    by_cases e1 : x = s.at_ i
    · rw [if_pos e1] at h
      have : k = j := by have := Option.some.inj h; omega
      subst this
      exact ⟨hj, by rw [if_pos rfl, e1]⟩
    · rw [if_neg e1] at h
      by_cases e2 : x = s.at_ j
      · rw [if_pos e2] at h
        have : k = i := by have := Option.some.inj h; omega
        subst this
        refine ⟨hi, ?_⟩
        have : k ≠ j := fun e => e1 (by rw [e2, e])
        rw [if_neg this, if_pos rfl, e2]
      · rw [if_neg e2] at h
        have hk := (get s k x).1 (w.dn x k h)
        refine ⟨hk.1, ?_⟩
        have n1 : k ≠ i := fun e => e1 (by rw [← hk.2, e])
        have n2 : k ≠ j := fun e => e2 (by rw [← hk.2, e])
        rw [if_neg n2, if_neg n1]; exact hk.2
  · intro x hx
    exact w.den x ((hS.mem x).1 hx)

/-- One step up. -/
theorem Up.step {s : HpS} {i : Nat} (w : s.Wf) (h : s.Up i) (h0 : 0 < i) (hl : s.lt (s.at_ i) (s.at_ ((i - 1) / 2))) : (s.swap i ((i - 1) / 2)).Up ((i - 1) / 2) := by
  have hi := h.lt
  have hp : (i - 1) / 2 < s.ids.length := by omega
  have hS := swap_same hi hp
  have ne : (i - 1) / 2 ≠ i := by omega
  generalize hP : (i - 1) / 2 = P at *
  refine ⟨by rw [swap_len]; exact hp, fun k k0 kl kP kp => ?_, fun k k0 kl kp P0 => ?_⟩
  · rw [swap_len] at kl
    rw [hS.le, swap_at hi hp, swap_at hi hp, if_neg kp, if_neg kP]
    by_cases e1 : (k - 1) / 2 = i
    · rw [if_pos e1]
      have : k ≠ i := by omega
      rw [if_neg this]
      have := h.gp k k0 kl e1 h0
      rw [hP] at this; exact this
    · rw [if_neg e1]
      by_cases e2 : k = i
      · subst e2; exact absurd hP kp
      · rw [if_neg e2]; exact h.ok k k0 kl e2 e1
  · rw [swap_len] at kl
    have kP : k ≠ P := by omega
    rw [hS.le, swap_at hi hp, swap_at hi hp, if_neg (show (P - 1) / 2 ≠ P by omega), if_neg (show (P - 1) / 2 ≠ i by omega), if_neg kP]
    have hPok := h.ok P P0 hp (by omega) (by omega)
    by_cases e : k = i
    · rw [if_pos e]; exact hPok
    · rw [if_neg e]
      have hk := h.ok k k0 kl e (by omega)
      rw [kp] at hk
      exact w.trans (at_mem (by omega)) (at_mem hp) (at_mem kl) hPok hk

/-- Nobody above is behind. -/
theorem Up.stop {s : HpS} {i : Nat} (w : s.Wf) (h : s.Up i) (hl : 0 < i → ¬ s.lt (s.at_ i) (s.at_ ((i - 1) / 2))) : s.Dn i := by
  refine ⟨h.lt, fun k k0 kl kp => ?_, h.gp⟩
  by_cases e : k = i
  · subst e; exact w.nlt (hl k0)
  · exact h.ok k k0 kl e kp

/-- One step down: j is below i, and nobody below i is ahead of who stands there. -/
theorem Dn.step {s : HpS} {i j : Nat} (w : s.Wf) (h : s.Dn i) (hj : j < s.ids.length) (hj0 : 0 < j) (hji : (j - 1) / 2 = i) (hl : s.le (s.at_ j) (s.at_ i)) (hmin : ∀ k, 0 < k → k < s.ids.length → (k - 1) / 2 = i → s.le (s.at_ j) (s.at_ k)) : (s.swap i j).Dn j := by
  have hi := h.lt
  have hS := swap_same hi hj
  have ne : i ≠ j := by omega
  refine ⟨by rw [swap_len]; exact hj, fun k k0 kl kp => ?_, fun k k0 kl kp _ => ?_⟩
  · rw [swap_len] at kl
    rw [hS.le, swap_at hi hj, swap_at hi hj, if_neg kp]
    by_cases e1 : (k - 1) / 2 = i
    · rw [if_pos e1]
      by_cases e2 : k = j
      · rw [if_pos e2]; exact hl
      · rw [if_neg e2, if_neg (show k ≠ i by omega)]; exact hmin k k0 kl e1
    · rw [if_neg e1]
      have kj : k ≠ j := fun e => e1 (by rw [e]; exact hji)
      rw [if_neg kj]
      by_cases e2 : k = i
      · rw [if_pos e2]
        subst e2
        exact h.gp j hj0 hj hji k0
      · rw [if_neg e2]; exact h.ok k k0 kl e1
  · rw [swap_len] at kl
    rw [hS.le, swap_at hi hj, swap_at hi hj, hji, if_neg ne, if_pos rfl, if_neg (show k ≠ j by omega), if_neg (show k ≠ i by omega)]
    have := h.ok k k0 kl (by omega)
    rw [kp] at this; exact this
theorem Dn.stop {s : HpS} {i : Nat} (h : s.Dn i) (hl : ∀ k, 0 < k → k < s.ids.length → (k - 1) / 2 = i → s.le (s.at_ i) (s.at_ k)) : s.Heap := fun k k0 kl => by
  by_cases e : (k - 1) / 2 = i
  · rw [e]; exact hl k k0 kl e
  · exact h.ok k k0 kl e

/-- Who stands first is ahead of all. -/
theorem Heap.min {s : HpS} (w : s.Wf) (h : s.Heap) : ∀ n, ∀ k, k ≤ n → k < s.ids.length → s.le (s.at_ 0) (s.at_ k)
  | 0, k, hk, kl => by
    have : k = 0 := by omega
    subst this; exact .inr rfl
  | n + 1, k, hk, kl => by
    by_cases e : k = 0
    · subst e; exact .inr rfl
    · exact w.trans (at_mem (by omega)) (at_mem (by omega)) (at_mem kl) (h.min w n ((k - 1) / 2) (by omega) (by omega)) (h k (by omega) kl)
theorem Heap.first {s : HpS} (w : s.Wf) (h : s.Heap) {x : Nat} (hx : x ∈ s.ids) : s.le (s.at_ 0) x := by
  obtain ⟨k, hk, rfl⟩ := List.getElem_of_mem hx
  have := h.min w k k (Nat.le_refl _) hk
  rw [at_get hk] at this; exact this
end HpS
end Go.Am


/- Heaps, plain: one put in, one taken out; a list that has the same. -/
set_option linter.unusedVariables false
set_option linter.unusedSimpArgs false
namespace Go.Am
open Classical
namespace HpS

theorem ids_get {s : HpS} {k x : Nat} : s.ids[k]? = some x ↔ k < s.ids.length ∧ s.at_ k = x := by
  rw [List.getElem?_eq_some_iff]
  constructor
  · rintro ⟨h, e⟩; exact ⟨h, by rw [at_get h]; exact e⟩
  · rintro ⟨h, e⟩; exact ⟨h, by rw [← at_get h]; exact e⟩
theorem Wf.nodup {s : HpS} (w : s.Wf) : s.ids.Nodup := by
  rw [List.nodup_iff_pairwise_ne, List.pairwise_iff_getElem]
  intro i j hi hj hij e
  have := w.inj hi hj (by rw [at_get hi, at_get hj]; exact e)
  omega
theorem Wf.in_ {s : HpS} (w : s.Wf) {x : Nat} : x ∈ s.ids ↔ ∃ k, s.pl[x]? = some (k + 1) := by
  constructor
  · intro h
    obtain ⟨k, hk, rfl⟩ := List.getElem_of_mem h
    exact ⟨k, w.up k _ (List.getElem?_eq_getElem hk)⟩
  · rintro ⟨k, hk⟩
    obtain ⟨a, b⟩ := ids_get.1 (w.dn x k hk)
    rw [← b]; exact at_mem a

/-- An id has another key. -/
def setK (s : HpS) (x : Nat) (k : Ky) : HpS := { s with keys := s.keys.set x k }
theorem setK_key {s : HpS} {x y : Nat} {k : Ky} (hx : x < s.keys.length) : (s.setK x k).key y = if y = x then k else s.key y := by
  show (s.keys.set x k).getD y _ = _
  unfold key
  rw [List.getD_eq_getElem?_getD, List.getElem?_set]
  by_cases h : x = y
  · subst h; simp [hx]
  · rw [if_neg h, if_neg (Ne.symm h), List.getD_eq_getElem?_getD]
theorem setK_le {s : HpS} {x a b : Nat} {k : Ky} (hx : x < s.keys.length) (ha : a ≠ x) (hb : b ≠ x) : (s.setK x k).le a b ↔ s.le a b := by
  unfold le lt
  rw [setK_key hx, setK_key hx, if_neg ha, if_neg hb]

theorem put_old {s : HpS} (w : s.Wf) (h : s.Heap) {x i : Nat} {k : Ky} (hk : k.2 ≠ 0#64) (hp : s.pl[x]? = some (i + 1)) : (s.setK x k).Wf ∧ (s.setK x k).Up i := by
  obtain ⟨hi, hx⟩ := ids_get.1 (w.dn x i hp)
  have hn : x < s.keys.length := by have := (List.getElem?_eq_some_iff.1 hp).1; rw [w.len] at this; exact this
  have ne : ∀ j, j < s.ids.length → j ≠ i → s.at_ j ≠ x := fun j hj hji e => hji (w.inj hj hi (by rw [e, hx]))
  refine ⟨⟨?_, w.up, w.dn, ?_⟩, hi, fun j j0 jl ji jp => ?_, fun j j0 jl jp i0 => ?_⟩
  · show s.pl.length = (s.keys.set x k).length; rw [List.length_set]; exact w.len
  · intro y hy
    rw [setK_key hn]
    split
    · exact hk
    · exact w.den y hy
  · have jl : j < s.ids.length := jl
    exact (setK_le hn (ne _ (by omega) jp) (ne _ jl ji)).2 (h j j0 jl)
  · have jl : j < s.ids.length := jl
    refine (setK_le hn (ne _ (by omega) (by omega)) (ne _ jl (by omega))).2 ?_
    have h1 := h i i0 hi
    have h2 := h j j0 jl
    rw [jp] at h2
    exact w.trans (at_mem (by omega)) (at_mem hi) (at_mem jl) h1 h2

def addK (s : HpS) (x : Nat) (k : Ky) : HpS := ⟨s.keys.set x k, s.pl.set x (s.ids.length + 1), s.ids ++ [x]⟩
theorem put_new {s : HpS} (w : s.Wf) (h : s.Heap) {x : Nat} {k : Ky} (hk : k.2 ≠ 0#64) (hp : s.pl[x]? = some 0) : (s.addK x k).Wf ∧ (s.addK x k).Up s.ids.length := by
  have hpx := (List.getElem?_eq_some_iff.1 hp).1
  have hn : x < s.keys.length := by rw [w.len] at hpx; exact hpx
  have hni : x ∉ s.ids := fun hm => by
    obtain ⟨k', hk'⟩ := w.in_.1 hm
    rw [hp] at hk'; cases hk'
  have key : ∀ y, (s.addK x k).key y = if y = x then k else s.key y := fun y => setK_key (s := s) hn
  have hat : ∀ j, j < s.ids.length → (s.addK x k).at_ j = s.at_ j := fun j hj => by
    show (s.ids ++ [x]).getD j 0 = s.ids.getD j 0
    rw [List.getD_eq_getElem?_getD, List.getElem?_append_left hj, List.getD_eq_getElem?_getD]
  have hal : (s.addK x k).at_ s.ids.length = x := by
    show (s.ids ++ [x]).getD _ 0 = x
    simp
  have hlen : (s.addK x k).ids.length = s.ids.length + 1 := by simp [addK]
  have pl : ∀ y, (s.addK x k).pl[y]? = if y = x then some (s.ids.length + 1) else s.pl[y]? := fun y => by
    show (s.pl.set x _)[y]? = _
    rw [List.getElem?_set]
    by_cases e : x = y
    · subst e; simp [hpx]
    · rw [if_neg e, if_neg (Ne.symm e)]
  have le : ∀ {a b}, a ≠ x → b ≠ x → ((s.addK x k).le a b ↔ s.le a b) := fun {a b} ha hb => by
    unfold HpS.le HpS.lt
    rw [key, key, if_neg ha, if_neg hb]
  have ne : ∀ j, j < s.ids.length → s.at_ j ≠ x := fun j hj e => hni (by rw [← e]; exact at_mem hj)
  refine ⟨⟨?_, ?_, ?_, ?_⟩, by omega, fun j j0 jl ji jp => ?_, fun j j0 jl jp i0 => ?_⟩
  · show (s.pl.set _ _).length = (s.keys.set _ _).length; rw [List.length_set, List.length_set]; exact w.len
  · intro i y hy
    obtain ⟨hi, hy⟩ := ids_get.1 hy
    rw [hlen] at hi
    rw [pl]
    by_cases e : i = s.ids.length
    · subst e; rw [hal] at hy; rw [if_pos hy.symm]
    · have hi' : i < s.ids.length := by omega
      rw [hat i hi'] at hy
      rw [if_neg (by rw [← hy]; exact ne i hi'), ← hy]; exact w.pos hi'
  · intro y j hy
    rw [pl] at hy
    rw [ids_get, hlen]
    by_cases e : y = x
    · rw [if_pos e] at hy
      have : j = s.ids.length := by have := Option.some.inj hy; omega
      subst this
      exact ⟨by omega, by rw [hal, e]⟩
    · rw [if_neg e] at hy
      obtain ⟨a, b⟩ := ids_get.1 (w.dn y j hy)
      exact ⟨by omega, by rw [hat j a, b]⟩
  · intro y hy
    rw [key]
    by_cases e : y = x
    · rw [if_pos e]; exact hk
    · rw [if_neg e]
      have : y ∈ s.ids := by
        rcases List.mem_append.1 hy with h | h
        · exact h
        · exact absurd (List.mem_singleton.1 h) e
      exact w.den y this
  · rw [hlen] at jl
    have jl' : j < s.ids.length := by omega
    rw [hat _ jl', hat _ (by omega), le (ne _ (by omega)) (ne _ jl')]
    exact h j j0 jl'
  · rw [hlen] at jl; omega

/-- The last one goes, whose id this is. -/
def cut (s : HpS) (x : Nat) : HpS := { s with pl := s.pl.set x 0, ids := s.ids.take (s.ids.length - 1) }
theorem cut_len {s : HpS} {x : Nat} : (s.cut x).ids.length = s.ids.length - 1 := by simp [cut]
theorem cut_at {s : HpS} {x k : Nat} (hk : k < s.ids.length - 1) : (s.cut x).at_ k = s.at_ k := by
  show (s.ids.take _).getD k 0 = s.ids.getD k 0
  rw [List.getD_eq_getElem?_getD, List.getElem?_take, if_pos hk, List.getD_eq_getElem?_getD]
theorem cut_le {s : HpS} {x a b : Nat} : (s.cut x).le a b ↔ s.le a b := Iff.rfl
theorem cut_wf {s : HpS} (w : s.Wf) {x : Nat} (h0 : 0 < s.ids.length) (hx : s.at_ (s.ids.length - 1) = x) : (s.cut x).Wf ∧ ∀ y, y ∈ (s.cut x).ids ↔ y ∈ s.ids ∧ y ≠ x := by
  have hpx := (List.getElem?_eq_some_iff.1 (w.pos (k := s.ids.length - 1) (by omega))).1
  rw [hx] at hpx
  have pl : ∀ y, (s.cut x).pl[y]? = if y = x then some 0 else s.pl[y]? := fun y => by
    show (s.pl.set x _)[y]? = _
    rw [List.getElem?_set]
    by_cases e : x = y
    · subst e; simp [hpx]
    · rw [if_neg e, if_neg (Ne.symm e)]
  have ne : ∀ j, j < s.ids.length - 1 → s.at_ j ≠ x := fun j hj e => by
    have := w.inj (i := j) (j := s.ids.length - 1) (by omega) (by omega) (by rw [e, hx])
    omega
  have W : (s.cut x).Wf := by
    refine ⟨?_, ?_, ?_, ?_⟩
    · show (s.pl.set _ _).length = _; rw [List.length_set]; exact w.len
    · intro i y hy
      obtain ⟨hi, hy⟩ := ids_get.1 hy
      rw [cut_len] at hi
      rw [cut_at hi] at hy
      rw [pl, if_neg (by rw [← hy]; exact ne i hi), ← hy]; exact w.pos (by omega)
    · intro y j hy
      rw [pl] at hy
      rw [ids_get, cut_len]
      by_cases e : y = x
      · rw [if_pos e] at hy; cases hy
      · rw [if_neg e] at hy
        obtain ⟨a, b⟩ := ids_get.1 (w.dn y j hy)
        have : j ≠ s.ids.length - 1 := fun e2 => e (by rw [← b, e2, hx])
        exact ⟨by omega, by rw [cut_at (by omega), b]⟩
    · intro y hy
      exact w.den y (List.mem_of_mem_take hy)
  refine ⟨W, fun y => ?_⟩
  rw [W.in_, w.in_]
  constructor
  · rintro ⟨k, hk⟩
    rw [pl] at hk
    split at hk
    · cases hk
    · rename_i e; exact ⟨⟨k, hk⟩, e⟩
  · rintro ⟨⟨k, hk⟩, e⟩
    exact ⟨k, by rw [pl, if_neg e]; exact hk⟩

/-- One taken out of the order: the last one stands in its stead. -/
theorem rem {s : HpS} (w : s.Wf) (h : s.Heap) {x i : Nat} (hp : s.pl[x]? = some (i + 1)) :
    ((s.swap i (s.ids.length - 1)).cut x).Wf ∧ (∀ y, y ∈ ((s.swap i (s.ids.length - 1)).cut x).ids ↔ y ∈ s.ids ∧ y ≠ x) ∧
      (i < s.ids.length - 1 → ((s.swap i (s.ids.length - 1)).cut x).Up i) ∧ (¬ i < s.ids.length - 1 → ((s.swap i (s.ids.length - 1)).cut x).Heap) := by
  obtain ⟨hi, hx⟩ := ids_get.1 (w.dn x i hp)
  have hl : s.ids.length - 1 < s.ids.length := by omega
  have hS := swap_same hi hl
  have hW := w.swap hi hl
  have hsl : (s.swap i (s.ids.length - 1)).ids.length = s.ids.length := swap_len
  have hlast : (s.swap i (s.ids.length - 1)).at_ ((s.swap i (s.ids.length - 1)).ids.length - 1) = x := by
    rw [hsl, swap_at hi hl, if_pos rfl, hx]
  obtain ⟨c1, c2⟩ := cut_wf hW (by omega) hlast
  have hat : ∀ k, k < s.ids.length - 1 → ((s.swap i (s.ids.length - 1)).cut x).at_ k = if k = i then s.at_ (s.ids.length - 1) else s.at_ k := fun k hk => by
    rw [cut_at (by omega), swap_at hi hl, if_neg (by omega)]
  have hcl : ((s.swap i (s.ids.length - 1)).cut x).ids.length = s.ids.length - 1 := by rw [cut_len, hsl]
  refine ⟨c1, fun y => by rw [c2, hS.mem], fun hil => ⟨by omega, fun k k0 kl ki kp => ?_, fun k k0 kl kp i0 => ?_⟩, fun hil k k0 kl => ?_⟩
  · rw [hcl] at kl
    rw [cut_le, hS.le, hat _ (by omega), hat k kl, if_neg kp, if_neg ki]
    exact h k k0 (by omega)
  · rw [hcl] at kl
    rw [cut_le, hS.le, hat _ (by omega), hat k kl, if_neg (by omega), if_neg (by omega)]
    have h1 := h i i0 hi
    have h2 := h k k0 (by omega)
    rw [kp] at h2
    exact w.trans (at_mem (by omega)) (at_mem hi) (at_mem (by omega)) h1 h2
  · rw [hcl] at kl
    rw [cut_le, hS.le, hat _ (by omega), hat k kl, if_neg (by omega), if_neg (by omega)]
    exact h k k0 (by omega)

/-! ### a list with the same -/

/-- A list of ids with their keys has what the heap has. -/
structure Rel (s : HpS) (w : List (Nat × Ky)) : Prop where
  nd : (w.map Prod.fst).Nodup
  mem : ∀ x, x ∈ w.map Prod.fst ↔ x ∈ s.ids
  key : ∀ p ∈ w, s.key p.1 = p.2
theorem Rel.same {s t : HpS} {w : List (Nat × Ky)} (h : s.Rel w) (k : Same s t) : t.Rel w :=
  ⟨h.nd, fun x => by rw [h.mem, k.mem], fun p hp => by have := h.key p hp; unfold HpS.key at *; rw [k.keys]; exact this⟩
theorem Rel.len {s : HpS} {w : List (Nat × Ky)} (h : s.Rel w) (hw : s.Wf) : w.length = s.ids.length := by
  have := ((List.perm_ext_iff_of_nodup h.nd hw.nodup).2 h.mem).length_eq
  rw [List.length_map] at this; exact this
theorem Rel.out {s t : HpS} {w : List (Nat × Ky)} {x : Nat} (h : s.Rel w) (hk : t.keys = s.keys) (hm : ∀ y, y ∈ t.ids ↔ y ∈ s.ids ∧ y ≠ x) : t.Rel (w.filter fun p => decide (p.1 ≠ x)) := by
  refine ⟨?_, fun y => ?_, fun p hp => ?_⟩
  · exact h.nd.sublist (List.Sublist.map _ List.filter_sublist)
  · rw [hm, ← h.mem]
    simp only [List.mem_map, List.mem_filter, decide_eq_true_eq]
    constructor
    · rintro ⟨p, ⟨a, b⟩, rfl⟩; exact ⟨⟨p, a, rfl⟩, b⟩
    · rintro ⟨⟨p, a, rfl⟩, b⟩; exact ⟨p, ⟨a, b⟩, rfl⟩
  · have := h.key p ((List.mem_filter.1 hp).1)
    unfold HpS.key at *; rw [hk]; exact this
theorem Rel.put {s t : HpS} {w : List (Nat × Ky)} {x : Nat} {k : Ky} (h : s.Rel w) (hk : ∀ y, t.key y = if y = x then k else s.key y) (hm : ∀ y, y ∈ t.ids ↔ y ∈ s.ids ∨ y = x) : t.Rel ((w.filter fun p => decide (p.1 ≠ x)) ++ [(x, k)]) := by
  refine ⟨?_, fun y => ?_, fun p hp => ?_⟩
  · rw [List.map_append, List.nodup_append]
    refine ⟨h.nd.sublist (List.Sublist.map _ List.filter_sublist), by simp, fun a ha b hb => ?_⟩
    simp only [List.map_cons, List.map_nil, List.mem_singleton] at hb
    obtain ⟨p, hp, rfl⟩ := List.mem_map.1 ha
    have := (List.mem_filter.1 hp).2
    rw [hb]; simpa using this
  · rw [hm, ← h.mem, List.map_append, List.mem_append]
    simp only [List.mem_map, List.mem_filter, decide_eq_true_eq, List.map_cons, List.map_nil, List.mem_singleton]
    constructor
    · rintro (⟨p, ⟨a, b⟩, rfl⟩ | rfl)
      · exact .inl ⟨p, a, rfl⟩
      · exact .inr rfl
    · rintro (⟨p, a, rfl⟩ | rfl)
      · by_cases e : p.1 = x
        · exact .inr e
        · exact .inl ⟨p, ⟨a, e⟩, rfl⟩
      · exact .inr rfl
  · rw [hk]
    rcases List.mem_append.1 hp with hp | hp
    · have h2 := (List.mem_filter.1 hp).2
      rw [if_neg (by simpa using h2)]
      exact h.key p ((List.mem_filter.1 hp).1)
    · rw [List.mem_singleton.1 hp, if_pos rfl]
def ltP (p q : Nat × Ky) : Prop := ltK p.2 q.2 p.1 q.1
theorem Rel.min {s : HpS} {w : List (Nat × Ky)} (h : s.Rel w) (hw : s.Wf) (hh : s.Heap) {b : Nat × Ky} (hb : b ∈ w) (hmin : ∀ p ∈ w, ¬ ltP p b) : b.1 = s.at_ 0 := by
  have hbm : b.1 ∈ s.ids := (h.mem _).1 (List.mem_map.2 ⟨b, hb, rfl⟩)
  have h0 : s.at_ 0 ∈ s.ids := at_mem (by have := List.length_pos_of_mem hbm; omega)
  obtain ⟨p, hp, hp0⟩ := List.mem_map.1 ((h.mem _).2 h0)
  have hn := hmin p hp
  have hf := hh.first hw hbm
  rcases hf with hf | hf
  · exfalso
    apply hn
    unfold HpS.lt at hf
    unfold ltP
    rw [← h.key p hp, ← h.key b hb, hp0]; exact hf
  · exact hf.symm
theorem Rel.den {s : HpS} {w : List (Nat × Ky)} (h : s.Rel w) (hw : s.Wf) : ∀ p ∈ w, p.2.2 ≠ 0#64 := fun p hp => by
  rw [← h.key p hp]
  exact hw.den _ ((h.mem _).1 (List.mem_map.2 ⟨p, hp, rfl⟩))
end HpS
end Go.Am


/- CoresMul over the table of heap (relayset.py). -/
set_option linter.unusedVariables false
set_option linter.unusedSimpArgs false
namespace Go.Am
theorem Mul64_spec {m : Mem} {x y : BitVec 64} : WC R F.math_bits_Mul64 [u64 x, u64 y] m fun v m' => v = .tuple #[u64 (hiW x y), u64 (x * y)] ∧ m' = m := by
  refine WC.of R.math_bits_Mul64 rfl ?_
  simp only [RC.math_bits_Mul64, go_sem, Int.reduceBEq, Int.reduceBNe, Int.reduceNeg, reduceCtorEq, Nat.reduceEqDiff, Nat.reduceAdd, Nat.reduceLeDiff, Nat.reduceMul, Nat.reduceSub, Int.reduceToNat, Int.reduceLT, Int.reduceLE, BitVec.toNat_ofNat, Nat.reducePow, Nat.reduceMod, hiW]
end Go.Am


/- Cuts of slices. -/
set_option linter.unusedVariables false
set_option linter.unusedSimpArgs false
namespace Go.Am

/-- A slice that may be cut. -/
def Cut (u : Nat) (m : Mem) (v : Value) : Prop := ∀ b o n c, v = .slice (some ⟨b, o, none⟩) n c → unitOk u m b = true
theorem Cutable.cut {u : Nat} {m : Mem} {v : Value} (h : Cutable m v) : Cut u m v := fun b o n c e => by subst e; exact h.unit
theorem Own.cut {m0 m : Mem} {u n : Nat} {cs : List Value} {v : Value} (h : Own m0 m u n cs v) : Cut u m v := by
  intro b o n' c e
  cases h with
  | nil => cases e
  | «at» hb hb2 hn hm hl hcs h1 => cases e; exact unitOk_own hm
theorem Cut.keep {u : Nat} {m m' : Mem} {v : Value} (h : Cut u m v) (hb : SlLt m v) (hx : Ext m m') : Cut u m' v := by
  intro b o n c e
  have := h b o n c e
  subst e
  unfold unitOk at this ⊢
  rw [hx.same b hb]; exact this

theorem aCells_split {m : Mem} {b o n k : Nat} {cs : List Value} (h : aCells m b o n = some cs) (hk : k ≤ n) : aCells m b o k = some (cs.take k) ∧ aCells m b (o + k) (n - k) = some (cs.drop k) := by
  unfold aCells at h ⊢
  split at h
  · rename_i c w hm
    split at h
    · rename_i hle
      cases h
      constructor
      · rw [if_pos (by omega), List.take_take, Nat.min_eq_left hk]
      · rw [if_pos (by omega), ← List.drop_drop, List.drop_take]
    · cases h
  · cases h

theorem Sl.to {m : Mem} {u n : Nat} {cs : List Value} {v : Value} (h : Sl m u n cs v) (hc : Cut u m v) {k : IntKind} {i : Nat} (hi : i ≤ n) :
    ∃ v', aSub u m v none (some (.int k i)) none = some v' ∧ Sl m u i (cs.take (i * u)) v' ∧ (SlLt m v → SlLt m v') ∧ Cut u m v' := by
  cases h with
  | nil h hcs =>
    subst hcs
    have : i = 0 := by omega
    subst this
    exact ⟨.slice none 0 0, rfl, .nil rfl (by simp), id, fun _ _ _ _ e => by cases e⟩
  | @«at» b o c hnc h =>
    have hu := hc b o n c rfl
    refine ⟨.slice (some ⟨b, o, none⟩) i c, sub_to hu (by omega), .at (by omega) (aCells_split h (Nat.mul_le_mul_right _ hi)).1, id, fun _ _ _ _ e => by cases e; exact hu⟩

theorem Sl.from {m : Mem} {u n : Nat} {cs : List Value} {v : Value} (h : Sl m u n cs v) (hc : Cut u m v) {k : IntKind} {i : Nat} (hi : i ≤ n) :
    ∃ v', aSub u m v (some (.int k i)) none none = some v' ∧ Sl m u (n - i) (cs.drop (i * u)) v' ∧ (SlLt m v → SlLt m v') ∧ Cut u m v' := by
  cases h with
  | nil h hcs =>
    subst hcs
    have : i = 0 := by omega
    subst this
    exact ⟨.slice none 0 0, rfl, .nil (by omega) (by simp), id, fun _ _ _ _ e => by cases e⟩
  | @«at» b o c hnc h =>
    have hu := hc b o n c rfl
    refine ⟨.slice (some ⟨b, o + i * u, none⟩) (n - i) (c - i), sub_from hu hi hnc, .at (by omega) ?_, id, fun _ _ _ _ e => by cases e; exact hu⟩
    rw [Nat.sub_mul]
    exact (aCells_split h (Nat.mul_le_mul_right _ hi)).2

/-- Full: no room behind its last one. -/
def Full (v : Value) : Prop := ∀ a p q, v = .slice a p q → p = q
theorem app_full {u by_ : Nat} {m m' : Mem} {v v' x : Value} {k : Nat} (h : aApp none u by_ m v x = some (v', m')) (hk : sliceLen x = some k) (hf : Full v) : Full v' := by
  unfold aApp at h
  rw [hk] at h
  simp only [Option.bind_some] at h
  obtain ⟨xs, hx, h'⟩ := Option.bind_eq_some_iff.1 h
  clear h
  have h := h'
  clear h'
  split at h
  · split at h
    · cases h; intro a p q e; cases e; rfl
    · split at h
      · cases h; intro a p q e; cases e; rfl
      · cases h
  · rename_i b o l c
    have hlc : l = c := hf _ _ _ rfl
    split at h
    · split at h
      · cases h; intro a p q e; cases e; exact hlc
      · cases h
    · split at h
      · omega
      · split at h
        · split at h
          · cases h; intro a p q e; cases e; rfl
          · cases h
        · cases h
  · cases h
end Go.Am


/- One's own slice whose first block is older than what else is there: only that block, and newer ones, are touched. -/
set_option linter.unusedVariables false
set_option linter.unusedSimpArgs false
namespace Go.Am

theorem app_updA {at_ : Option Nat} {u by_ M : Nat} {m m' : Mem} {v v' x : Value} (h : aApp at_ u by_ m v x = some (v', m')) (ha : ∀ k, at_ = some k → M ≤ k) (hM : M ≤ m.next) :
    m.next ≤ m'.next ∧ (∀ b, b < M → b ∉ vb v → m'.blk b = m.blk b) ∧ (vb v' = vb v ∨ ∃ k, vb v' = [k] ∧ M ≤ k) := by
  have hpl : ∀ (m1 : Mem) (o : AObj), m1.next = m.next → m.next ≤ (place at_ m1 o).2.next ∧ (∀ b, b < M → (place at_ m1 o).2.blk b = m1.blk b) ∧ M ≤ (place at_ m1 o).1 := by
    intro m1 o h1
    unfold place
    split
    · refine ⟨by show m.next ≤ m1.next + 1; omega, fun b hb => ?_, by show M ≤ m1.next; omega⟩
      show (if b = m1.next then _ else _) = _
      rw [if_neg (by omega)]
    · rename_i k
      have := ha k rfl
      refine ⟨by show m.next ≤ m1.next; omega, fun b hb => ?_, this⟩
      show (if b = k then _ else _) = _
      rw [if_neg (by omega)]
  unfold aApp at h
  rw [Option.bind_eq_some_iff] at h
  obtain ⟨n, hn, h⟩ := h
  rw [Option.bind_eq_some_iff] at h
  obtain ⟨xs, hxs, h⟩ := h
  split at h
  · split at h
    · cases h; exact ⟨Nat.le_refl _, fun _ _ _ => rfl, .inl rfl⟩
    · split at h
      · obtain ⟨p1, p2, p3⟩ := hpl m (.cells xs (some u)) rfl
        generalize place at_ m (.cells xs (some u)) = P at h p1 p2 p3
        obtain ⟨b, m1⟩ := P
        cases h
        exact ⟨p1, fun b hb _ => p2 b hb, .inr ⟨_, rfl, p3⟩⟩
      · cases h
  · rename_i b o l c
    split at h
    · split at h
      · cases h; exact ⟨Nat.le_refl _, fun _ _ _ => rfl, .inl rfl⟩
      · cases h
    · split at h
      · rw [Option.map_eq_some_iff] at h
        obtain ⟨m1, h1, h2⟩ := h
        cases h2
        obtain ⟨a1, a2⟩ := aWrite_upd h1
        refine ⟨by omega, fun x hx hn => ?_, .inl rfl⟩
        exact a1.same x (by omega) hn
      · split at h
        · rename_i cs own hb
          split at h
          · have hs : ∀ c : Bool, (if c = true then m.set b none else m).next = m.next ∧ ∀ x, x ≠ b → (if c = true then m.set b none else m).blk x = m.blk x := by
              intro c
              cases c
              · exact ⟨rfl, fun _ _ => rfl⟩
              · refine ⟨rfl, fun x hx => ?_⟩
                show (if x = b then _ else _) = _
                rw [if_neg hx]
            simp only [] at h
            generalize hm1 : (if own.isSome = true ∧ o + c * u = cs.length then m.set b none else m) = m1 at h
            have hs1 : m1.next = m.next ∧ ∀ x, x ≠ b → m1.blk x = m.blk x := by
              rw [← hm1]
              split
              · exact hs true
              · exact hs false
            obtain ⟨p1, p2, p3⟩ := hpl m1 (.cells (List.take (l * u) (List.drop o cs) ++ xs) (some u)) hs1.1
            generalize place at_ m1 (.cells (List.take (l * u) (List.drop o cs) ++ xs) (some u)) = P at h p1 p2 p3
            obtain ⟨b', m2⟩ := P
            cases h
            refine ⟨p1, fun x hx hn => ?_, .inr ⟨_, rfl, p3⟩⟩
            rw [p2 x hx, hs1.2 x (by intro e; apply hn; simp [vb, e])]
          · cases h
        · cases h
  · cases h

theorem Own.ge {m0 m : Mem} {u n : Nat} {cs : List Value} {v : Value} (h : Own m0 m u n cs v) : ∀ b ∈ vb v, m0.next ≤ b := by
  cases h with
  | nil => intro b hb; simp [vb] at hb
  | «at» hb hb2 hn hm hl hcs h1 => intro b' hb'; simp [vb] at hb'; subst hb'; exact hb

structure OwnQ (m0 mb m : Mem) (q u n : Nat) (cs : List Value) (v : Value) : Prop where
  own : Own m0 m u n cs v
  upd : Upd mb m [q]
  at_ : ∀ b ∈ vb v, b = q ∨ mb.next ≤ b
  ext : Ext m0 m

variable {m0 mb m m' : Mem} {q u n : Nat} {cs : List Value} {v : Value}
theorem OwnQ.keep (h : OwnQ m0 mb m q u n cs v) (hx : Ext m m') : OwnQ m0 mb m' q u n cs v :=
  ⟨h.own.keep hx, h.upd.trans hx.upd (fun _ h => h) (fun _ h => .inl h), h.at_, h.ext.trans hx⟩

theorem OwnQ.app {by_ : Nat} {es : List Value} (h : OwnQ m0 mb m q u n cs v) (hu : 0 < u) (he : es.length = u) (h1 : oneCells es = true) (hby : (n + 1) * by_ ≤ 2 ^ 47) (hn : n + 1 < 2 ^ 62) :
    ∃ v' m', aApp none u by_ (m.new (.cells es (some u))) v (.slice (some ⟨m.next, 0, none⟩) 1 1) = some (v', m') ∧ OwnQ m0 mb m' q u (n + 1) (cs ++ es) v' := by
  obtain ⟨v', m', e1, e2, e3⟩ := h.own.app (by_ := by_) h.ext hu he h1 hby hn
  have hx : Ext m (m.new (.cells es (some u))) := Ext.new
  obtain ⟨a1, a2, a3⟩ := app_updA (M := (m.new (.cells es (some u))).next) e1 (fun k hk => by cases hk) (Nat.le_refl _)
  refine ⟨v', m', e1, e2, ?_, fun b hb => ?_, e3⟩
  · have hk := h.keep hx
    refine ⟨Nat.le_trans hk.upd.next a1, fun b hb hn => ?_⟩
    have hb2 := hk.upd.next
    rw [a2 b (by omega) (fun hm => by exact (h.at_ b hm).elim (fun e => hn (by simp [e])) (fun e => by omega)), hk.upd.same b hb hn]
  · have := h.upd.next
    have := hx.next
    rcases a3 with e | ⟨k, e, hk⟩
    · rw [e] at hb; exact h.at_ b hb
    · rw [e] at hb; simp at hb; subst hb; exact .inr (by omega)

theorem OwnQ.appD {by_ N s t : Nat} {es : List Value} (h : OwnQ m0 mb m q u n cs v) (he : es.length = u) (h1 : oneCells es = true) (hby : (n + 1) * by_ ≤ 2 ^ 47) (hn : n + 1 < 2 ^ 62) (hs : s < N) (ht : t < N) :
    ∃ v' m', aApp (some (m.next + t)) u by_ ((m.bump N).set (m.next + s) (some (.cells es (some u)))) v (.slice (some ⟨m.next + s, 0, none⟩) 1 1) = some (v', m') ∧ OwnQ m0 mb m' q u (n + 1) (cs ++ es) v' := by
  obtain ⟨v', m', e1, e2, e3⟩ := h.own.appD (by_ := by_) h.ext he h1 hby hn hs ht
  have hx : Ext m ((m.bump N).set (m.next + s) (some (.cells es (some u)))) := Ext.set ⟨by simp, fun b hb => rfl⟩ (by omega)
  obtain ⟨a1, a2, a3⟩ := app_updA (M := m.next) e1 (fun k hk => by cases hk; omega) hx.next
  refine ⟨v', m', e1, e2, ?_, fun b hb => ?_, e3⟩
  · have hk := h.keep hx
    refine ⟨Nat.le_trans hk.upd.next a1, fun b hb hn => ?_⟩
    have hb2 := h.upd.next
    rw [a2 b (by omega) (fun hm => by exact (h.at_ b hm).elim (fun e => hn (by simp [e])) (fun e => by omega)), hk.upd.same b hb hn]
  · have := h.upd.next
    rcases a3 with e | ⟨k, e, hk⟩
    · rw [e] at hb; exact h.at_ b hb
    · rw [e] at hb; simp at hb; subst hb; exact .inr (by omega)

theorem OwnQ.put {w : Value} {k : IntKind} {i o : Nat} (h : OwnQ m0 mb m q u n cs v) (hi : i < n) (ho : o < u) (hw : w.cells = #[w]) (hone : w.oneCell' = true) :
    ∃ b m', aIdxS u v (.int k i) = some (.pointer (some ⟨b, i * u, none⟩)) ∧ aStore 1 m (.pointer (some ⟨b, i * u + o, none⟩)) w = some m' ∧ OwnQ m0 mb m' q u n (cs.set (i * u + o) w) v := by
  obtain ⟨b, m', e1, e2, e3, e4⟩ := h.own.put (k := k) h.ext hi ho hw hone
  refine ⟨b, m', e1, e2, e3, ?_, h.at_, e4⟩
  have hbv : b ∈ vb v := by
    cases h.own with
    | nil h hc => omega
    | @«at» b2 c all hb hb2 hn hm hl hcs h1 =>
      simp only [aIdxS] at e1
      split at e1
      · have e1 := Option.some.inj e1
        simp only [Value.pointer.injEq, Option.some.injEq, Addr.mk.injEq] at e1
        rw [← e1.1]; simp [vb]
      · cases e1
  have hw' : aWrite m b (i * u + o) w.cells.toList = some m' := by
    simp only [aStore] at e2
    split at e2
    · exact e2
    · cases e2
  obtain ⟨a1, a2⟩ := aWrite_upd hw'
  refine ⟨by have := h.upd.next; omega, fun x hx hn => ?_⟩
  have := h.upd.next
  rw [a1.same x (by omega) (by simp; intro e; subst e; exact (h.at_ x hbv).elim (fun e => hn (by simp [e])) (fun e => by omega)), h.upd.same x hx hn]
end Go.Am


/- Maps whose keys are whole numbers. -/
set_option linter.unusedVariables false
namespace Go.Am
variable {α : Type}

def mpL (e : α → Value) (L : List (Int × α)) : List (Value × Value) := L.map fun p => (.int .i64 p.1, e p.2)
def lkp : List (Int × α) → Int → Option α
  | [], _ => none
  | (k, a) :: r, x => if k = x then some a else lkp r x
def updL : List (Int × α) → Int → α → List (Int × α)
  | [], x, a => [(x, a)]
  | (k, b) :: r, x, a => if k = x then (x, a) :: r else (k, b) :: updL r x a
def delL : List (Int × α) → Int → List (Int × α)
  | [], _ => []
  | (k, b) :: r, x => if k = x then r else (k, b) :: delL r x

theorem lkp_upd {L : List (Int × α)} {x y : Int} {a : α} : lkp (updL L x a) y = if y = x then some a else lkp L y := by
  induction L with
  | nil => simp only [updL, lkp]; by_cases h : x = y <;> simp [h]; intro e; exact absurd e.symm h
  | cons p r ih =>
    obtain ⟨k, b⟩ := p
    simp only [updL]
    by_cases h : k = x
    · subst h
      simp only [if_true, lkp]
      by_cases g : k = y
      · subst g; simp
      · rw [if_neg g, if_neg (fun e => g e.symm), if_neg g]
    · simp only [h, if_false, lkp]
      by_cases g : k = y
      · subst g; rw [if_pos rfl, if_neg h, if_pos rfl]
      · rw [if_neg g, ih, if_neg g]

theorem findK_mp {e : α → Value} {x : Int} : ∀ (L : List (Int × α)) (i : Nat), (lkp L x = none → findK .int (.int .i64 x) (mpL e L) i = some none ∧ ∀ a, mpL e L ++ [(.int .i64 x, e a)] = mpL e (updL L x a)) ∧
    ∀ a, lkp L x = some a → ∃ j, findK .int (.int .i64 x) (mpL e L) i = some (some (i + j, e a)) ∧ (∀ b, (mpL e L).set j (.int .i64 x, e b) = mpL e (updL L x b)) ∧ (mpL e L).eraseIdx j = mpL e (delL L x)
  | [], i => ⟨fun _ => ⟨rfl, fun a => rfl⟩, fun a h => by simp [lkp] at h⟩
  | (k, b) :: r, i => by
    by_cases h : k = x
    · subst h
      refine ⟨fun h => by simp [lkp] at h, fun a ha => ?_⟩
      simp only [lkp, if_true, Option.some.injEq] at ha
      subst ha
      refine ⟨0, ?_, fun b => ?_, ?_⟩
      · simp [mpL, findK, keyEq]
      · simp [mpL, updL]
      · simp [mpL, delL]
    · have hk : keyEq .int (.int .i64 x) (.int .i64 k) = some false := by simp [keyEq]; exact fun e => h e.symm
      have hf : findK .int (.int .i64 x) (mpL e ((k, b) :: r)) i = findK .int (.int .i64 x) (mpL e r) (i + 1) := by
        show (match keyEq .int (.int .i64 x) (.int .i64 k) with | some true => _ | some false => _ | none => _) = _
        rw [hk]; rfl
      obtain ⟨h1, h2⟩ := findK_mp (e := e) r (i + 1)
      refine ⟨fun hn => ?_, fun a ha => ?_⟩
      · simp only [lkp, h, if_false] at hn
        obtain ⟨g1, g2⟩ := h1 hn
        refine ⟨by rw [hf, g1], fun a => ?_⟩
        simp only [updL, h, if_false]
        show (.int .i64 k, e b) :: (mpL e r ++ _) = _
        rw [g2]; rfl
      · simp only [lkp, h, if_false] at ha
        obtain ⟨j, g1, g2, g3⟩ := h2 a ha
        refine ⟨j + 1, by rw [hf, g1]; congr 3; omega, fun c => ?_, ?_⟩
        · simp only [updL, h, if_false]
          show (.int .i64 k, e b) :: ((mpL e r).set j _) = _
          rw [g2]; rfl
        · simp only [delL, h, if_false]
          show (.int .i64 k, e b) :: ((mpL e r).eraseIdx j) = _
          rw [g3]; rfl

/-- A map that is there. -/
structure Mp (m : Mem) (r : Nat) (e : α → Value) (L : List (Int × α)) : Prop where
  at_ : m.blk r = some (.map (mpL e L))
  lt : r < m.next
theorem Mp.new {m : Mem} {e : α → Value} : Mp (m.new (.map [])) m.next e [] := ⟨by simp [Mem.new, mpL], by simp [Mem.new]⟩
theorem Mp.keep {m m' : Mem} {r : Nat} {e : α → Value} {L : List (Int × α)} (h : Mp m r e L) (hx : Ext m m') : Mp m' r e L := ⟨by rw [hx.same _ h.lt]; exact h.at_, Nat.lt_of_lt_of_le h.lt hx.next⟩
theorem Mp.upd {m m' : Mem} {r : Nat} {e : α → Value} {L : List (Int × α)} {fp : List Nat} (h : Mp m r e L) (hx : Upd m m' fp) (hn : r ∉ fp) : Mp m' r e L := ⟨by rw [hx.same _ h.lt hn]; exact h.at_, Nat.lt_of_lt_of_le h.lt hx.next⟩
theorem Mp.other {m : Mem} {r b : Nat} {e : α → Value} {L : List (Int × α)} {o : Option AObj} (h : Mp m r e L) (hn : r ≠ b) : Mp (m.set b o) r e L := ⟨by simp [Mem.set, hn]; exact h.at_, h.lt⟩
theorem Mp.self {m : Mem} {r : Nat} {e : α → Value} {L L' : List (Int × α)} (h : Mp m r e L) : Mp (m.set r (some (.map (mpL e L')))) r e L' := ⟨by simp [Mem.set], h.lt⟩

theorem Mp.look {m : Mem} {r : Nat} {e : α → Value} {L : List (Int × α)} (h : Mp m r e L) {x : Int} {z : α} : aLook .int (e z) false m (.map (some r)) (.int .i64 x) = some (e ((lkp L x).getD z)) := by
  simp only [aLook, h.at_, Option.bind_some]
  obtain ⟨h1, h2⟩ := findK_mp (e := e) (x := x) L 0
  cases hl : lkp L x with
  | none => rw [(h1 hl).1]; rfl
  | some a =>
    obtain ⟨j, g, -⟩ := h2 a hl
    rw [g]; rfl
theorem Mp.look_ok {m : Mem} {r : Nat} {e : α → Value} {L : List (Int × α)} (h : Mp m r e L) {x : Int} {z : α} : aLook .int (e z) true m (.map (some r)) (.int .i64 x) = some (.tuple #[e ((lkp L x).getD z), .bool (lkp L x).isSome]) := by
  simp only [aLook, h.at_, Option.bind_some]
  obtain ⟨h1, h2⟩ := findK_mp (e := e) (x := x) L 0
  cases hl : lkp L x with
  | none => rw [(h1 hl).1]; rfl
  | some a =>
    obtain ⟨j, g, -⟩ := h2 a hl
    rw [g]; rfl
theorem Mp.put {m : Mem} {r : Nat} {e : α → Value} {L : List (Int × α)} (h : Mp m r e L) {x : Int} {a : α} : aUpd .int m (.map (some r)) (.int .i64 x) (e a) = some (m.set r (some (.map (mpL e (updL L x a))))) := by
  simp only [aUpd, h.at_]
  obtain ⟨h1, h2⟩ := findK_mp (e := e) (x := x) L 0
  cases hl : lkp L x with
  | none => rw [(h1 hl).1]; simp only [Option.map_some]; rw [(h1 hl).2]
  | some b =>
    obtain ⟨j, g, g2, -⟩ := h2 b hl
    rw [g]; simp only [Option.map_some, Nat.zero_add]; rw [g2]
theorem Mp.del {m : Mem} {r : Nat} {e : α → Value} {L : List (Int × α)} (h : Mp m r e L) {x : Int} : ∃ L', L' = (if (lkp L x).isSome then delL L x else L) ∧ ∃ m', aDel .int m (.map (some r)) (.int .i64 x) = some m' ∧ Mp m' r e L' ∧ Upd m m' [r] := by
  refine ⟨_, rfl, ?_⟩
  simp only [aDel, h.at_]
  obtain ⟨h1, h2⟩ := findK_mp (e := e) (x := x) L 0
  cases hl : lkp L x with
  | none => rw [(h1 hl).1]; exact ⟨m, rfl, h, Upd.refl _ _⟩
  | some b =>
    obtain ⟨j, g, -, g3⟩ := h2 b hl
    rw [g]; simp only [Option.map_some, Nat.zero_add]
    rw [g3]
    exact ⟨_, rfl, h.self, Upd.set (by simp)⟩

abbrev vI (n : Int) : Value := .int .i64 n
abbrev vB (b : Bool) : Value := .bool b
end Go.Am


/- Heaps: how one lies; fractions held against each other. -/
set_option linter.unusedVariables false
set_option linter.unusedSimpArgs false
namespace Go.Am
open Classical
variable {m : Mem}

noncomputable def cmpK (p q : Ky) : Int := if crs p q < crs q p then -1 else if crs p q = crs q p then 0 else 1

theorem two_words (x y : BitVec 64) : (hiW x y).toNat * 18446744073709551616 + (x * y).toNat = x.toNat * y.toNat := by
  rw [hiW_spec, BitVec.toNat_mul]
  have := Nat.div_add_mod (x.toNat * y.toNat) 18446744073709551616
  simp only [Nat.reducePow]
  omega

theorem Compare_spec {p q : Ky} (hp : p.2 ≠ 0#64) (hq : q.2 ≠ 0#64) : WC R F.fixq_Compare [u64 p.1, u64 p.2, u64 q.1, u64 q.2] m fun v m' => v = .tuple #[.int .i64 (cmpK p q), .int .i64 0] ∧ m' = m := by
  refine WC.of R.fixq_Compare rfl ?_
  have d1 : decide (p.2 = 0#64) = false := decide_eq_false hp
  have d2 : decide (q.2 = 0#64) = false := decide_eq_false hq
  simp only [RC.fixq_Compare, go_sem, Int.reduceBEq, Int.reduceBNe, Int.reduceNeg, reduceCtorEq, Nat.reduceEqDiff, Nat.reduceAdd, Nat.reduceLeDiff, Nat.reduceMul, Nat.reduceSub, Int.reduceToNat, Int.reduceLT, Int.reduceLE, d1, d2, u_eql]
  refine gC.of Mul64_spec ?_
  rintro _ m_ ⟨rfl, hm_⟩
  replace hm_ := hm_.symm
  subst hm_
  simp only [go_sem, Int.reduceBEq, Int.reduceBNe, Int.reduceNeg, reduceCtorEq, Nat.reduceEqDiff, Nat.reduceAdd, Nat.reduceLeDiff, Nat.reduceMul, Nat.reduceSub, Int.reduceToNat, Int.reduceLT, Int.reduceLE]
  refine gC.of Mul64_spec ?_
  rintro _ m_ ⟨rfl, hm_⟩
  replace hm_ := hm_.symm
  subst hm_
  simp only [go_sem, Int.reduceBEq, Int.reduceBNe, Int.reduceNeg, reduceCtorEq, Nat.reduceEqDiff, Nat.reduceAdd, Nat.reduceLeDiff, Nat.reduceMul, Nat.reduceSub, Int.reduceToNat, Int.reduceLT, Int.reduceLE]
  have t1 := two_words p.1 q.2
  have t2 := two_words q.1 p.2
  have l1 : (p.1 * q.2).toNat < 18446744073709551616 := (p.1 * q.2).isLt
  have l2 : (q.1 * p.2).toNat < 18446744073709551616 := (q.1 * p.2).isLt
  have e1 : crs p q = (hiW p.1 q.2).toNat * 18446744073709551616 + (p.1 * q.2).toNat := t1.symm
  have e2 : crs q p = (hiW q.1 p.2).toNat * 18446744073709551616 + (q.1 * p.2).toNat := t2.symm
  generalize hiW p.1 q.2 = H1 at *
  generalize hiW q.1 p.2 = H2 at *
  generalize p.1 * q.2 = L1 at *
  generalize q.1 * p.2 = L2 at *
  have k1 : H1 = H2 ↔ H1.toNat = H2.toNat := BitVec.toNat_inj.symm
  have k2 : L1 = L2 ↔ L1.toNat = L2.toNat := BitVec.toNat_inj.symm
  unfold cmpK
  by_cases g1 : H1.toNat < H2.toNat
  · have k : crs p q < crs q p := by omega
    simp only [go_sem, Int.reduceBEq, Int.reduceBNe, Int.reduceNeg, reduceCtorEq, Nat.reduceEqDiff, Nat.reduceAdd, Nat.reduceLeDiff, Nat.reduceMul, Nat.reduceSub, Int.reduceToNat, Int.reduceLT, Int.reduceLE, decide_eq_true g1, if_pos k]
  · by_cases g2 : H1 = H2
    · have g2' := k1.1 g2
      by_cases g3 : L1.toNat < L2.toNat
      · have k : crs p q < crs q p := by omega
        simp only [go_sem, Int.reduceBEq, Int.reduceBNe, Int.reduceNeg, reduceCtorEq, Nat.reduceEqDiff, Nat.reduceAdd, Nat.reduceLeDiff, Nat.reduceMul, Nat.reduceSub, Int.reduceToNat, Int.reduceLT, Int.reduceLE, decide_eq_false g1, decide_eq_true g2, decide_eq_true g3, if_pos k]
      · by_cases g4 : L1 = L2
        · have g4' := k2.1 g4
          have k : ¬ crs p q < crs q p := by omega
          have k2 : crs p q = crs q p := by omega
          simp only [go_sem, Int.reduceBEq, Int.reduceBNe, Int.reduceNeg, reduceCtorEq, Nat.reduceEqDiff, Nat.reduceAdd, Nat.reduceLeDiff, Nat.reduceMul, Nat.reduceSub, Int.reduceToNat, Int.reduceLT, Int.reduceLE, decide_eq_false g1, decide_eq_true g2, decide_eq_false g3, decide_eq_true g4, if_neg k, if_pos k2]
        · have g4' := mt k2.2 g4
          have k : ¬ crs p q < crs q p := by omega
          have k2 : ¬ crs p q = crs q p := by omega
          simp only [go_sem, Int.reduceBEq, Int.reduceBNe, Int.reduceNeg, reduceCtorEq, Nat.reduceEqDiff, Nat.reduceAdd, Nat.reduceLeDiff, Nat.reduceMul, Nat.reduceSub, Int.reduceToNat, Int.reduceLT, Int.reduceLE, decide_eq_false g1, decide_eq_true g2, decide_eq_false g3, decide_eq_false g4, if_neg k, if_neg k2]
    · have g2' := mt k1.2 g2
      have k : ¬ crs p q < crs q p := by omega
      have k2 : ¬ crs p q = crs q p := by omega
      simp only [go_sem, Int.reduceBEq, Int.reduceBNe, Int.reduceNeg, reduceCtorEq, Nat.reduceEqDiff, Nat.reduceAdd, Nat.reduceLeDiff, Nat.reduceMul, Nat.reduceSub, Int.reduceToNat, Int.reduceLT, Int.reduceLE, decide_eq_false g1, decide_eq_false g2, if_neg k, if_neg k2]

/-! ### how a heap lies -/

def kyV (k : Ky) : List Value := [u64 k.1, u64 k.2]
theorem kyV_len (k : Ky) : (kyV k).length = 2 := rfl
def natsZ (l : List Nat) : List Value := l.map fun x => .int .i64 ((x : Nat) : Int)
theorem natsZ_len {l : List Nat} : (natsZ l).length = l.length := by unfold natsZ; rw [List.length_map]
theorem natsZ_get {l : List Nat} {i : Nat} : (natsZ l)[i]? = (l[i]?).map fun x => .int .i64 ((x : Nat) : Int) := by unfold natsZ; rw [List.getElem?_map]
theorem natsZ_set {l : List Nat} {i x : Nat} : (natsZ l).set i (.int .i64 ((x : Nat) : Int)) = natsZ (l.set i x) := by unfold natsZ; rw [List.map_set]
theorem keys_get {l : List Ky} {x j : Nat} (hx : x < l.length) (hj : j < 2) : (l.flatMap kyV)[x * 2 + j]? = (kyV (l.getD x (0#64, 0#64)))[j]? := by
  have h := flat_drop (f := kyV) kyV_len hx
  have : l.getD x (0#64, 0#64) = l[x] := by rw [List.getD_eq_getElem?_getD, List.getElem?_eq_getElem hx]; rfl
  rw [this, ← h, List.getElem?_take, if_pos hj, List.getElem?_drop]

structure HpL (m : Mem) (b kb pb : Nat) (iv : Value) (s : HpS) : Prop where
  bk : Bk m b [.slice (some ⟨kb, 0, none⟩) s.keys.length s.keys.length, .slice (some ⟨pb, 0, none⟩) s.keys.length s.keys.length, iv] 3
  kk : Bk m kb (s.keys.flatMap kyV) 2
  pp : Bk m pb (natsZ s.pl) 1
  ii : Own mem0 m 1 s.ids.length (natsZ s.ids) iv
  n1 : b ≠ kb ∧ b ≠ pb ∧ kb ≠ pb
  n2 : b ∉ vb iv ∧ kb ∉ vb iv ∧ pb ∉ vb iv
  wf : s.Wf
  sz : 0 < s.keys.length ∧ s.keys.length ≤ 1024
theorem HpL.keep {m m' : Mem} {b kb pb : Nat} {iv : Value} {s : HpS} (h : HpL m b kb pb iv s) (hx : Ext m m') : HpL m' b kb pb iv s := ⟨h.bk.keep hx, h.kk.keep hx, h.pp.keep hx, h.ii.keep hx, h.n1, h.n2, h.wf, h.sz⟩
theorem HpL.pl_len {m : Mem} {b kb pb : Nat} {iv : Value} {s : HpS} (h : HpL m b kb pb iv s) : s.pl.length = s.keys.length := h.wf.len
theorem HpS.Wf.card {s : HpS} (w : s.Wf) : s.ids.length ≤ s.keys.length := by
  have h1 := w.nodup
  have h2 : ∀ x ∈ s.ids, x ∈ List.range s.keys.length := fun x hx => List.mem_range.2 (w.lt_n hx)
  have := List.Nodup.length_le_of_subset h1 h2
  rwa [List.length_range] at this

/-- What is read of a heap. -/
theorem HpL.id {m : Mem} {b kb pb : Nat} {iv : Value} {s : HpS} (h : HpL m b kb pb iv s) {i : Nat} (hi : i < s.ids.length) :
    ∃ c, aIdxS 1 iv (.int .i64 i) = some (.pointer (some ⟨c, i, none⟩)) ∧ aLoad false 1 m (.pointer (some ⟨c, i, none⟩)) = some (.int .i64 ((s.at_ i : Nat) : Int)) := by
  have hii := h.ii
  generalize hn : s.ids.length = n at hii hi
  generalize hz : natsZ s.ids = z at hii
  cases hii with
  | nil h hc => omega
  | @«at» c k all hb hb2 hnk hm hl hcs h1 =>
    refine ⟨c, ?_, ?_⟩
    · simp only [aIdxS]; rw [if_pos (by omega), Int.toNat_natCast, Nat.mul_one, Nat.zero_add]
    · rw [load_w, hm, ldW_c]
      have : z[i]? = all[i]? := by rw [← hcs, List.getElem?_take, if_pos (by omega)]
      rw [← this, ← hz, natsZ_get]
      have hi' : i < s.ids.length := by omega
      rw [List.getElem?_eq_getElem hi', HpS.at_get hi']; rfl
end Go.Am
