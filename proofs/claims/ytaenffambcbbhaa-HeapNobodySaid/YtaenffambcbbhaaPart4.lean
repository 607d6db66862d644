/- Parts of the proofs of the statements of this seat: AmTabHeap, AmTieHeap, AmBlk, HeapNob, WHeapNobody. No conditions. -/
import Derived.Test.YtaenffambcbbhaaPart3
import Derived.Test.YtaenffambcbbhaaRows
set_option linter.unusedVariables false
set_option linter.unusedSimpArgs false

/- The functions of the layer heap in the form of the abstract machine. Printed by amgen.py. -/
set_option linter.unusedVariables false
namespace Go.Am

@[irreducible] def F.law06_HeapPlays : Nat := 3
@[irreducible] def F.law06_HeapSorts : Nat := 4
@[irreducible] def F.law06_HeapNobody : Nat := 5
@[irreducible] def F.heap_New : Nat := 6
@[irreducible] def F.law06_awake : Nat := 7
@[irreducible] def F.ref06_Put : Nat := 8
@[irreducible] def F.heap_Heap_Put : Nat := 9
@[irreducible] def F.ref06_Remove : Nat := 10
@[irreducible] def F.heap_Heap_Remove : Nat := 11
@[irreducible] def F.ref06_Min : Nat := 12
@[irreducible] def F.heap_Heap_Pop : Nat := 13
@[irreducible] def F.heap_Heap_Min : Nat := 14
@[irreducible] def F.heap_Heap_Key : Nat := 15
@[irreducible] def F.ref06_Key : Nat := 16
@[irreducible] def F.heap_Heap_Len : Nat := 17
@[irreducible] def F.ref02_Compare : Nat := 18
@[irreducible] def F.heap_Heap_up : Nat := 19
@[irreducible] def F.heap_Heap_down : Nat := 20
@[irreducible] def F.heap_Heap_has : Nat := 21
@[irreducible] def F.heap_Heap_swap : Nat := 22
@[irreducible] def F.ref06_ahead : Nat := 23
@[irreducible] def F.ref02_Times : Nat := 24
@[irreducible] def F.heap_Heap_ahead : Nat := 25
@[irreducible] def F.ref02_Twice : Nat := 26
@[irreducible] def F.ref02_Sum : Nat := 27
@[irreducible] def F.fixq_Compare : Nat := 28
@[irreducible] def F.math_bits_Mul64 : Nat := 29

def RC.law06_HeapPlays : RFn := ⟨3, [.slot 6],
  (.seq (.region [⟨some 6, none, .mov (.c (.bool false))⟩]
    [0, 1, 2])
  (.seq (.region [⟨some 31, none, .mov (.t 0)⟩,
    ⟨some 32, none, .call F.heap_New [.t 31]⟩,
    ⟨some 30, none, .mov (.t 32)⟩,
    ⟨some 33, none, .ext 0 (.t 30)⟩,
    ⟨some 34, none, .ext 1 (.t 30)⟩,
    ⟨some 7, none, .mov (.t 33)⟩,
    ⟨some 8, none, .mov (.t 34)⟩]
    [0, 1, 2, 7, 8])
  (.seq (.seq (.region [⟨some 35, none, .mov (.t 0)⟩,
    ⟨some 36, none, .bin .lss (.t 35) (.c (.int .i64 1))⟩,
    ⟨some 37, none, .mov (.t 36)⟩,
    ⟨some 38, some (37, false), .mov (.t 0)⟩,
    ⟨some 39, some (37, false), .bin .gtr (.t 38) (.c (.int .i64 1024))⟩,
    ⟨some 40, none, .pick (.t 37) (.c (.bool true)) (.t 39)⟩]
    [0, 1, 2, 7, 8, 40])
  (.cond (.t 40)
    (.seq (.region [⟨some 41, none, .mov (.t 7)⟩,
      ⟨some 42, none, .eq false .ptr (.t 41) (.c (.pointer none))⟩,
      ⟨some 43, none, .mov (.t 42)⟩,
      ⟨some 44, some (43, true), .mov (.t 8)⟩,
      ⟨some 45, some (43, true), .bin .eql (.t 44) (.c (.int .i64 1))⟩,
      ⟨some 46, none, .pick (.t 43) (.t 45) (.c (.bool false))⟩,
      ⟨some 47, none, .mov (.t 46)⟩,
      ⟨some 48, some (47, true), .call F.law06_awake []⟩,
      ⟨some 49, none, .pick (.t 47) (.t 48) (.c (.bool false))⟩,
      ⟨some 6, none, .mov (.t 49)⟩]
      [6])
    .ret)
    .skip))
  (.seq (.seq (.region [⟨some 50, none, .mov (.t 8)⟩,
    ⟨some 51, none, .bin .neq (.t 50) (.c (.int .i64 0))⟩,
    ⟨some 52, none, .mov (.t 51)⟩,
    ⟨some 53, some (52, false), .mov (.t 7)⟩,
    ⟨some 54, some (52, false), .eq false .ptr (.t 53) (.c (.pointer none))⟩,
    ⟨some 55, none, .pick (.t 52) (.c (.bool true)) (.t 54)⟩]
    [0, 1, 2, 7, 55])
  (.cond (.t 55)
    (.seq (.region [⟨some 6, none, .mov (.c (.bool false))⟩]
      [6])
    .ret)
    .skip))
  (.seq (.region [⟨some 9, none, .mov (.c (.slice none 0 0))⟩]
    [0, 1, 2, 7, 9])
  (.seq (.seq (.region [⟨some 10, none, .mov (.c (.int .i64 0))⟩]
    [0, 1, 2, 7, 9, 10])
  (.block 0
    (.loop [0, 1, 2, 7, 9, 10]
      (.seq (.seq (.region [⟨some 56, none, .mov (.t 10)⟩,
        ⟨some 57, none, .mov (.t 1)⟩,
        ⟨some 58, none, .len (.t 57)⟩,
        ⟨some 59, none, .bin .lss (.t 56) (.t 58)⟩,
        ⟨some 60, none, .mov (.t 59)⟩,
        ⟨some 61, some (60, true), .mov (.t 10)⟩,
        ⟨some 62, some (60, true), .bin .lss (.t 61) (.c (.int .i64 60))⟩,
        ⟨some 63, none, .pick (.t 60) (.t 62) (.c (.bool false))⟩]
        [0, 1, 2, 7, 9, 10, 63])
      (.cond (.t 63)
        .skip
        (.exit 0)))
      (.seq (.block 1
        (.seq (.region [⟨some 66, none, .mov (.t 1)⟩,
          ⟨some 67, none, .mov (.t 10)⟩,
          ⟨some 68, none, .idxS 4 (.t 66) (.t 67)⟩,
          ⟨some 69, none, .load true 4 (.t 68)⟩,
          ⟨some 11, none, .alloc [(.int .i64 0), (.int .i64 0), (u64 0#64), (u64 0#64)]⟩,
          ⟨none, none, .store 4 (.t 11) (.t 69)⟩]
          [0, 1, 2, 7, 9, 10, 11])
        (.seq (.seq (.region [⟨some 70, none, .fieldAddr 0 (.t 11)⟩,
          ⟨some 71, none, .load false 1 (.t 70)⟩]
          [0, 1, 2, 7, 9, 10, 11, 71])
        (.block 2
          (.seq (.seq (.region [⟨some 73, none, .bin .eql (.t 71) (.c (.int .i64 0))⟩,
            ⟨some 72, none, .mov (.t 73)⟩]
            [0, 1, 2, 7, 9, 10, 11, 71, 72])
          (.cond (.t 72)
            .skip
            (.region [⟨some 74, none, .bin .eql (.t 71) (.c (.int .i64 1))⟩,
              ⟨some 72, none, .mov (.t 74)⟩]
              [0, 1, 2, 7, 9, 10, 11, 71, 72])))
          (.cond (.t 72)
            (.seq (.region [⟨some 75, none, .fieldAddr 1 (.t 11)⟩,
              ⟨some 76, none, .load false 1 (.t 75)⟩,
              ⟨some 77, none, .bin .geq (.t 76) (.c (.int .i64 0))⟩,
              ⟨some 78, none, .mov (.t 77)⟩,
              ⟨some 79, some (78, true), .fieldAddr 1 (.t 11)⟩,
              ⟨some 80, some (78, true), .load false 1 (.t 79)⟩,
              ⟨some 81, some (78, true), .mov (.t 0)⟩,
              ⟨some 82, some (78, true), .bin .lss (.t 80) (.t 81)⟩,
              ⟨some 83, none, .pick (.t 78) (.t 82) (.c (.bool false))⟩,
              ⟨some 84, none, .mov (.t 83)⟩,
              ⟨some 85, some (84, true), .fieldAddr 3 (.t 11)⟩,
              ⟨some 86, some (84, true), .load false 1 (.t 85)⟩,
              ⟨some 87, some (84, true), .bin .gtr (.t 86) (.c (u64 0#64))⟩,
              ⟨some 88, none, .pick (.t 84) (.t 87) (.c (.bool false))⟩,
              ⟨some 12, none, .mov (.t 88)⟩]
              [0, 1, 2, 7, 9, 10, 11, 12])
            (.seq (.seq (.region [⟨some 89, none, .mov (.t 12)⟩]
              [0, 1, 2, 7, 9, 10, 11, 12, 89])
            (.cond (.t 89)
              (.region [⟨some 90, none, .mov (.t 9)⟩,
                ⟨some 91, none, .fieldAddr 1 (.t 11)⟩,
                ⟨some 92, none, .load false 1 (.t 91)⟩,
                ⟨some 93, none, .fieldAddr 2 (.t 11)⟩,
                ⟨some 94, none, .load false 1 (.t 93)⟩,
                ⟨some 95, none, .fieldAddr 3 (.t 11)⟩,
                ⟨some 96, none, .load false 1 (.t 95)⟩,
                ⟨some 97, none, .build [(.int .i64 0), (u64 0#64), (u64 0#64)] [(0, 1, .t 92), (1, 1, .t 94), (2, 1, .t 96)]⟩,
                ⟨some 98, none, .call F.ref06_Put [.t 90, .t 97]⟩,
                ⟨some 9, none, .mov (.t 98)⟩]
                [0, 1, 2, 7, 9, 10, 11, 12])
              .skip))
            (.seq (.region [⟨some 99, none, .mov (.t 7)⟩,
              ⟨some 100, none, .fieldAddr 1 (.t 11)⟩,
              ⟨some 101, none, .load false 1 (.t 100)⟩,
              ⟨some 102, none, .fieldAddr 2 (.t 11)⟩,
              ⟨some 103, none, .load false 1 (.t 102)⟩,
              ⟨some 104, none, .fieldAddr 3 (.t 11)⟩,
              ⟨some 105, none, .load false 1 (.t 104)⟩,
              ⟨some 106, none, .call F.heap_Heap_Put [.t 99, .t 101, .t 103, .t 105]⟩,
              ⟨some 13, none, .mov (.t 106)⟩]
              [0, 1, 2, 7, 9, 10, 12, 13])
            (.seq (.region [⟨some 107, none, .mov (.t 13)⟩,
              ⟨some 108, none, .bin .eql (.t 107) (.c (.int .i64 0))⟩,
              ⟨some 109, none, .mov (.t 12)⟩,
              ⟨some 110, none, .eq true .bool (.t 108) (.t 109)⟩,
              ⟨some 111, none, .mov (.t 110)⟩,
              ⟨some 112, some (111, false), .mov (.t 13)⟩,
              ⟨some 113, some (111, false), .bin .neq (.t 112) (.c (.int .i64 0))⟩,
              ⟨some 114, some (111, false), .mov (.t 113)⟩,
              ⟨some 115, some (114, true), .mov (.t 13)⟩,
              ⟨some 116, some (114, true), .bin .neq (.t 115) (.c (.int .i64 1))⟩,
              ⟨some 117, some (111, false), .pick (.t 114) (.t 116) (.c (.bool false))⟩,
              ⟨some 118, none, .pick (.t 111) (.c (.bool true)) (.t 117)⟩]
              [0, 1, 2, 7, 9, 10, 118])
            (.cond (.t 118)
              (.seq (.region [⟨some 6, none, .mov (.c (.bool false))⟩]
                [6])
              .ret)
              .skip)))))
            (.seq (.region [⟨some 120, none, .bin .eql (.t 71) (.c (.int .i64 2))⟩,
              ⟨some 119, none, .mov (.t 120)⟩]
              [0, 1, 2, 7, 9, 10, 11, 71, 119])
            (.cond (.t 119)
              (.seq (.region [⟨some 122, none, .mov (.t 9)⟩,
                ⟨some 123, none, .fieldAddr 1 (.t 11)⟩,
                ⟨some 124, none, .load false 1 (.t 123)⟩,
                ⟨some 125, none, .call F.ref06_Remove [.t 122, .t 124]⟩,
                ⟨some 121, none, .mov (.t 125)⟩,
                ⟨some 126, none, .ext 0 (.t 121)⟩,
                ⟨some 127, none, .ext 1 (.t 121)⟩,
                ⟨some 14, none, .mov (.t 126)⟩,
                ⟨some 15, none, .mov (.t 127)⟩]
                [0, 1, 2, 7, 10, 11, 14, 15])
              (.seq (.region [⟨some 128, none, .mov (.t 14)⟩,
                ⟨some 9, none, .mov (.t 128)⟩]
                [0, 1, 2, 7, 9, 10, 11, 15])
              (.seq (.region [⟨some 129, none, .mov (.t 7)⟩,
                ⟨some 130, none, .fieldAddr 1 (.t 11)⟩,
                ⟨some 131, none, .load false 1 (.t 130)⟩,
                ⟨some 132, none, .call F.heap_Heap_Remove [.t 129, .t 131]⟩,
                ⟨some 133, none, .mov (.t 15)⟩,
                ⟨some 134, none, .eq true .bool (.t 132) (.t 133)⟩]
                [0, 1, 2, 7, 9, 10, 134])
              (.cond (.t 134)
                (.seq (.region [⟨some 6, none, .mov (.c (.bool false))⟩]
                  [6])
                .ret)
                .skip))))
              (.seq (.region [⟨some 136, none, .bin .eql (.t 71) (.c (.int .i64 3))⟩,
                ⟨some 135, none, .mov (.t 136)⟩]
                [0, 1, 2, 7, 9, 10, 135])
              (.cond (.t 135)
                (.seq (.region [⟨some 138, none, .mov (.t 9)⟩,
                  ⟨some 139, none, .call F.ref06_Min [.t 138]⟩,
                  ⟨some 137, none, .mov (.t 139)⟩,
                  ⟨some 140, none, .ext 0 (.t 137)⟩,
                  ⟨some 141, none, .ext 1 (.t 137)⟩,
                  ⟨some 16, none, .mov (.t 140)⟩,
                  ⟨some 17, none, .mov (.t 141)⟩]
                  [0, 1, 2, 7, 9, 10, 16, 17])
                (.seq (.seq (.region [⟨some 142, none, .mov (.t 17)⟩]
                  [0, 1, 2, 7, 9, 10, 16, 17, 142])
                (.cond (.t 142)
                  (.region [⟨some 144, none, .mov (.t 9)⟩,
                    ⟨some 145, none, .mov (.t 16)⟩,
                    ⟨some 146, none, .call F.ref06_Remove [.t 144, .t 145]⟩,
                    ⟨some 143, none, .mov (.t 146)⟩,
                    ⟨some 147, none, .ext 0 (.t 143)⟩,
                    ⟨some 148, none, .ext 1 (.t 143)⟩,
                    ⟨some 9, none, .mov (.t 147)⟩]
                    [0, 1, 2, 7, 9, 10, 16, 17])
                  .skip))
                (.seq (.region [⟨some 150, none, .mov (.t 7)⟩,
                  ⟨some 151, none, .call F.heap_Heap_Pop [.t 150]⟩,
                  ⟨some 149, none, .mov (.t 151)⟩,
                  ⟨some 152, none, .ext 0 (.t 149)⟩,
                  ⟨some 153, none, .ext 1 (.t 149)⟩,
                  ⟨some 18, none, .mov (.t 152)⟩,
                  ⟨some 19, none, .mov (.t 153)⟩]
                  [0, 1, 2, 7, 9, 10, 16, 17, 18, 19])
                (.seq (.region [⟨some 154, none, .mov (.t 18)⟩,
                  ⟨some 155, none, .mov (.t 16)⟩,
                  ⟨some 156, none, .bin .neq (.t 154) (.t 155)⟩,
                  ⟨some 157, none, .mov (.t 156)⟩,
                  ⟨some 158, some (157, false), .mov (.t 19)⟩,
                  ⟨some 159, some (157, false), .mov (.t 17)⟩,
                  ⟨some 160, some (157, false), .eq true .bool (.t 158) (.t 159)⟩,
                  ⟨some 161, none, .pick (.t 157) (.c (.bool true)) (.t 160)⟩]
                  [0, 1, 2, 7, 9, 10, 161])
                (.cond (.t 161)
                  (.seq (.region [⟨some 6, none, .mov (.c (.bool false))⟩]
                    [6])
                  .ret)
                  .skip)))))
                .skip)))))) [0, 1, 2, 7, 9, 10]))
        (.seq (.region [⟨some 163, none, .mov (.t 7)⟩,
          ⟨some 164, none, .call F.heap_Heap_Min [.t 163]⟩,
          ⟨some 162, none, .mov (.t 164)⟩,
          ⟨some 165, none, .ext 0 (.t 162)⟩,
          ⟨some 166, none, .ext 1 (.t 162)⟩,
          ⟨some 20, none, .mov (.t 165)⟩,
          ⟨some 21, none, .mov (.t 166)⟩]
          [0, 1, 2, 7, 9, 10, 20, 21])
        (.seq (.region [⟨some 168, none, .mov (.t 9)⟩,
          ⟨some 169, none, .call F.ref06_Min [.t 168]⟩,
          ⟨some 167, none, .mov (.t 169)⟩,
          ⟨some 170, none, .ext 0 (.t 167)⟩,
          ⟨some 171, none, .ext 1 (.t 167)⟩,
          ⟨some 22, none, .mov (.t 170)⟩,
          ⟨some 23, none, .mov (.t 171)⟩]
          [0, 1, 2, 7, 9, 10, 20, 21, 22, 23])
        (.seq (.region [⟨some 173, none, .mov (.t 7)⟩,
          ⟨some 174, none, .mov (.t 2)⟩,
          ⟨some 175, none, .call F.heap_Heap_Key [.t 173, .t 174]⟩,
          ⟨some 172, none, .mov (.t 175)⟩,
          ⟨some 176, none, .ext 0 (.t 172)⟩,
          ⟨some 177, none, .ext 1 (.t 172)⟩,
          ⟨some 178, none, .ext 2 (.t 172)⟩,
          ⟨some 24, none, .mov (.t 176)⟩,
          ⟨some 25, none, .mov (.t 177)⟩,
          ⟨some 26, none, .mov (.t 178)⟩]
          [0, 1, 2, 7, 9, 10, 20, 21, 22, 23, 24, 25, 26])
        (.seq (.region [⟨some 180, none, .mov (.t 9)⟩,
          ⟨some 181, none, .mov (.t 2)⟩,
          ⟨some 182, none, .call F.ref06_Key [.t 180, .t 181]⟩,
          ⟨some 179, none, .mov (.t 182)⟩,
          ⟨some 183, none, .ext 0 (.t 179)⟩,
          ⟨some 184, none, .ext 1 (.t 179)⟩,
          ⟨some 185, none, .ext 2 (.t 179)⟩,
          ⟨some 27, none, .mov (.t 183)⟩,
          ⟨some 28, none, .mov (.t 184)⟩,
          ⟨some 29, none, .mov (.t 185)⟩]
          [0, 1, 2, 7, 9, 10, 20, 21, 22, 23, 24, 25, 26, 27, 28, 29])
        (.seq (.region [⟨some 186, none, .mov (.t 20)⟩,
          ⟨some 187, none, .mov (.t 22)⟩,
          ⟨some 188, none, .bin .neq (.t 186) (.t 187)⟩,
          ⟨some 189, none, .mov (.t 188)⟩,
          ⟨some 190, some (189, false), .mov (.t 21)⟩,
          ⟨some 191, some (189, false), .mov (.t 23)⟩,
          ⟨some 192, some (189, false), .eq true .bool (.t 190) (.t 191)⟩,
          ⟨some 193, none, .pick (.t 189) (.c (.bool true)) (.t 192)⟩,
          ⟨some 194, none, .mov (.t 193)⟩,
          ⟨some 195, some (194, false), .mov (.t 7)⟩,
          ⟨some 196, some (194, false), .call F.heap_Heap_Len [.t 195]⟩,
          ⟨some 197, some (194, false), .mov (.t 9)⟩,
          ⟨some 198, some (194, false), .len (.t 197)⟩,
          ⟨some 199, some (194, false), .bin .neq (.t 196) (.t 198)⟩,
          ⟨some 200, none, .pick (.t 194) (.c (.bool true)) (.t 199)⟩,
          ⟨some 201, none, .mov (.t 200)⟩,
          ⟨some 202, some (201, false), .mov (.t 24)⟩,
          ⟨some 203, some (201, false), .mov (.t 27)⟩,
          ⟨some 204, some (201, false), .bin .neq (.t 202) (.t 203)⟩,
          ⟨some 205, none, .pick (.t 201) (.c (.bool true)) (.t 204)⟩,
          ⟨some 206, none, .mov (.t 205)⟩,
          ⟨some 207, some (206, false), .mov (.t 25)⟩,
          ⟨some 208, some (206, false), .mov (.t 28)⟩,
          ⟨some 209, some (206, false), .bin .neq (.t 207) (.t 208)⟩,
          ⟨some 210, none, .pick (.t 206) (.c (.bool true)) (.t 209)⟩,
          ⟨some 211, none, .mov (.t 210)⟩,
          ⟨some 212, some (211, false), .mov (.t 26)⟩,
          ⟨some 213, some (211, false), .mov (.t 29)⟩,
          ⟨some 214, some (211, false), .eq true .bool (.t 212) (.t 213)⟩,
          ⟨some 215, none, .pick (.t 211) (.c (.bool true)) (.t 214)⟩]
          [0, 1, 2, 7, 9, 10, 215])
        (.cond (.t 215)
          (.seq (.region [⟨some 6, none, .mov (.c (.bool false))⟩]
            [6])
          .ret)
          .skip)))))))) [0, 1, 2, 7, 9, 10])
      (.region [⟨some 64, none, .mov (.t 10)⟩,
        ⟨some 65, none, .bin .add (.t 64) (.c (.int .i64 1))⟩,
        ⟨some 10, none, .mov (.t 65)⟩]
        [0, 1, 2, 7, 9, 10])))) []))
  (.seq (.region [⟨some 216, none, .call F.law06_awake []⟩,
    ⟨some 6, none, .mov (.t 216)⟩]
    [6])
  .ret)))))))⟩

def RC.law06_HeapSorts : RFn := ⟨1, [.slot 2],
  (.seq (.region [⟨some 2, none, .mov (.c (.bool false))⟩]
    [0])
  (.seq (.region [⟨some 23, none, .call F.heap_New [.c (.int .i64 64)]⟩,
    ⟨some 22, none, .mov (.t 23)⟩,
    ⟨some 24, none, .ext 0 (.t 22)⟩,
    ⟨some 25, none, .ext 1 (.t 22)⟩,
    ⟨some 3, none, .mov (.t 24)⟩,
    ⟨some 4, none, .mov (.t 25)⟩]
    [0, 3, 4])
  (.seq (.seq (.region [⟨some 26, none, .mov (.t 4)⟩,
    ⟨some 27, none, .bin .neq (.t 26) (.c (.int .i64 0))⟩,
    ⟨some 28, none, .mov (.t 27)⟩,
    ⟨some 29, some (28, false), .mov (.t 3)⟩,
    ⟨some 30, some (28, false), .eq false .ptr (.t 29) (.c (.pointer none))⟩,
    ⟨some 31, none, .pick (.t 28) (.c (.bool true)) (.t 30)⟩]
    [0, 3, 31])
  (.cond (.t 31)
    (.seq (.region [⟨some 2, none, .mov (.c (.bool false))⟩]
      [2])
    .ret)
    .skip))
  (.seq (.seq (.region [⟨some 5, none, .mov (.c (.int .i64 0))⟩]
    [0, 3, 5])
  (.block 0
    (.loop [0, 3, 5]
      (.seq (.seq (.region [⟨some 32, none, .mov (.t 5)⟩,
        ⟨some 33, none, .mov (.t 0)⟩,
        ⟨some 34, none, .len (.t 33)⟩,
        ⟨some 35, none, .bin .lss (.t 32) (.t 34)⟩,
        ⟨some 36, none, .mov (.t 35)⟩,
        ⟨some 37, some (36, true), .mov (.t 5)⟩,
        ⟨some 38, some (36, true), .bin .lss (.t 37) (.c (.int .i64 200))⟩,
        ⟨some 39, none, .pick (.t 36) (.t 38) (.c (.bool false))⟩]
        [0, 3, 5, 39])
      (.cond (.t 39)
        .skip
        (.exit 0)))
      (.seq (.block 1
        (.drawn [⟨some 42, none, .mov (.t 3)⟩,
          ⟨some 43, none, .mov (.t 0)⟩,
          ⟨some 44, none, .mov (.t 5)⟩,
          ⟨some 45, none, .idxS 4 (.t 43) (.t 44)⟩,
          ⟨some 46, none, .fieldAddr 1 (.t 45)⟩,
          ⟨some 47, none, .load false 1 (.t 46)⟩,
          ⟨some 48, none, .mov (.t 0)⟩,
          ⟨some 49, none, .mov (.t 5)⟩,
          ⟨some 50, none, .idxS 4 (.t 48) (.t 49)⟩,
          ⟨some 51, none, .fieldAddr 2 (.t 50)⟩,
          ⟨some 52, none, .load false 1 (.t 51)⟩,
          ⟨some 53, none, .mov (.t 0)⟩,
          ⟨some 54, none, .mov (.t 5)⟩,
          ⟨some 55, none, .idxS 4 (.t 53) (.t 54)⟩,
          ⟨some 56, none, .fieldAddr 3 (.t 55)⟩,
          ⟨some 57, none, .load false 1 (.t 56)⟩,
          ⟨some 58, none, .call F.heap_Heap_Put [.t 42, .t 47, .t 52, .t 57]⟩]
          [[], [], [], [1, 2], [3], [4], [], [], [6, 7], [8], [9], [], [], [11, 12], [13], [14], [0, 5, 10, 15]]
          [(0, []), (1, []), (2, []), (3, []), (4, []), (6, []), (7, []), (8, []), (9, []), (11, []), (12, []), (13, []), (14, []), (5, []), (10, []), (15, []), (16, [])]
          [[], [], [], [1, 2], [1, 2, 3], [1, 2, 3, 4], [], [], [6, 7], [6, 7, 8], [6, 7, 8, 9], [], [], [11, 12], [11, 12, 13], [11, 12, 13, 14], [0, 1, 2, 3, 4, 5, 6, 7, 8, 9, 10, 11, 12, 13, 14, 15]]
          [0, 3, 5]) [0, 3, 5])
      (.region [⟨some 40, none, .mov (.t 5)⟩,
        ⟨some 41, none, .bin .add (.t 40) (.c (.int .i64 1))⟩,
        ⟨some 5, none, .mov (.t 41)⟩]
        [0, 3, 5])))) [3]))
  (.seq (.region [⟨some 59, none, .mov (.t 3)⟩,
    ⟨some 60, none, .call F.heap_Heap_Len [.t 59]⟩,
    ⟨some 6, none, .mov (.t 60)⟩]
    [3, 6])
  (.seq (.region [⟨some 61, none, .mkmap⟩,
    ⟨some 7, none, .mov (.t 61)⟩]
    [3, 6, 7])
  (.seq (.region [⟨some 8, none, .mov (.c (.int .i64 0))⟩,
    ⟨some 9, none, .mov (.c (u64 0#64))⟩,
    ⟨some 10, none, .mov (.c (u64 1#64))⟩]
    [3, 6, 7, 8, 9, 10])
  (.seq (.seq (.region [⟨some 11, none, .mov (.c (.int .i64 0))⟩]
    [3, 6, 7, 8, 9, 10, 11])
  (.block 2
    (.loop [3, 6, 7, 8, 9, 10, 11]
      (.seq (.seq (.region [⟨some 62, none, .mov (.t 11)⟩,
        ⟨some 63, none, .mov (.t 6)⟩,
        ⟨some 64, none, .bin .lss (.t 62) (.t 63)⟩]
        [3, 6, 7, 8, 9, 10, 11, 64])
      (.cond (.t 64)
        .skip
        (.exit 2)))
      (.seq (.block 3
        (.seq (.region [⟨some 68, none, .mov (.t 3)⟩,
          ⟨some 69, none, .call F.heap_Heap_Min [.t 68]⟩,
          ⟨some 67, none, .mov (.t 69)⟩,
          ⟨some 70, none, .ext 0 (.t 67)⟩,
          ⟨some 71, none, .ext 1 (.t 67)⟩,
          ⟨some 12, none, .mov (.t 70)⟩,
          ⟨some 13, none, .mov (.t 71)⟩]
          [3, 6, 7, 8, 9, 10, 11, 12, 13])
        (.seq (.region [⟨some 73, none, .mov (.t 3)⟩,
          ⟨some 74, none, .mov (.t 12)⟩,
          ⟨some 75, none, .call F.heap_Heap_Key [.t 73, .t 74]⟩,
          ⟨some 72, none, .mov (.t 75)⟩,
          ⟨some 76, none, .ext 0 (.t 72)⟩,
          ⟨some 77, none, .ext 1 (.t 72)⟩,
          ⟨some 78, none, .ext 2 (.t 72)⟩,
          ⟨some 14, none, .mov (.t 76)⟩,
          ⟨some 15, none, .mov (.t 77)⟩,
          ⟨some 16, none, .mov (.t 78)⟩]
          [3, 6, 7, 8, 9, 10, 11, 12, 13, 14, 15, 16])
        (.seq (.region [⟨some 80, none, .mov (.t 3)⟩,
          ⟨some 81, none, .call F.heap_Heap_Pop [.t 80]⟩,
          ⟨some 79, none, .mov (.t 81)⟩,
          ⟨some 82, none, .ext 0 (.t 79)⟩,
          ⟨some 83, none, .ext 1 (.t 79)⟩,
          ⟨some 17, none, .mov (.t 82)⟩,
          ⟨some 18, none, .mov (.t 83)⟩]
          [3, 6, 7, 8, 9, 10, 11, 12, 13, 14, 15, 16, 17, 18])
        (.seq (.seq (.region [⟨some 84, none, .mov (.t 13)⟩,
          ⟨some 85, none, .un .not (.t 84)⟩,
          ⟨some 86, none, .mov (.t 85)⟩,
          ⟨some 87, some (86, false), .mov (.t 16)⟩,
          ⟨some 88, some (86, false), .un .not (.t 87)⟩,
          ⟨some 89, none, .pick (.t 86) (.c (.bool true)) (.t 88)⟩,
          ⟨some 90, none, .mov (.t 89)⟩,
          ⟨some 91, some (90, false), .mov (.t 17)⟩,
          ⟨some 92, some (90, false), .mov (.t 12)⟩,
          ⟨some 93, some (90, false), .bin .neq (.t 91) (.t 92)⟩,
          ⟨some 94, none, .pick (.t 90) (.c (.bool true)) (.t 93)⟩,
          ⟨some 95, none, .mov (.t 94)⟩,
          ⟨some 96, some (95, false), .mov (.t 18)⟩,
          ⟨some 97, some (95, false), .un .not (.t 96)⟩,
          ⟨some 98, none, .pick (.t 95) (.c (.bool true)) (.t 97)⟩,
          ⟨some 99, none, .mov (.t 98)⟩,
          ⟨some 100, some (99, false), .mov (.t 7)⟩,
          ⟨some 101, some (99, false), .mov (.t 12)⟩,
          ⟨some 102, some (99, false), .look .int (.bool false) false (.t 100) (.t 101)⟩,
          ⟨some 103, none, .pick (.t 99) (.c (.bool true)) (.t 102)⟩]
          [3, 6, 7, 8, 9, 10, 11, 12, 14, 15, 103])
        (.cond (.t 103)
          (.seq (.region [⟨some 2, none, .mov (.c (.bool false))⟩]
            [2])
          .ret)
          .skip))
        (.seq (.seq (.region [⟨some 104, none, .mov (.t 9)⟩,
          ⟨some 105, none, .mov (.t 10)⟩,
          ⟨some 106, none, .mov (.t 14)⟩,
          ⟨some 107, none, .mov (.t 15)⟩,
          ⟨some 108, none, .call F.ref02_Compare [.t 104, .t 105, .t 106, .t 107]⟩,
          ⟨some 19, none, .mov (.t 108)⟩]
          [3, 6, 7, 8, 11, 12, 14, 15, 19])
        (.seq (.region [⟨some 109, none, .mov (.t 11)⟩,
          ⟨some 110, none, .bin .gtr (.t 109) (.c (.int .i64 0))⟩,
          ⟨some 111, none, .mov (.t 110)⟩,
          ⟨some 112, some (111, true), .mov (.t 19)⟩,
          ⟨some 113, some (111, true), .bin .gtr (.t 112) (.c (.int .i64 0))⟩,
          ⟨some 114, some (111, true), .mov (.t 113)⟩,
          ⟨some 115, some (114, false), .mov (.t 19)⟩,
          ⟨some 116, some (114, false), .bin .eql (.t 115) (.c (.int .i64 0))⟩,
          ⟨some 117, some (114, false), .mov (.t 116)⟩,
          ⟨some 118, some (117, true), .mov (.t 8)⟩,
          ⟨some 119, some (117, true), .mov (.t 12)⟩,
          ⟨some 120, some (117, true), .bin .geq (.t 118) (.t 119)⟩,
          ⟨some 121, some (114, false), .pick (.t 117) (.t 120) (.c (.bool false))⟩,
          ⟨some 122, some (111, true), .pick (.t 114) (.c (.bool true)) (.t 121)⟩,
          ⟨some 123, none, .pick (.t 111) (.t 122) (.c (.bool false))⟩]
          [3, 6, 7, 11, 12, 14, 15, 123])
        (.cond (.t 123)
          (.seq (.region [⟨some 2, none, .mov (.c (.bool false))⟩]
            [2])
          .ret)
          .skip)))
        (.seq (.region [⟨some 124, none, .mov (.t 7)⟩,
          ⟨some 125, none, .mov (.t 12)⟩,
          ⟨none, none, .upd .int (.t 124) (.t 125) (.c (.bool true))⟩]
          [3, 6, 7, 11, 12, 14, 15])
        (.region [⟨some 126, none, .mov (.t 12)⟩,
          ⟨some 127, none, .mov (.t 14)⟩,
          ⟨some 128, none, .mov (.t 15)⟩,
          ⟨some 8, none, .mov (.t 126)⟩,
          ⟨some 9, none, .mov (.t 127)⟩,
          ⟨some 10, none, .mov (.t 128)⟩]
          [3, 6, 7, 8, 9, 10, 11]))))))) [3, 6, 7, 8, 9, 10, 11])
      (.region [⟨some 65, none, .mov (.t 11)⟩,
        ⟨some 66, none, .bin .add (.t 65) (.c (.int .i64 1))⟩,
        ⟨some 11, none, .mov (.t 66)⟩]
        [3, 6, 7, 8, 9, 10, 11])))) [3]))
  (.seq (.region [⟨some 130, none, .mov (.t 3)⟩,
    ⟨some 131, none, .call F.heap_Heap_Pop [.t 130]⟩,
    ⟨some 129, none, .mov (.t 131)⟩,
    ⟨some 132, none, .ext 0 (.t 129)⟩,
    ⟨some 133, none, .ext 1 (.t 129)⟩,
    ⟨some 20, none, .mov (.t 132)⟩,
    ⟨some 21, none, .mov (.t 133)⟩]
    [3, 21])
  (.seq (.region [⟨some 134, none, .mov (.t 21)⟩,
    ⟨some 135, none, .un .not (.t 134)⟩,
    ⟨some 136, none, .mov (.t 135)⟩,
    ⟨some 137, some (136, true), .mov (.t 3)⟩,
    ⟨some 138, some (136, true), .call F.heap_Heap_Len [.t 137]⟩,
    ⟨some 139, some (136, true), .bin .eql (.t 138) (.c (.int .i64 0))⟩,
    ⟨some 140, none, .pick (.t 136) (.t 139) (.c (.bool false))⟩,
    ⟨some 141, none, .mov (.t 140)⟩,
    ⟨some 142, some (141, true), .call F.law06_awake []⟩,
    ⟨some 143, none, .pick (.t 141) (.t 142) (.c (.bool false))⟩,
    ⟨some 2, none, .mov (.t 143)⟩]
    [2])
  .ret))))))))))⟩

def RC.law06_HeapNobody : RFn := ⟨3, [.slot 6],
  (.seq (.region [⟨some 6, none, .mov (.c (.bool false))⟩]
    [0, 1, 2])
  (.seq (.region [⟨some 7, none, .mov (.c (.pointer none))⟩]
    [0, 1, 2, 7])
  (.seq (.region [⟨some 19, none, .build [(.slice none 0 0), (.slice none 0 0), (.slice none 0 0)] []⟩,
    ⟨some 20, none, .box (.t 19)⟩,
    ⟨some 8, none, .mov (.t 20)⟩]
    [0, 1, 2, 7, 8])
  (.seq (.region [⟨some 22, none, .mov (.t 7)⟩,
    ⟨some 23, none, .call F.heap_Heap_Min [.t 22]⟩,
    ⟨some 21, none, .mov (.t 23)⟩,
    ⟨some 24, none, .ext 0 (.t 21)⟩,
    ⟨some 25, none, .ext 1 (.t 21)⟩,
    ⟨some 9, none, .mov (.t 24)⟩,
    ⟨some 10, none, .mov (.t 25)⟩]
    [0, 1, 2, 7, 8, 10])
  (.seq (.region [⟨some 27, none, .mov (.t 8)⟩,
    ⟨some 28, none, .call F.heap_Heap_Pop [.t 27]⟩,
    ⟨some 26, none, .mov (.t 28)⟩,
    ⟨some 29, none, .ext 0 (.t 26)⟩,
    ⟨some 30, none, .ext 1 (.t 26)⟩,
    ⟨some 11, none, .mov (.t 29)⟩,
    ⟨some 12, none, .mov (.t 30)⟩]
    [0, 1, 2, 7, 8, 10, 12])
  (.seq (.region [⟨some 32, none, .mov (.t 7)⟩,
    ⟨some 33, none, .mov (.t 0)⟩,
    ⟨some 34, none, .call F.heap_Heap_Key [.t 32, .t 33]⟩,
    ⟨some 31, none, .mov (.t 34)⟩,
    ⟨some 35, none, .ext 0 (.t 31)⟩,
    ⟨some 36, none, .ext 1 (.t 31)⟩,
    ⟨some 37, none, .ext 2 (.t 31)⟩,
    ⟨some 13, none, .mov (.t 35)⟩,
    ⟨some 14, none, .mov (.t 36)⟩,
    ⟨some 15, none, .mov (.t 37)⟩]
    [0, 1, 2, 7, 8, 10, 12, 15])
  (.seq (.region [⟨some 39, none, .mov (.t 8)⟩,
    ⟨some 40, none, .mov (.t 0)⟩,
    ⟨some 41, none, .call F.heap_Heap_Key [.t 39, .t 40]⟩,
    ⟨some 38, none, .mov (.t 41)⟩,
    ⟨some 42, none, .ext 0 (.t 38)⟩,
    ⟨some 43, none, .ext 1 (.t 38)⟩,
    ⟨some 44, none, .ext 2 (.t 38)⟩,
    ⟨some 16, none, .mov (.t 42)⟩,
    ⟨some 17, none, .mov (.t 43)⟩,
    ⟨some 18, none, .mov (.t 44)⟩]
    [0, 1, 2, 7, 8, 10, 12, 15, 18])
  (.seq (.region [⟨some 45, none, .mov (.t 7)⟩,
    ⟨some 46, none, .mov (.t 0)⟩,
    ⟨some 47, none, .mov (.t 1)⟩,
    ⟨some 48, none, .mov (.t 2)⟩,
    ⟨some 49, none, .call F.heap_Heap_Put [.t 45, .t 46, .t 47, .t 48]⟩,
    ⟨some 50, none, .bin .eql (.t 49) (.c (.int .i64 2))⟩,
    ⟨some 51, none, .mov (.t 50)⟩,
    ⟨some 52, some (51, true), .mov (.t 8)⟩,
    ⟨some 53, some (51, true), .mov (.t 0)⟩,
    ⟨some 54, some (51, true), .mov (.t 1)⟩,
    ⟨some 55, some (51, true), .mov (.t 2)⟩,
    ⟨some 56, some (51, true), .call F.heap_Heap_Put [.t 52, .t 53, .t 54, .t 55]⟩,
    ⟨some 57, some (51, true), .bin .eql (.t 56) (.c (.int .i64 2))⟩,
    ⟨some 58, none, .pick (.t 51) (.t 57) (.c (.bool false))⟩,
    ⟨some 59, none, .mov (.t 58)⟩,
    ⟨some 60, some (59, true), .mov (.t 7)⟩,
    ⟨some 61, some (59, true), .mov (.t 0)⟩,
    ⟨some 62, some (59, true), .call F.heap_Heap_Remove [.t 60, .t 61]⟩,
    ⟨some 63, some (59, true), .un .not (.t 62)⟩,
    ⟨some 64, none, .pick (.t 59) (.t 63) (.c (.bool false))⟩,
    ⟨some 65, none, .mov (.t 64)⟩,
    ⟨some 66, some (65, true), .mov (.t 8)⟩,
    ⟨some 67, some (65, true), .mov (.t 0)⟩,
    ⟨some 68, some (65, true), .call F.heap_Heap_Remove [.t 66, .t 67]⟩,
    ⟨some 69, some (65, true), .un .not (.t 68)⟩,
    ⟨some 70, none, .pick (.t 65) (.t 69) (.c (.bool false))⟩,
    ⟨some 71, none, .mov (.t 70)⟩,
    ⟨some 72, some (71, true), .mov (.t 10)⟩,
    ⟨some 73, some (71, true), .un .not (.t 72)⟩,
    ⟨some 74, none, .pick (.t 71) (.t 73) (.c (.bool false))⟩,
    ⟨some 75, none, .mov (.t 74)⟩,
    ⟨some 76, some (75, true), .mov (.t 12)⟩,
    ⟨some 77, some (75, true), .un .not (.t 76)⟩,
    ⟨some 78, none, .pick (.t 75) (.t 77) (.c (.bool false))⟩,
    ⟨some 79, none, .mov (.t 78)⟩,
    ⟨some 80, some (79, true), .mov (.t 15)⟩,
    ⟨some 81, some (79, true), .un .not (.t 80)⟩,
    ⟨some 82, none, .pick (.t 79) (.t 81) (.c (.bool false))⟩,
    ⟨some 83, none, .mov (.t 82)⟩,
    ⟨some 84, some (83, true), .mov (.t 18)⟩,
    ⟨some 85, some (83, true), .un .not (.t 84)⟩,
    ⟨some 86, none, .pick (.t 83) (.t 85) (.c (.bool false))⟩,
    ⟨some 87, none, .mov (.t 86)⟩,
    ⟨some 88, some (87, true), .mov (.t 7)⟩,
    ⟨some 89, some (87, true), .call F.heap_Heap_Len [.t 88]⟩,
    ⟨some 90, some (87, true), .bin .eql (.t 89) (.c (.int .i64 0))⟩,
    ⟨some 91, none, .pick (.t 87) (.t 90) (.c (.bool false))⟩,
    ⟨some 92, none, .mov (.t 91)⟩,
    ⟨some 93, some (92, true), .mov (.t 8)⟩,
    ⟨some 94, some (92, true), .call F.heap_Heap_Len [.t 93]⟩,
    ⟨some 95, some (92, true), .bin .eql (.t 94) (.c (.int .i64 0))⟩,
    ⟨some 96, none, .pick (.t 92) (.t 95) (.c (.bool false))⟩,
    ⟨some 97, none, .mov (.t 96)⟩,
    ⟨some 98, some (97, true), .call F.law06_awake []⟩,
    ⟨some 99, none, .pick (.t 97) (.t 98) (.c (.bool false))⟩,
    ⟨some 6, none, .mov (.t 99)⟩]
    [6])
  .ret))))))))⟩

def RC.heap_New : RFn := ⟨1, [.slot 2, .slot 3],
  (.seq (.region [⟨some 2, none, .mov (.c (.pointer none))⟩,
    ⟨some 3, none, .mov (.c (.int .i64 0))⟩]
    [0])
  (.seq (.seq (.region [⟨some 4, none, .mov (.t 0)⟩,
    ⟨some 5, none, .bin .lss (.t 4) (.c (.int .i64 1))⟩,
    ⟨some 6, none, .mov (.t 5)⟩,
    ⟨some 7, some (6, false), .mov (.t 0)⟩,
    ⟨some 8, some (6, false), .bin .gtr (.t 7) (.c (.int .i64 1024))⟩,
    ⟨some 9, none, .pick (.t 6) (.c (.bool true)) (.t 8)⟩]
    [0, 9])
  (.cond (.t 9)
    (.seq (.region [⟨some 2, none, .mov (.c (.pointer none))⟩,
      ⟨some 3, none, .mov (.c (.int .i64 1))⟩]
      [2, 3])
    .ret)
    .skip))
  (.seq (.drawn [⟨some 10, none, .mov (.t 0)⟩,
    ⟨some 11, none, .mkslice 2 16 [(u64 0#64), (u64 0#64)] (.t 10) (.t 10)⟩,
    ⟨some 12, none, .mov (.t 0)⟩,
    ⟨some 13, none, .mkslice 1 8 [(.int .i64 0)] (.t 12) (.t 12)⟩,
    ⟨some 14, none, .build [(.slice none 0 0), (.slice none 0 0), (.slice none 0 0)] [(0, 1, .t 11), (1, 1, .t 13)]⟩,
    ⟨some 15, none, .box (.t 14)⟩,
    ⟨some 2, none, .mov (.t 15)⟩,
    ⟨some 3, none, .mov (.c (.int .i64 0))⟩]
    [[], [0, 0], [], [2, 2], [1, 3], [4], [5, 0, 1, 2, 3, 4, 5], [6, 0, 1, 2, 3, 4, 5, 6]]
    [(0, []), (2, []), (1, []), (3, []), (4, []), (5, []), (6, []), (7, [])]
    [[], [0], [], [2], [0, 1, 2, 3], [0, 1, 2, 3, 4], [0, 1, 2, 3, 4, 5], [0, 1, 2, 3, 4, 5, 6]]
    [2, 3])
  .ret)))⟩

def RC.law06_awake : RFn := ⟨0, [.slot 0],
  (.seq (.region [⟨some 0, none, .mov (.c (.bool false))⟩]
    [])
  (.seq (.region [⟨some 13, none, .call F.heap_New [.c (.int .i64 4)]⟩,
    ⟨some 12, none, .mov (.t 13)⟩,
    ⟨some 14, none, .ext 0 (.t 12)⟩,
    ⟨some 15, none, .ext 1 (.t 12)⟩,
    ⟨some 1, none, .mov (.t 14)⟩,
    ⟨some 2, none, .mov (.t 15)⟩]
    [1, 2])
  (.seq (.seq (.region [⟨some 16, none, .mov (.t 2)⟩,
    ⟨some 17, none, .bin .neq (.t 16) (.c (.int .i64 0))⟩,
    ⟨some 18, none, .mov (.t 17)⟩,
    ⟨some 19, some (18, false), .mov (.t 1)⟩,
    ⟨some 20, some (18, false), .eq false .ptr (.t 19) (.c (.pointer none))⟩,
    ⟨some 21, none, .pick (.t 18) (.c (.bool true)) (.t 20)⟩]
    [1, 21])
  (.cond (.t 21)
    (.seq (.region [⟨some 0, none, .mov (.c (.bool false))⟩]
      [0])
    .ret)
    .skip))
  (.seq (.region [⟨some 22, none, .mov (.t 1)⟩,
    ⟨some 23, none, .call F.heap_Heap_Put [.t 22, .c (.int .i64 3), .c (u64 1#64), .c (u64 2#64)]⟩,
    ⟨some 24, none, .mov (.t 1)⟩,
    ⟨some 25, none, .call F.heap_Heap_Put [.t 24, .c (.int .i64 1), .c (u64 2#64), .c (u64 4#64)]⟩,
    ⟨some 26, none, .mov (.t 1)⟩,
    ⟨some 27, none, .call F.heap_Heap_Put [.t 26, .c (.int .i64 2), .c (u64 3#64), .c (u64 4#64)]⟩,
    ⟨some 3, none, .mov (.t 23)⟩,
    ⟨some 4, none, .mov (.t 25)⟩,
    ⟨some 5, none, .mov (.t 27)⟩]
    [1, 3, 4, 5])
  (.seq (.region [⟨some 29, none, .mov (.t 1)⟩,
    ⟨some 30, none, .call F.heap_Heap_Pop [.t 29]⟩,
    ⟨some 28, none, .mov (.t 30)⟩,
    ⟨some 31, none, .ext 0 (.t 28)⟩,
    ⟨some 32, none, .ext 1 (.t 28)⟩,
    ⟨some 6, none, .mov (.t 31)⟩,
    ⟨some 7, none, .mov (.t 32)⟩]
    [1, 3, 4, 5, 6])
  (.seq (.region [⟨some 34, none, .mov (.t 1)⟩,
    ⟨some 35, none, .call F.heap_Heap_Pop [.t 34]⟩,
    ⟨some 33, none, .mov (.t 35)⟩,
    ⟨some 36, none, .ext 0 (.t 33)⟩,
    ⟨some 37, none, .ext 1 (.t 33)⟩,
    ⟨some 8, none, .mov (.t 36)⟩,
    ⟨some 9, none, .mov (.t 37)⟩]
    [1, 3, 4, 5, 6, 8])
  (.seq (.region [⟨some 39, none, .mov (.t 1)⟩,
    ⟨some 40, none, .call F.heap_Heap_Pop [.t 39]⟩,
    ⟨some 38, none, .mov (.t 40)⟩,
    ⟨some 41, none, .ext 0 (.t 38)⟩,
    ⟨some 42, none, .ext 1 (.t 38)⟩,
    ⟨some 10, none, .mov (.t 41)⟩,
    ⟨some 11, none, .mov (.t 42)⟩]
    [1, 3, 4, 5, 6, 8, 10, 11])
  (.seq (.region [⟨some 43, none, .mov (.t 3)⟩,
    ⟨some 44, none, .bin .eql (.t 43) (.c (.int .i64 0))⟩,
    ⟨some 45, none, .mov (.t 44)⟩,
    ⟨some 46, some (45, true), .mov (.t 4)⟩,
    ⟨some 47, some (45, true), .bin .eql (.t 46) (.c (.int .i64 0))⟩,
    ⟨some 48, none, .pick (.t 45) (.t 47) (.c (.bool false))⟩,
    ⟨some 49, none, .mov (.t 48)⟩,
    ⟨some 50, some (49, true), .mov (.t 5)⟩,
    ⟨some 51, some (49, true), .bin .eql (.t 50) (.c (.int .i64 0))⟩,
    ⟨some 52, none, .pick (.t 49) (.t 51) (.c (.bool false))⟩,
    ⟨some 53, none, .mov (.t 52)⟩,
    ⟨some 54, some (53, true), .mov (.t 6)⟩,
    ⟨some 55, some (53, true), .bin .eql (.t 54) (.c (.int .i64 1))⟩,
    ⟨some 56, none, .pick (.t 53) (.t 55) (.c (.bool false))⟩,
    ⟨some 57, none, .mov (.t 56)⟩,
    ⟨some 58, some (57, true), .mov (.t 8)⟩,
    ⟨some 59, some (57, true), .bin .eql (.t 58) (.c (.int .i64 3))⟩,
    ⟨some 60, none, .pick (.t 57) (.t 59) (.c (.bool false))⟩,
    ⟨some 61, none, .mov (.t 60)⟩,
    ⟨some 62, some (61, true), .mov (.t 10)⟩,
    ⟨some 63, some (61, true), .bin .eql (.t 62) (.c (.int .i64 2))⟩,
    ⟨some 64, none, .pick (.t 61) (.t 63) (.c (.bool false))⟩,
    ⟨some 65, none, .mov (.t 64)⟩,
    ⟨some 66, some (65, true), .mov (.t 11)⟩,
    ⟨some 67, none, .pick (.t 65) (.t 66) (.c (.bool false))⟩,
    ⟨some 68, none, .mov (.t 67)⟩,
    ⟨some 69, some (68, true), .mov (.t 1)⟩,
    ⟨some 70, some (68, true), .call F.heap_Heap_Len [.t 69]⟩,
    ⟨some 71, some (68, true), .bin .eql (.t 70) (.c (.int .i64 0))⟩,
    ⟨some 72, none, .pick (.t 68) (.t 71) (.c (.bool false))⟩,
    ⟨some 0, none, .mov (.t 72)⟩]
    [0])
  .ret))))))))⟩

def RC.ref06_Put : RFn := ⟨2, [.slot 4],
  (.seq (.region [⟨some 3, none, .box (.t 1)⟩,
    ⟨some 4, none, .mov (.c (.slice none 0 0))⟩]
    [0, 3])
  (.seq (.region [⟨some 8, none, .mov (.t 0)⟩,
    ⟨some 9, none, .fieldAddr 0 (.t 3)⟩,
    ⟨some 10, none, .load false 1 (.t 9)⟩,
    ⟨some 11, none, .call F.ref06_Remove [.t 8, .t 10]⟩,
    ⟨some 7, none, .mov (.t 11)⟩,
    ⟨some 12, none, .ext 0 (.t 7)⟩,
    ⟨some 13, none, .ext 1 (.t 7)⟩,
    ⟨some 5, none, .mov (.t 12)⟩,
    ⟨some 6, none, .mov (.t 13)⟩]
    [3, 5])
  (.seq (.region [⟨some 14, none, .mov (.t 5)⟩,
    ⟨some 15, none, .load true 3 (.t 3)⟩,
    ⟨some 16, none, .bslice [(.int .i64 0), (u64 0#64), (u64 0#64)] [(0, 3, .t 15)] 1 3⟩,
    ⟨some 17, none, .app 3 24 (.t 14) (.t 16)⟩,
    ⟨some 4, none, .mov (.t 17)⟩]
    [4])
  .ret)))⟩

def RC.heap_Heap_Put : RFn := ⟨4, [.slot 8],
  (.seq (.region [⟨some 8, none, .mov (.c (.int .i64 0))⟩]
    [0, 1, 2, 3])
  (.seq (.block 0
    (.seq (.region [⟨some 11, none, .mov (.t 0)⟩,
      ⟨some 12, none, .eq false .ptr (.t 11) (.c (.pointer none))⟩,
      ⟨some 13, none, .mov (.t 12)⟩,
      ⟨some 14, some (13, false), .mov (.t 0)⟩,
      ⟨some 15, some (13, false), .nilchk (.t 14)⟩,
      ⟨some 16, some (13, false), .fieldAddr 0 (.t 15)⟩,
      ⟨some 17, some (13, false), .load false 1 (.t 16)⟩,
      ⟨some 18, some (13, false), .len (.t 17)⟩,
      ⟨some 19, some (13, false), .bin .eql (.t 18) (.c (.int .i64 0))⟩,
      ⟨some 20, none, .pick (.t 13) (.c (.bool true)) (.t 19)⟩,
      ⟨some 10, none, .mov (.t 20)⟩]
      [0, 1, 2, 3, 10])
    (.cond (.t 10)
      (.seq (.region [⟨some 8, none, .mov (.c (.int .i64 2))⟩]
        [8])
      .ret)
      (.seq (.region [⟨some 22, none, .mov (.t 1)⟩,
        ⟨some 23, none, .bin .lss (.t 22) (.c (.int .i64 0))⟩,
        ⟨some 24, none, .mov (.t 23)⟩,
        ⟨some 25, some (24, false), .mov (.t 1)⟩,
        ⟨some 26, some (24, false), .mov (.t 0)⟩,
        ⟨some 27, some (24, false), .nilchk (.t 26)⟩,
        ⟨some 28, some (24, false), .fieldAddr 0 (.t 27)⟩,
        ⟨some 29, some (24, false), .load false 1 (.t 28)⟩,
        ⟨some 30, some (24, false), .len (.t 29)⟩,
        ⟨some 31, some (24, false), .bin .geq (.t 25) (.t 30)⟩,
        ⟨some 32, none, .pick (.t 24) (.c (.bool true)) (.t 31)⟩,
        ⟨some 33, none, .mov (.t 32)⟩,
        ⟨some 34, some (33, false), .mov (.t 3)⟩,
        ⟨some 35, some (33, false), .bin .eql (.t 34) (.c (u64 0#64))⟩,
        ⟨some 36, none, .pick (.t 33) (.c (.bool true)) (.t 35)⟩,
        ⟨some 21, none, .mov (.t 36)⟩]
        [0, 1, 2, 3, 21])
      (.cond (.t 21)
        (.seq (.region [⟨some 8, none, .mov (.c (.int .i64 1))⟩]
          [8])
        .ret)
        .skip)))) [0, 1, 2, 3])
  (.seq (.region [⟨some 37, none, .mov (.t 0)⟩,
    ⟨some 38, none, .nilchk (.t 37)⟩,
    ⟨some 39, none, .fieldAddr 0 (.t 38)⟩,
    ⟨some 40, none, .load false 1 (.t 39)⟩,
    ⟨some 41, none, .mov (.t 1)⟩,
    ⟨some 42, none, .mov (.t 2)⟩,
    ⟨some 43, none, .mov (.t 3)⟩,
    ⟨some 44, none, .build [(u64 0#64), (u64 0#64)] [(0, 1, .t 42), (1, 1, .t 43)]⟩,
    ⟨some 45, none, .idxS 2 (.t 40) (.t 41)⟩,
    ⟨none, none, .store 2 (.t 45) (.t 44)⟩]
    [0, 1])
  (.seq (.seq (.region [⟨some 46, none, .mov (.t 0)⟩,
    ⟨some 47, none, .nilchk (.t 46)⟩,
    ⟨some 48, none, .fieldAddr 1 (.t 47)⟩,
    ⟨some 49, none, .load false 1 (.t 48)⟩,
    ⟨some 50, none, .mov (.t 1)⟩,
    ⟨some 51, none, .idxS 1 (.t 49) (.t 50)⟩,
    ⟨some 52, none, .load false 1 (.t 51)⟩,
    ⟨some 53, none, .bin .eql (.t 52) (.c (.int .i64 0))⟩]
    [0, 1, 53])
  (.cond (.t 53)
    (.seq (.region [⟨some 54, none, .mov (.t 0)⟩,
      ⟨some 55, none, .mov (.t 0)⟩,
      ⟨some 56, none, .nilchk (.t 55)⟩,
      ⟨some 57, none, .fieldAddr 2 (.t 56)⟩,
      ⟨some 58, none, .load false 1 (.t 57)⟩,
      ⟨some 59, none, .mov (.t 1)⟩,
      ⟨some 60, none, .bslice [(.int .i64 0)] [(0, 1, .t 59)] 1 1⟩,
      ⟨some 61, none, .app 1 8 (.t 58) (.t 60)⟩,
      ⟨some 62, none, .nilchk (.t 54)⟩,
      ⟨some 63, none, .fieldAddr 2 (.t 62)⟩,
      ⟨none, none, .store 1 (.t 63) (.t 61)⟩]
      [0, 1])
    (.drawn [⟨some 64, none, .mov (.t 0)⟩,
      ⟨some 65, none, .nilchk (.t 64)⟩,
      ⟨some 66, none, .fieldAddr 1 (.t 65)⟩,
      ⟨some 67, none, .load false 1 (.t 66)⟩,
      ⟨some 68, none, .mov (.t 1)⟩,
      ⟨some 69, none, .mov (.t 0)⟩,
      ⟨some 70, none, .nilchk (.t 69)⟩,
      ⟨some 71, none, .fieldAddr 2 (.t 70)⟩,
      ⟨some 72, none, .load false 1 (.t 71)⟩,
      ⟨some 73, none, .len (.t 72)⟩,
      ⟨some 74, none, .idxS 1 (.t 67) (.t 68)⟩,
      ⟨none, none, .store 1 (.t 74) (.t 73)⟩]
      [[], [0], [1], [2], [], [], [5], [6], [7], [8], [3, 4, 0, 1, 2, 3, 4, 5, 6, 7, 8, 9], [10, 9, 0, 1, 2, 3, 4, 5, 6, 7, 8, 9]]
      [(0, []), (1, []), (2, []), (4, []), (5, []), (6, []), (7, []), (3, []), (8, []), (9, []), (10, []), (11, [])]
      [[], [0], [0, 1], [0, 1, 2], [], [], [5], [5, 6], [5, 6, 7], [5, 6, 7, 8], [0, 1, 2, 3, 4, 5, 6, 7, 8, 9], [0, 1, 2, 3, 4, 5, 6, 7, 8, 9, 10]]
      [0, 1]))
    .skip))
  (.seq (.region [⟨some 75, none, .mov (.t 0)⟩,
    ⟨some 76, none, .nilchk (.t 75)⟩,
    ⟨some 77, none, .fieldAddr 1 (.t 76)⟩,
    ⟨some 78, none, .load false 1 (.t 77)⟩,
    ⟨some 79, none, .mov (.t 1)⟩,
    ⟨some 80, none, .idxS 1 (.t 78) (.t 79)⟩,
    ⟨some 81, none, .load false 1 (.t 80)⟩,
    ⟨some 82, none, .bin .sub (.t 81) (.c (.int .i64 1))⟩,
    ⟨some 9, none, .mov (.t 82)⟩]
    [0, 1, 9])
  (.seq (.region [⟨some 83, none, .mov (.t 0)⟩,
    ⟨some 84, none, .mov (.t 9)⟩,
    ⟨some 85, none, .call F.heap_Heap_up [.t 83, .t 84]⟩]
    [0, 1])
  (.seq (.region [⟨some 86, none, .mov (.t 0)⟩,
    ⟨some 87, none, .mov (.t 0)⟩,
    ⟨some 88, none, .nilchk (.t 87)⟩,
    ⟨some 89, none, .fieldAddr 1 (.t 88)⟩,
    ⟨some 90, none, .load false 1 (.t 89)⟩,
    ⟨some 91, none, .mov (.t 1)⟩,
    ⟨some 92, none, .idxS 1 (.t 90) (.t 91)⟩,
    ⟨some 93, none, .load false 1 (.t 92)⟩,
    ⟨some 94, none, .bin .sub (.t 93) (.c (.int .i64 1))⟩,
    ⟨some 95, none, .call F.heap_Heap_down [.t 86, .t 94]⟩]
    [])
  (.seq (.region [⟨some 8, none, .mov (.c (.int .i64 0))⟩]
    [8])
  .ret))))))))⟩

def RC.ref06_Remove : RFn := ⟨2, [.slot 4, .slot 5],
  (.seq (.region [⟨some 4, none, .mov (.c (.slice none 0 0))⟩,
    ⟨some 5, none, .mov (.c (.bool false))⟩]
    [0, 1])
  (.seq (.region [⟨some 8, none, .bslice [] [] 0 3⟩,
    ⟨some 6, none, .mov (.t 8)⟩]
    [0, 1, 6])
  (.seq (.seq (.region [⟨some 7, none, .mov (.c (.int .i64 0))⟩]
    [0, 1, 6, 7])
  (.block 0
    (.loop [0, 1, 6, 7]
      (.seq (.seq (.region [⟨some 9, none, .mov (.t 7)⟩,
        ⟨some 10, none, .mov (.t 0)⟩,
        ⟨some 11, none, .len (.t 10)⟩,
        ⟨some 12, none, .bin .lss (.t 9) (.t 11)⟩]
        [0, 1, 6, 7, 12])
      (.cond (.t 12)
        .skip
        (.exit 0)))
      (.seq (.block 1
        (.seq (.region [⟨some 15, none, .mov (.t 0)⟩,
          ⟨some 16, none, .mov (.t 7)⟩,
          ⟨some 17, none, .idxS 3 (.t 15) (.t 16)⟩,
          ⟨some 18, none, .fieldAddr 0 (.t 17)⟩,
          ⟨some 19, none, .load false 1 (.t 18)⟩,
          ⟨some 20, none, .mov (.t 1)⟩,
          ⟨some 21, none, .bin .neq (.t 19) (.t 20)⟩]
          [0, 1, 6, 7, 21])
        (.cond (.t 21)
          (.region [⟨some 22, none, .mov (.t 6)⟩,
            ⟨some 23, none, .mov (.t 0)⟩,
            ⟨some 24, none, .mov (.t 7)⟩,
            ⟨some 25, none, .idxS 3 (.t 23) (.t 24)⟩,
            ⟨some 26, none, .load true 3 (.t 25)⟩,
            ⟨some 27, none, .bslice [(.int .i64 0), (u64 0#64), (u64 0#64)] [(0, 3, .t 26)] 1 3⟩,
            ⟨some 28, none, .app 3 24 (.t 22) (.t 27)⟩,
            ⟨some 6, none, .mov (.t 28)⟩]
            [0, 1, 6, 7])
          .skip)) [0, 1, 6, 7])
      (.region [⟨some 13, none, .mov (.t 7)⟩,
        ⟨some 14, none, .bin .add (.t 13) (.c (.int .i64 1))⟩,
        ⟨some 7, none, .mov (.t 14)⟩]
        [0, 1, 6, 7])))) [0, 6]))
  (.seq (.region [⟨some 29, none, .mov (.t 6)⟩,
    ⟨some 30, none, .mov (.t 6)⟩,
    ⟨some 31, none, .len (.t 30)⟩,
    ⟨some 32, none, .mov (.t 0)⟩,
    ⟨some 33, none, .len (.t 32)⟩,
    ⟨some 34, none, .bin .lss (.t 31) (.t 33)⟩,
    ⟨some 4, none, .mov (.t 29)⟩,
    ⟨some 5, none, .mov (.t 34)⟩]
    [4, 5])
  .ret))))⟩

def RC.heap_Heap_Remove : RFn := ⟨2, [.slot 4],
  (.seq (.region [⟨some 4, none, .mov (.c (.bool false))⟩]
    [0, 1])
  (.seq (.seq (.region [⟨some 8, none, .mov (.t 0)⟩,
    ⟨some 9, none, .mov (.t 1)⟩,
    ⟨some 10, none, .call F.heap_Heap_has [.t 8, .t 9]⟩,
    ⟨some 11, none, .un .not (.t 10)⟩]
    [0, 1, 11])
  (.cond (.t 11)
    (.seq (.region [⟨some 4, none, .mov (.c (.bool false))⟩]
      [4])
    .ret)
    .skip))
  (.seq (.drawn [⟨some 12, none, .mov (.t 0)⟩,
    ⟨some 13, none, .nilchk (.t 12)⟩,
    ⟨some 14, none, .fieldAddr 1 (.t 13)⟩,
    ⟨some 15, none, .load false 1 (.t 14)⟩,
    ⟨some 16, none, .mov (.t 1)⟩,
    ⟨some 17, none, .idxS 1 (.t 15) (.t 16)⟩,
    ⟨some 18, none, .load false 1 (.t 17)⟩,
    ⟨some 19, none, .bin .sub (.t 18) (.c (.int .i64 1))⟩,
    ⟨some 20, none, .mov (.t 0)⟩,
    ⟨some 21, none, .nilchk (.t 20)⟩,
    ⟨some 22, none, .fieldAddr 2 (.t 21)⟩,
    ⟨some 23, none, .load false 1 (.t 22)⟩,
    ⟨some 24, none, .len (.t 23)⟩,
    ⟨some 25, none, .bin .sub (.t 24) (.c (.int .i64 1))⟩,
    ⟨some 5, none, .mov (.t 19)⟩,
    ⟨some 6, none, .mov (.t 25)⟩]
    [[], [0], [1], [2], [], [3, 4], [5], [6], [], [8], [9], [10], [11], [12], [7, 0, 1, 2, 3, 4, 5, 6, 7], [13, 14, 0, 1, 2, 3, 4, 5, 6, 7, 8, 9, 10, 11, 12, 13, 14]]
    [(0, []), (1, []), (2, []), (4, []), (8, []), (9, []), (10, []), (3, []), (5, []), (6, []), (7, []), (14, []), (11, []), (12, []), (13, []), (15, [])]
    [[], [0], [0, 1], [0, 1, 2], [], [0, 1, 2, 3, 4], [0, 1, 2, 3, 4, 5], [0, 1, 2, 3, 4, 5, 6], [], [8], [8, 9], [8, 9, 10], [8, 9, 10, 11], [8, 9, 10, 11, 12], [0, 1, 2, 3, 4, 5, 6, 7], [0, 1, 2, 3, 4, 5, 6, 7, 8, 9, 10, 11, 12, 13, 14]]
    [0, 1, 5, 6])
  (.seq (.region [⟨some 26, none, .mov (.t 0)⟩,
    ⟨some 27, none, .mov (.t 5)⟩,
    ⟨some 28, none, .mov (.t 6)⟩,
    ⟨some 29, none, .call F.heap_Heap_swap [.t 26, .t 27, .t 28]⟩]
    [0, 1, 5, 6])
  (.seq (.region [⟨some 30, none, .mov (.t 0)⟩,
    ⟨some 31, none, .mov (.t 0)⟩,
    ⟨some 32, none, .nilchk (.t 31)⟩,
    ⟨some 33, none, .fieldAddr 2 (.t 32)⟩,
    ⟨some 34, none, .load false 1 (.t 33)⟩,
    ⟨some 35, none, .mov (.t 6)⟩,
    ⟨some 36, none, .sub 1 (.t 34) none (some (.t 35)) none⟩,
    ⟨some 37, none, .nilchk (.t 30)⟩,
    ⟨some 38, none, .fieldAddr 2 (.t 37)⟩,
    ⟨none, none, .store 1 (.t 38) (.t 36)⟩]
    [0, 1, 5, 6])
  (.seq (.region [⟨some 39, none, .mov (.t 0)⟩,
    ⟨some 40, none, .nilchk (.t 39)⟩,
    ⟨some 41, none, .fieldAddr 1 (.t 40)⟩,
    ⟨some 42, none, .load false 1 (.t 41)⟩,
    ⟨some 43, none, .mov (.t 1)⟩,
    ⟨some 44, none, .idxS 1 (.t 42) (.t 43)⟩,
    ⟨none, none, .store 1 (.t 44) (.c (.int .i64 0))⟩]
    [0, 5, 6])
  (.seq (.seq (.region [⟨some 45, none, .mov (.t 5)⟩,
    ⟨some 46, none, .mov (.t 6)⟩,
    ⟨some 47, none, .bin .lss (.t 45) (.t 46)⟩]
    [0, 5, 47])
  (.cond (.t 47)
    (.seq (.region [⟨some 48, none, .mov (.t 0)⟩,
      ⟨some 49, none, .nilchk (.t 48)⟩,
      ⟨some 50, none, .fieldAddr 2 (.t 49)⟩,
      ⟨some 51, none, .load false 1 (.t 50)⟩,
      ⟨some 52, none, .mov (.t 5)⟩,
      ⟨some 53, none, .idxS 1 (.t 51) (.t 52)⟩,
      ⟨some 54, none, .load false 1 (.t 53)⟩,
      ⟨some 7, none, .mov (.t 54)⟩]
      [0, 5, 7])
    (.seq (.region [⟨some 55, none, .mov (.t 0)⟩,
      ⟨some 56, none, .mov (.t 5)⟩,
      ⟨some 57, none, .call F.heap_Heap_up [.t 55, .t 56]⟩]
      [0, 7])
    (.region [⟨some 58, none, .mov (.t 0)⟩,
      ⟨some 59, none, .mov (.t 0)⟩,
      ⟨some 60, none, .nilchk (.t 59)⟩,
      ⟨some 61, none, .fieldAddr 1 (.t 60)⟩,
      ⟨some 62, none, .load false 1 (.t 61)⟩,
      ⟨some 63, none, .mov (.t 7)⟩,
      ⟨some 64, none, .idxS 1 (.t 62) (.t 63)⟩,
      ⟨some 65, none, .load false 1 (.t 64)⟩,
      ⟨some 66, none, .bin .sub (.t 65) (.c (.int .i64 1))⟩,
      ⟨some 67, none, .call F.heap_Heap_down [.t 58, .t 66]⟩]
      [])))
    .skip))
  (.seq (.region [⟨some 4, none, .mov (.c (.bool true))⟩]
    [4])
  .ret))))))))⟩

def RC.ref06_Min : RFn := ⟨1, [.slot 2, .slot 3],
  (.seq (.region [⟨some 2, none, .mov (.c (.int .i64 0))⟩,
    ⟨some 3, none, .mov (.c (.bool false))⟩]
    [0])
  (.seq (.seq (.region [⟨some 6, none, .mov (.t 0)⟩,
    ⟨some 7, none, .len (.t 6)⟩,
    ⟨some 8, none, .bin .eql (.t 7) (.c (.int .i64 0))⟩]
    [0, 8])
  (.cond (.t 8)
    (.seq (.region [⟨some 2, none, .mov (.c (.int .i64 0))⟩,
      ⟨some 3, none, .mov (.c (.bool false))⟩]
      [2, 3])
    .ret)
    .skip))
  (.seq (.region [⟨some 9, none, .mov (.t 0)⟩,
    ⟨some 10, none, .idxS 3 (.t 9) (.c (.int .i64 0))⟩,
    ⟨some 11, none, .load true 3 (.t 10)⟩,
    ⟨some 4, none, .alloc [(.int .i64 0), (u64 0#64), (u64 0#64)]⟩,
    ⟨none, none, .store 3 (.t 4) (.t 11)⟩]
    [0, 4])
  (.seq (.seq (.region [⟨some 5, none, .mov (.c (.int .i64 1))⟩]
    [0, 4, 5])
  (.block 0
    (.loop [0, 4, 5]
      (.seq (.seq (.region [⟨some 12, none, .mov (.t 5)⟩,
        ⟨some 13, none, .mov (.t 0)⟩,
        ⟨some 14, none, .len (.t 13)⟩,
        ⟨some 15, none, .bin .lss (.t 12) (.t 14)⟩]
        [0, 4, 5, 15])
      (.cond (.t 15)
        .skip
        (.exit 0)))
      (.seq (.block 1
        (.seq (.drawn [⟨some 18, none, .mov (.t 0)⟩,
          ⟨some 19, none, .mov (.t 5)⟩,
          ⟨some 20, none, .idxS 3 (.t 18) (.t 19)⟩,
          ⟨some 21, none, .load true 3 (.t 20)⟩,
          ⟨some 22, none, .load true 3 (.t 4)⟩,
          ⟨some 23, none, .call F.ref06_ahead [.t 21, .t 22]⟩]
          [[], [], [0, 1], [2], [], [3, 4]]
          [(0, []), (1, []), (2, []), (3, []), (4, []), (5, [])]
          [[], [], [0, 1], [0, 1, 2], [], [0, 1, 2, 3, 4]]
          [0, 4, 5, 23])
        (.cond (.t 23)
          (.region [⟨some 24, none, .mov (.t 0)⟩,
            ⟨some 25, none, .mov (.t 5)⟩,
            ⟨some 26, none, .idxS 3 (.t 24) (.t 25)⟩,
            ⟨some 27, none, .load true 3 (.t 26)⟩,
            ⟨none, none, .store 3 (.t 4) (.t 27)⟩]
            [0, 4, 5])
          .skip)) [0, 4, 5])
      (.region [⟨some 16, none, .mov (.t 5)⟩,
        ⟨some 17, none, .bin .add (.t 16) (.c (.int .i64 1))⟩,
        ⟨some 5, none, .mov (.t 17)⟩]
        [0, 4, 5])))) [4]))
  (.seq (.region [⟨some 28, none, .fieldAddr 0 (.t 4)⟩,
    ⟨some 29, none, .load false 1 (.t 28)⟩,
    ⟨some 2, none, .mov (.t 29)⟩,
    ⟨some 3, none, .mov (.c (.bool true))⟩]
    [2, 3])
  .ret)))))⟩

def RC.heap_Heap_Pop : RFn := ⟨1, [.slot 2, .slot 3],
  (.seq (.region [⟨some 2, none, .mov (.c (.int .i64 0))⟩,
    ⟨some 3, none, .mov (.c (.bool false))⟩]
    [0])
  (.seq (.region [⟨some 7, none, .mov (.t 0)⟩,
    ⟨some 8, none, .call F.heap_Heap_Min [.t 7]⟩,
    ⟨some 6, none, .mov (.t 8)⟩,
    ⟨some 9, none, .ext 0 (.t 6)⟩,
    ⟨some 10, none, .ext 1 (.t 6)⟩,
    ⟨some 4, none, .mov (.t 9)⟩,
    ⟨some 5, none, .mov (.t 10)⟩]
    [0, 4, 5])
  (.seq (.seq (.region [⟨some 11, none, .mov (.t 5)⟩]
    [0, 4, 5, 11])
  (.cond (.t 11)
    (.region [⟨some 12, none, .mov (.t 0)⟩,
      ⟨some 13, none, .mov (.t 4)⟩,
      ⟨some 14, none, .call F.heap_Heap_Remove [.t 12, .t 13]⟩]
      [4, 5])
    .skip))
  (.seq (.region [⟨some 15, none, .mov (.t 4)⟩,
    ⟨some 16, none, .mov (.t 5)⟩,
    ⟨some 2, none, .mov (.t 15)⟩,
    ⟨some 3, none, .mov (.t 16)⟩]
    [2, 3])
  .ret))))⟩

def RC.heap_Heap_Min : RFn := ⟨1, [.slot 2, .slot 3],
  (.seq (.region [⟨some 2, none, .mov (.c (.int .i64 0))⟩,
    ⟨some 3, none, .mov (.c (.bool false))⟩]
    [0])
  (.seq (.seq (.region [⟨some 4, none, .mov (.t 0)⟩,
    ⟨some 5, none, .call F.heap_Heap_Len [.t 4]⟩,
    ⟨some 6, none, .bin .eql (.t 5) (.c (.int .i64 0))⟩]
    [0, 6])
  (.cond (.t 6)
    (.seq (.region [⟨some 2, none, .mov (.c (.int .i64 0))⟩,
      ⟨some 3, none, .mov (.c (.bool false))⟩]
      [2, 3])
    .ret)
    .skip))
  (.seq (.region [⟨some 7, none, .mov (.t 0)⟩,
    ⟨some 8, none, .nilchk (.t 7)⟩,
    ⟨some 9, none, .fieldAddr 2 (.t 8)⟩,
    ⟨some 10, none, .load false 1 (.t 9)⟩,
    ⟨some 11, none, .idxS 1 (.t 10) (.c (.int .i64 0))⟩,
    ⟨some 12, none, .load false 1 (.t 11)⟩,
    ⟨some 2, none, .mov (.t 12)⟩,
    ⟨some 3, none, .mov (.c (.bool true))⟩]
    [2, 3])
  .ret)))⟩

def RC.heap_Heap_Key : RFn := ⟨2, [.slot 4, .slot 5, .slot 6],
  (.seq (.region [⟨some 4, none, .mov (.c (u64 0#64))⟩,
    ⟨some 5, none, .mov (.c (u64 0#64))⟩,
    ⟨some 6, none, .mov (.c (.bool false))⟩]
    [0, 1])
  (.seq (.seq (.region [⟨some 7, none, .mov (.t 0)⟩,
    ⟨some 8, none, .mov (.t 1)⟩,
    ⟨some 9, none, .call F.heap_Heap_has [.t 7, .t 8]⟩,
    ⟨some 10, none, .un .not (.t 9)⟩]
    [0, 1, 10])
  (.cond (.t 10)
    (.seq (.region [⟨some 4, none, .mov (.c (u64 0#64))⟩,
      ⟨some 5, none, .mov (.c (u64 0#64))⟩,
      ⟨some 6, none, .mov (.c (.bool false))⟩]
      [4, 5, 6])
    .ret)
    .skip))
  (.seq (.drawn [⟨some 11, none, .mov (.t 0)⟩,
    ⟨some 12, none, .nilchk (.t 11)⟩,
    ⟨some 13, none, .fieldAddr 0 (.t 12)⟩,
    ⟨some 14, none, .load false 1 (.t 13)⟩,
    ⟨some 15, none, .mov (.t 1)⟩,
    ⟨some 16, none, .idxS 2 (.t 14) (.t 15)⟩,
    ⟨some 17, none, .fieldAddr 0 (.t 16)⟩,
    ⟨some 18, none, .load false 1 (.t 17)⟩,
    ⟨some 19, none, .mov (.t 0)⟩,
    ⟨some 20, none, .nilchk (.t 19)⟩,
    ⟨some 21, none, .fieldAddr 0 (.t 20)⟩,
    ⟨some 22, none, .load false 1 (.t 21)⟩,
    ⟨some 23, none, .mov (.t 1)⟩,
    ⟨some 24, none, .idxS 2 (.t 22) (.t 23)⟩,
    ⟨some 25, none, .fieldAddr 1 (.t 24)⟩,
    ⟨some 26, none, .load false 1 (.t 25)⟩,
    ⟨some 4, none, .mov (.t 18)⟩,
    ⟨some 5, none, .mov (.t 26)⟩,
    ⟨some 6, none, .mov (.c (.bool true))⟩]
    [[], [0], [1], [2], [], [3, 4], [5], [6], [], [8], [9], [10], [], [11, 12], [13], [14], [7, 0, 1, 2, 3, 4, 5, 6, 7], [15, 16, 0, 1, 2, 3, 4, 5, 6, 7, 8, 9, 10, 11, 12, 13, 14, 15, 16], [17, 0, 1, 2, 3, 4, 5, 6, 7, 8, 9, 10, 11, 12, 13, 14, 15, 16, 17]]
    [(0, []), (1, []), (2, []), (4, []), (8, []), (9, []), (10, []), (12, []), (3, []), (5, []), (6, []), (7, []), (16, []), (11, []), (13, []), (14, []), (15, []), (17, []), (18, [])]
    [[], [0], [0, 1], [0, 1, 2], [], [0, 1, 2, 3, 4], [0, 1, 2, 3, 4, 5], [0, 1, 2, 3, 4, 5, 6], [], [8], [8, 9], [8, 9, 10], [], [8, 9, 10, 11, 12], [8, 9, 10, 11, 12, 13], [8, 9, 10, 11, 12, 13, 14], [0, 1, 2, 3, 4, 5, 6, 7], [0, 1, 2, 3, 4, 5, 6, 7, 8, 9, 10, 11, 12, 13, 14, 15, 16], [0, 1, 2, 3, 4, 5, 6, 7, 8, 9, 10, 11, 12, 13, 14, 15, 16, 17]]
    [4, 5, 6])
  .ret)))⟩

def RC.ref06_Key : RFn := ⟨2, [.slot 4, .slot 5, .slot 6],
  (.seq (.region [⟨some 4, none, .mov (.c (u64 0#64))⟩,
    ⟨some 5, none, .mov (.c (u64 0#64))⟩,
    ⟨some 6, none, .mov (.c (.bool false))⟩]
    [0, 1])
  (.seq (.seq (.region [⟨some 7, none, .mov (.c (.int .i64 0))⟩]
    [0, 1, 7])
  (.block 0
    (.loop [0, 1, 7]
      (.seq (.seq (.region [⟨some 8, none, .mov (.t 7)⟩,
        ⟨some 9, none, .mov (.t 0)⟩,
        ⟨some 10, none, .len (.t 9)⟩,
        ⟨some 11, none, .bin .lss (.t 8) (.t 10)⟩]
        [0, 1, 7, 11])
      (.cond (.t 11)
        .skip
        (.exit 0)))
      (.seq (.block 1
        (.seq (.region [⟨some 14, none, .mov (.t 0)⟩,
          ⟨some 15, none, .mov (.t 7)⟩,
          ⟨some 16, none, .idxS 3 (.t 14) (.t 15)⟩,
          ⟨some 17, none, .fieldAddr 0 (.t 16)⟩,
          ⟨some 18, none, .load false 1 (.t 17)⟩,
          ⟨some 19, none, .mov (.t 1)⟩,
          ⟨some 20, none, .bin .eql (.t 18) (.t 19)⟩]
          [0, 1, 7, 20])
        (.cond (.t 20)
          (.seq (.drawn [⟨some 21, none, .mov (.t 0)⟩,
            ⟨some 22, none, .mov (.t 7)⟩,
            ⟨some 23, none, .idxS 3 (.t 21) (.t 22)⟩,
            ⟨some 24, none, .fieldAddr 1 (.t 23)⟩,
            ⟨some 25, none, .load false 1 (.t 24)⟩,
            ⟨some 26, none, .mov (.t 0)⟩,
            ⟨some 27, none, .mov (.t 7)⟩,
            ⟨some 28, none, .idxS 3 (.t 26) (.t 27)⟩,
            ⟨some 29, none, .fieldAddr 2 (.t 28)⟩,
            ⟨some 30, none, .load false 1 (.t 29)⟩,
            ⟨some 4, none, .mov (.t 25)⟩,
            ⟨some 5, none, .mov (.t 30)⟩,
            ⟨some 6, none, .mov (.c (.bool true))⟩]
            [[], [], [0, 1], [2], [3], [], [], [5, 6], [7], [8], [4, 0, 1, 2, 3, 4], [9, 10, 0, 1, 2, 3, 4, 5, 6, 7, 8, 9, 10], [11, 0, 1, 2, 3, 4, 5, 6, 7, 8, 9, 10, 11]]
            [(0, []), (1, []), (2, []), (3, []), (5, []), (6, []), (7, []), (8, []), (4, []), (10, []), (9, []), (11, []), (12, [])]
            [[], [], [0, 1], [0, 1, 2], [0, 1, 2, 3], [], [], [5, 6], [5, 6, 7], [5, 6, 7, 8], [0, 1, 2, 3, 4], [0, 1, 2, 3, 4, 5, 6, 7, 8, 9, 10], [0, 1, 2, 3, 4, 5, 6, 7, 8, 9, 10, 11]]
            [4, 5, 6])
          .ret)
          .skip)) [0, 1, 7])
      (.region [⟨some 12, none, .mov (.t 7)⟩,
        ⟨some 13, none, .bin .add (.t 12) (.c (.int .i64 1))⟩,
        ⟨some 7, none, .mov (.t 13)⟩]
        [0, 1, 7])))) []))
  (.seq (.region [⟨some 4, none, .mov (.c (u64 0#64))⟩,
    ⟨some 5, none, .mov (.c (u64 0#64))⟩,
    ⟨some 6, none, .mov (.c (.bool false))⟩]
    [4, 5, 6])
  .ret)))⟩

def RC.heap_Heap_Len : RFn := ⟨1, [.slot 2],
  (.seq (.region [⟨some 2, none, .mov (.c (.int .i64 0))⟩]
    [0])
  (.seq (.seq (.region [⟨some 3, none, .mov (.t 0)⟩,
    ⟨some 4, none, .eq false .ptr (.t 3) (.c (.pointer none))⟩]
    [0, 4])
  (.cond (.t 4)
    (.seq (.region [⟨some 2, none, .mov (.c (.int .i64 0))⟩]
      [2])
    .ret)
    .skip))
  (.seq (.region [⟨some 5, none, .mov (.t 0)⟩,
    ⟨some 6, none, .nilchk (.t 5)⟩,
    ⟨some 7, none, .fieldAddr 2 (.t 6)⟩,
    ⟨some 8, none, .load false 1 (.t 7)⟩,
    ⟨some 9, none, .len (.t 8)⟩,
    ⟨some 2, none, .mov (.t 9)⟩]
    [2])
  .ret)))⟩

def RC.ref02_Compare : RFn := ⟨4, [.slot 8],
  (.seq (.region [⟨some 8, none, .mov (.c (.int .i64 0))⟩]
    [0, 1, 2, 3])
  (.seq (.region [⟨some 11, none, .mov (.t 0)⟩,
    ⟨some 12, none, .mov (.t 3)⟩,
    ⟨some 13, none, .call F.ref02_Times [.t 11, .t 12]⟩,
    ⟨some 9, none, .alloc [(u64 0#64), (u64 0#64)]⟩,
    ⟨none, none, .store 2 (.t 9) (.t 13)⟩]
    [1, 2, 9])
  (.seq (.region [⟨some 14, none, .mov (.t 2)⟩,
    ⟨some 15, none, .mov (.t 1)⟩,
    ⟨some 16, none, .call F.ref02_Times [.t 14, .t 15]⟩,
    ⟨some 10, none, .alloc [(u64 0#64), (u64 0#64)]⟩,
    ⟨none, none, .store 2 (.t 10) (.t 16)⟩]
    [9, 10])
  (.seq (.seq (.region [⟨some 17, none, .load true 2 (.t 9)⟩,
    ⟨some 18, none, .load true 2 (.t 10)⟩,
    ⟨some 19, none, .eq false (.flat [.int, .int]) (.t 17) (.t 18)⟩]
    [9, 10, 19])
  (.cond (.t 19)
    (.seq (.region [⟨some 8, none, .mov (.c (.int .i64 0))⟩]
      [8])
    .ret)
    .skip))
  (.seq (.seq (.region [⟨some 20, none, .fieldAddr 0 (.t 9)⟩,
    ⟨some 21, none, .load false 1 (.t 20)⟩,
    ⟨some 22, none, .fieldAddr 0 (.t 10)⟩,
    ⟨some 23, none, .load false 1 (.t 22)⟩,
    ⟨some 24, none, .bin .lss (.t 21) (.t 23)⟩,
    ⟨some 25, none, .mov (.t 24)⟩,
    ⟨some 26, some (25, false), .fieldAddr 0 (.t 9)⟩,
    ⟨some 27, some (25, false), .load false 1 (.t 26)⟩,
    ⟨some 28, some (25, false), .fieldAddr 0 (.t 10)⟩,
    ⟨some 29, some (25, false), .load false 1 (.t 28)⟩,
    ⟨some 30, some (25, false), .bin .eql (.t 27) (.t 29)⟩,
    ⟨some 31, some (25, false), .mov (.t 30)⟩,
    ⟨some 32, some (31, true), .fieldAddr 1 (.t 9)⟩,
    ⟨some 33, some (31, true), .load false 1 (.t 32)⟩,
    ⟨some 34, some (31, true), .fieldAddr 1 (.t 10)⟩,
    ⟨some 35, some (31, true), .load false 1 (.t 34)⟩,
    ⟨some 36, some (31, true), .bin .lss (.t 33) (.t 35)⟩,
    ⟨some 37, some (25, false), .pick (.t 31) (.t 36) (.c (.bool false))⟩,
    ⟨some 38, none, .pick (.t 25) (.c (.bool true)) (.t 37)⟩]
    [38])
  (.cond (.t 38)
    (.seq (.region [⟨some 8, none, .mov (.c (.int .i64 (-1)))⟩]
      [8])
    .ret)
    .skip))
  (.seq (.region [⟨some 8, none, .mov (.c (.int .i64 1))⟩]
    [8])
  .ret))))))⟩

def RC.heap_Heap_up : RFn := ⟨2, [],
  (.block 0
    (.loop [0, 1]
      (.seq (.seq (.region [⟨some 4, none, .mov (.t 1)⟩,
        ⟨some 5, none, .bin .gtr (.t 4) (.c (.int .i64 0))⟩,
        ⟨some 6, none, .mov (.t 5)⟩,
        ⟨some 7, some (6, true), .mov (.t 0)⟩,
        ⟨some 8, some (6, true), .mov (.t 1)⟩,
        ⟨some 9, some (6, true), .mov (.t 1)⟩,
        ⟨some 10, some (6, true), .bin .sub (.t 9) (.c (.int .i64 1))⟩,
        ⟨some 11, some (6, true), .bin .quo (.t 10) (.c (.int .i64 2))⟩,
        ⟨some 12, some (6, true), .call F.heap_Heap_ahead [.t 7, .t 8, .t 11]⟩,
        ⟨some 13, none, .pick (.t 6) (.t 12) (.c (.bool false))⟩]
        [0, 1, 13])
      (.cond (.t 13)
        .skip
        (.exit 0)))
      (.block 1
        (.seq (.region [⟨some 14, none, .mov (.t 0)⟩,
          ⟨some 15, none, .mov (.t 1)⟩,
          ⟨some 16, none, .mov (.t 1)⟩,
          ⟨some 17, none, .bin .sub (.t 16) (.c (.int .i64 1))⟩,
          ⟨some 18, none, .bin .quo (.t 17) (.c (.int .i64 2))⟩,
          ⟨some 19, none, .call F.heap_Heap_swap [.t 14, .t 15, .t 18]⟩]
          [0, 1])
        (.region [⟨some 20, none, .mov (.t 1)⟩,
          ⟨some 21, none, .bin .sub (.t 20) (.c (.int .i64 1))⟩,
          ⟨some 22, none, .bin .quo (.t 21) (.c (.int .i64 2))⟩,
          ⟨some 1, none, .mov (.t 22)⟩]
          [0, 1])) [0, 1]))) [])⟩

def RC.heap_Heap_down : RFn := ⟨2, [],
  (.block 0
    (.loop [0, 1]
      (.block 1
        (.seq (.region [⟨some 7, none, .mov (.t 1)⟩,
          ⟨some 4, none, .mov (.t 7)⟩]
          [0, 1, 4])
        (.seq (.seq (.region [⟨some 8, none, .mov (.t 1)⟩,
          ⟨some 9, none, .bin .mul (.c (.int .i64 2)) (.t 8)⟩,
          ⟨some 10, none, .bin .add (.t 9) (.c (.int .i64 1))⟩,
          ⟨some 11, none, .mov (.t 1)⟩,
          ⟨some 12, none, .bin .mul (.c (.int .i64 2)) (.t 11)⟩,
          ⟨some 13, none, .bin .add (.t 12) (.c (.int .i64 2))⟩,
          ⟨some 14, none, .build [(.int .i64 0), (.int .i64 0)] [(0, 1, .t 10), (1, 1, .t 13)]⟩,
          ⟨some 15, none, .mov (.c (.int .i64 0))⟩]
          [0, 1, 4, 14, 15])
        (.block 2
          (.loop [0, 1, 4, 14, 15]
            (.seq (.region [⟨some 16, none, .bin .lss (.t 15) (.c (.int .i64 2))⟩]
              [0, 1, 4, 14, 15, 16])
            (.seq (.cond (.t 16)
              .skip
              (.exit 2))
            (.seq (.block 3
              (.seq (.region [⟨some 17, none, .idxA false 2 1 (.t 14) (.t 15)⟩,
                ⟨some 6, none, .mov (.t 17)⟩]
                [0, 1, 4, 6, 14, 15])
              (.seq (.region [⟨some 18, none, .mov (.t 6)⟩,
                ⟨some 19, none, .mov (.t 0)⟩,
                ⟨some 20, none, .nilchk (.t 19)⟩,
                ⟨some 21, none, .fieldAddr 2 (.t 20)⟩,
                ⟨some 22, none, .load false 1 (.t 21)⟩,
                ⟨some 23, none, .len (.t 22)⟩,
                ⟨some 24, none, .bin .lss (.t 18) (.t 23)⟩,
                ⟨some 25, none, .mov (.t 24)⟩,
                ⟨some 26, some (25, true), .mov (.t 0)⟩,
                ⟨some 27, some (25, true), .mov (.t 6)⟩,
                ⟨some 28, some (25, true), .mov (.t 4)⟩,
                ⟨some 29, some (25, true), .call F.heap_Heap_ahead [.t 26, .t 27, .t 28]⟩,
                ⟨some 30, none, .pick (.t 25) (.t 29) (.c (.bool false))⟩]
                [0, 1, 4, 6, 14, 15, 30])
              (.cond (.t 30)
                (.region [⟨some 31, none, .mov (.t 6)⟩,
                  ⟨some 4, none, .mov (.t 31)⟩]
                  [0, 1, 4, 14, 15])
                .skip))) [0, 1, 4, 14, 15])
            (.region [⟨some 32, none, .bin .add (.t 15) (.c (.int .i64 1))⟩,
              ⟨some 15, none, .mov (.t 32)⟩]
              [0, 1, 4, 14, 15]))))) [0, 1, 4]))
        (.seq (.seq (.region [⟨some 33, none, .mov (.t 4)⟩,
          ⟨some 34, none, .mov (.t 1)⟩,
          ⟨some 35, none, .bin .eql (.t 33) (.t 34)⟩]
          [0, 1, 4, 35])
        (.cond (.t 35)
          .ret
          .skip))
        (.seq (.region [⟨some 36, none, .mov (.t 0)⟩,
          ⟨some 37, none, .mov (.t 1)⟩,
          ⟨some 38, none, .mov (.t 4)⟩,
          ⟨some 39, none, .call F.heap_Heap_swap [.t 36, .t 37, .t 38]⟩]
          [0, 4])
        (.region [⟨some 40, none, .mov (.t 4)⟩,
          ⟨some 1, none, .mov (.t 40)⟩]
          [0, 1]))))) [0, 1])) [])⟩

def RC.heap_Heap_has : RFn := ⟨2, [.slot 4],
  (.seq (.region [⟨some 4, none, .mov (.c (.bool false))⟩]
    [0, 1])
  (.seq (.region [⟨some 5, none, .mov (.t 0)⟩,
    ⟨some 6, none, .eq true .ptr (.t 5) (.c (.pointer none))⟩,
    ⟨some 7, none, .mov (.t 6)⟩,
    ⟨some 8, some (7, true), .mov (.t 1)⟩,
    ⟨some 9, some (7, true), .bin .geq (.t 8) (.c (.int .i64 0))⟩,
    ⟨some 10, none, .pick (.t 7) (.t 9) (.c (.bool false))⟩,
    ⟨some 11, none, .mov (.t 10)⟩,
    ⟨some 12, some (11, true), .mov (.t 1)⟩,
    ⟨some 13, some (11, true), .mov (.t 0)⟩,
    ⟨some 14, some (11, true), .nilchk (.t 13)⟩,
    ⟨some 15, some (11, true), .fieldAddr 0 (.t 14)⟩,
    ⟨some 16, some (11, true), .load false 1 (.t 15)⟩,
    ⟨some 17, some (11, true), .len (.t 16)⟩,
    ⟨some 18, some (11, true), .bin .lss (.t 12) (.t 17)⟩,
    ⟨some 19, none, .pick (.t 11) (.t 18) (.c (.bool false))⟩,
    ⟨some 20, none, .mov (.t 19)⟩,
    ⟨some 21, some (20, true), .mov (.t 0)⟩,
    ⟨some 22, some (20, true), .nilchk (.t 21)⟩,
    ⟨some 23, some (20, true), .fieldAddr 1 (.t 22)⟩,
    ⟨some 24, some (20, true), .load false 1 (.t 23)⟩,
    ⟨some 25, some (20, true), .mov (.t 1)⟩,
    ⟨some 26, some (20, true), .idxS 1 (.t 24) (.t 25)⟩,
    ⟨some 27, some (20, true), .load false 1 (.t 26)⟩,
    ⟨some 28, some (20, true), .bin .gtr (.t 27) (.c (.int .i64 0))⟩,
    ⟨some 29, none, .pick (.t 20) (.t 28) (.c (.bool false))⟩,
    ⟨some 4, none, .mov (.t 29)⟩]
    [4])
  .ret))⟩

def RC.heap_Heap_swap : RFn := ⟨3, [],
  (.seq (.drawn [⟨some 6, none, .mov (.t 0)⟩,
    ⟨some 7, none, .nilchk (.t 6)⟩,
    ⟨some 8, none, .fieldAddr 2 (.t 7)⟩,
    ⟨some 9, none, .load false 1 (.t 8)⟩,
    ⟨some 10, none, .mov (.t 1)⟩,
    ⟨some 11, none, .mov (.t 0)⟩,
    ⟨some 12, none, .nilchk (.t 11)⟩,
    ⟨some 13, none, .fieldAddr 2 (.t 12)⟩,
    ⟨some 14, none, .load false 1 (.t 13)⟩,
    ⟨some 15, none, .mov (.t 2)⟩,
    ⟨some 16, none, .mov (.t 0)⟩,
    ⟨some 17, none, .nilchk (.t 16)⟩,
    ⟨some 18, none, .fieldAddr 2 (.t 17)⟩,
    ⟨some 19, none, .load false 1 (.t 18)⟩,
    ⟨some 20, none, .mov (.t 2)⟩,
    ⟨some 21, none, .idxS 1 (.t 19) (.t 20)⟩,
    ⟨some 22, none, .load false 1 (.t 21)⟩,
    ⟨some 23, none, .mov (.t 0)⟩,
    ⟨some 24, none, .nilchk (.t 23)⟩,
    ⟨some 25, none, .fieldAddr 2 (.t 24)⟩,
    ⟨some 26, none, .load false 1 (.t 25)⟩,
    ⟨some 27, none, .mov (.t 1)⟩,
    ⟨some 28, none, .idxS 1 (.t 26) (.t 27)⟩,
    ⟨some 29, none, .load false 1 (.t 28)⟩,
    ⟨some 30, none, .idxS 1 (.t 9) (.t 10)⟩,
    ⟨none, none, .store 1 (.t 30) (.t 22)⟩,
    ⟨some 31, none, .idxS 1 (.t 14) (.t 15)⟩,
    ⟨none, none, .store 1 (.t 31) (.t 29)⟩]
    [[], [0], [1], [2], [], [], [5], [6], [7], [], [], [10], [11], [12], [], [13, 14], [15], [], [17], [18], [19], [], [20, 21], [22], [3, 4, 0, 1, 2, 3, 4, 8, 10, 11, 12, 13, 14, 15, 16, 20, 23], [24, 16, 0, 1, 2, 3, 4, 8, 10, 11, 12, 13, 14, 15, 16, 20, 23], [8, 9, 0, 1, 2, 3, 4, 5, 6, 7, 8, 9, 10, 11, 12, 13, 14, 15, 16, 17, 18, 19, 20, 21, 22, 23, 24, 25], [26, 23, 25, 0, 1, 2, 3, 4, 5, 6, 7, 8, 9, 10, 11, 12, 13, 14, 15, 16, 17, 18, 19, 20, 21, 22, 23, 24, 25]]
    [(0, []), (1, []), (2, []), (4, []), (5, []), (6, []), (7, []), (9, []), (10, []), (11, []), (12, []), (14, []), (17, []), (18, []), (19, []), (21, []), (3, []), (8, []), (13, []), (15, []), (16, []), (20, []), (22, []), (23, []), (24, []), (25, []), (26, []), (27, [])]
    [[], [0], [0, 1], [0, 1, 2], [], [], [5], [5, 6], [5, 6, 7], [], [], [10], [10, 11], [10, 11, 12], [], [10, 11, 12, 13, 14], [10, 11, 12, 13, 14, 15], [], [17], [17, 18], [17, 18, 19], [], [17, 18, 19, 20, 21], [17, 18, 19, 20, 21, 22], [0, 1, 2, 3, 4, 5, 6, 7, 8, 10, 11, 12, 13, 14, 15, 16, 17, 18, 19, 20, 21, 22, 23], [0, 1, 2, 3, 4, 5, 6, 7, 8, 10, 11, 12, 13, 14, 15, 16, 17, 18, 19, 20, 21, 22, 23, 24], [0, 1, 2, 3, 4, 5, 6, 7, 8, 9, 10, 11, 12, 13, 14, 15, 16, 17, 18, 19, 20, 21, 22, 23, 24, 25], [0, 1, 2, 3, 4, 5, 6, 7, 8, 9, 10, 11, 12, 13, 14, 15, 16, 17, 18, 19, 20, 21, 22, 23, 24, 25, 26]]
    [0, 1, 2])
  (.drawn [⟨some 32, none, .mov (.t 0)⟩,
    ⟨some 33, none, .nilchk (.t 32)⟩,
    ⟨some 34, none, .fieldAddr 1 (.t 33)⟩,
    ⟨some 35, none, .load false 1 (.t 34)⟩,
    ⟨some 36, none, .mov (.t 0)⟩,
    ⟨some 37, none, .nilchk (.t 36)⟩,
    ⟨some 38, none, .fieldAddr 2 (.t 37)⟩,
    ⟨some 39, none, .load false 1 (.t 38)⟩,
    ⟨some 40, none, .mov (.t 1)⟩,
    ⟨some 41, none, .idxS 1 (.t 39) (.t 40)⟩,
    ⟨some 42, none, .load false 1 (.t 41)⟩,
    ⟨some 43, none, .mov (.t 0)⟩,
    ⟨some 44, none, .nilchk (.t 43)⟩,
    ⟨some 45, none, .fieldAddr 1 (.t 44)⟩,
    ⟨some 46, none, .load false 1 (.t 45)⟩,
    ⟨some 47, none, .mov (.t 0)⟩,
    ⟨some 48, none, .nilchk (.t 47)⟩,
    ⟨some 49, none, .fieldAddr 2 (.t 48)⟩,
    ⟨some 50, none, .load false 1 (.t 49)⟩,
    ⟨some 51, none, .mov (.t 2)⟩,
    ⟨some 52, none, .idxS 1 (.t 50) (.t 51)⟩,
    ⟨some 53, none, .load false 1 (.t 52)⟩,
    ⟨some 54, none, .mov (.t 1)⟩,
    ⟨some 55, none, .bin .add (.t 54) (.c (.int .i64 1))⟩,
    ⟨some 56, none, .mov (.t 2)⟩,
    ⟨some 57, none, .bin .add (.t 56) (.c (.int .i64 1))⟩,
    ⟨some 58, none, .idxS 1 (.t 35) (.t 42)⟩,
    ⟨none, none, .store 1 (.t 58) (.t 55)⟩,
    ⟨some 59, none, .idxS 1 (.t 46) (.t 53)⟩,
    ⟨none, none, .store 1 (.t 59) (.t 57)⟩]
    [[], [0], [1], [2], [], [4], [5], [6], [], [7, 8], [9], [], [11], [12], [13], [], [15], [16], [17], [], [18, 19], [20], [], [22], [], [24], [3, 10, 0, 1, 2, 3, 4, 5, 6, 7, 8, 9, 10, 14, 18, 21, 22, 23], [26, 23, 0, 1, 2, 3, 4, 5, 6, 7, 8, 9, 10, 14, 18, 21, 22, 23], [14, 21, 0, 1, 2, 3, 4, 5, 6, 7, 8, 9, 10, 11, 12, 13, 14, 15, 16, 17, 18, 19, 20, 21, 22, 23, 24, 25, 26, 27], [28, 25, 27, 0, 1, 2, 3, 4, 5, 6, 7, 8, 9, 10, 11, 12, 13, 14, 15, 16, 17, 18, 19, 20, 21, 22, 23, 24, 25, 26, 27]]
    [(0, []), (1, []), (2, []), (4, []), (5, []), (6, []), (8, []), (11, []), (12, []), (13, []), (15, []), (16, []), (17, []), (19, []), (22, []), (23, []), (24, []), (25, []), (3, []), (7, []), (9, []), (10, []), (14, []), (18, []), (20, []), (21, []), (26, []), (27, []), (28, []), (29, [])]
    [[], [0], [0, 1], [0, 1, 2], [], [4], [4, 5], [4, 5, 6], [], [4, 5, 6, 7, 8], [4, 5, 6, 7, 8, 9], [], [11], [11, 12], [11, 12, 13], [], [15], [15, 16], [15, 16, 17], [], [15, 16, 17, 18, 19], [15, 16, 17, 18, 19, 20], [], [22], [], [24], [0, 1, 2, 3, 4, 5, 6, 7, 8, 9, 10, 11, 12, 13, 14, 15, 16, 17, 18, 19, 20, 21, 22, 23], [0, 1, 2, 3, 4, 5, 6, 7, 8, 9, 10, 11, 12, 13, 14, 15, 16, 17, 18, 19, 20, 21, 22, 23, 26], [0, 1, 2, 3, 4, 5, 6, 7, 8, 9, 10, 11, 12, 13, 14, 15, 16, 17, 18, 19, 20, 21, 22, 23, 24, 25, 26, 27], [0, 1, 2, 3, 4, 5, 6, 7, 8, 9, 10, 11, 12, 13, 14, 15, 16, 17, 18, 19, 20, 21, 22, 23, 24, 25, 26, 27, 28]]
    []))⟩

def RC.ref06_ahead : RFn := ⟨2, [.slot 4],
  (.seq (.region [⟨some 2, none, .box (.t 0)⟩,
    ⟨some 3, none, .box (.t 1)⟩,
    ⟨some 4, none, .mov (.c (.bool false))⟩]
    [2, 3])
  (.seq (.region [⟨some 6, none, .fieldAddr 1 (.t 2)⟩,
    ⟨some 7, none, .load false 1 (.t 6)⟩,
    ⟨some 8, none, .fieldAddr 2 (.t 2)⟩,
    ⟨some 9, none, .load false 1 (.t 8)⟩,
    ⟨some 10, none, .fieldAddr 1 (.t 3)⟩,
    ⟨some 11, none, .load false 1 (.t 10)⟩,
    ⟨some 12, none, .fieldAddr 2 (.t 3)⟩,
    ⟨some 13, none, .load false 1 (.t 12)⟩,
    ⟨some 14, none, .call F.ref02_Compare [.t 7, .t 9, .t 11, .t 13]⟩,
    ⟨some 5, none, .mov (.t 14)⟩]
    [2, 3, 5])
  (.seq (.region [⟨some 15, none, .mov (.t 5)⟩,
    ⟨some 16, none, .bin .lss (.t 15) (.c (.int .i64 0))⟩,
    ⟨some 17, none, .mov (.t 16)⟩,
    ⟨some 18, some (17, false), .mov (.t 5)⟩,
    ⟨some 19, some (17, false), .bin .eql (.t 18) (.c (.int .i64 0))⟩,
    ⟨some 20, some (17, false), .mov (.t 19)⟩,
    ⟨some 21, some (20, true), .fieldAddr 0 (.t 2)⟩,
    ⟨some 22, some (20, true), .load false 1 (.t 21)⟩,
    ⟨some 23, some (20, true), .fieldAddr 0 (.t 3)⟩,
    ⟨some 24, some (20, true), .load false 1 (.t 23)⟩,
    ⟨some 25, some (20, true), .bin .lss (.t 22) (.t 24)⟩,
    ⟨some 26, some (17, false), .pick (.t 20) (.t 25) (.c (.bool false))⟩,
    ⟨some 27, none, .pick (.t 17) (.c (.bool true)) (.t 26)⟩,
    ⟨some 4, none, .mov (.t 27)⟩]
    [4])
  .ret)))⟩

def RC.ref02_Times : RFn := ⟨2, [.cell 4 true 2],
  (.seq (.region [⟨some 4, none, .alloc [(u64 0#64), (u64 0#64)]⟩]
    [0, 1, 4])
  (.seq (.region [⟨some 7, none, .build [(u64 0#64), (u64 0#64)] []⟩,
    ⟨some 5, none, .alloc [(u64 0#64), (u64 0#64)]⟩,
    ⟨none, none, .store 2 (.t 5) (.t 7)⟩]
    [0, 1, 4, 5])
  (.seq (.seq (.region [⟨some 6, none, .mov (.c (.int .i64 63))⟩]
    [0, 1, 4, 5, 6])
  (.block 0
    (.loop [0, 1, 4, 5, 6]
      (.seq (.seq (.region [⟨some 8, none, .mov (.t 6)⟩,
        ⟨some 9, none, .bin .geq (.t 8) (.c (.int .i64 0))⟩]
        [0, 1, 4, 5, 6, 9])
      (.cond (.t 9)
        .skip
        (.exit 0)))
      (.seq (.block 1
        (.seq (.region [⟨some 13, none, .load true 2 (.t 5)⟩,
          ⟨some 14, none, .call F.ref02_Twice [.t 13, .c (u64 0#64)]⟩,
          ⟨some 12, none, .mov (.t 14)⟩,
          ⟨some 15, none, .ext 0 (.t 12)⟩,
          ⟨some 16, none, .ext 1 (.t 12)⟩,
          ⟨none, none, .store 2 (.t 5) (.t 15)⟩]
          [0, 1, 4, 5, 6])
        (.seq (.region [⟨some 17, none, .mov (.t 1)⟩,
          ⟨some 18, none, .mov (.t 6)⟩,
          ⟨some 19, none, .conv .u64 (.t 18)⟩,
          ⟨some 20, none, .bin .shr (.t 17) (.t 19)⟩,
          ⟨some 21, none, .bin .and (.t 20) (.c (u64 1#64))⟩,
          ⟨some 22, none, .bin .eql (.t 21) (.c (u64 1#64))⟩]
          [0, 1, 4, 5, 6, 22])
        (.cond (.t 22)
          (.region [⟨some 23, none, .load true 2 (.t 5)⟩,
            ⟨some 24, none, .mov (.t 0)⟩,
            ⟨some 25, none, .build [(u64 0#64), (u64 0#64)] [(0, 1, .c (u64 0#64)), (1, 1, .t 24)]⟩,
            ⟨some 26, none, .call F.ref02_Sum [.t 23, .t 25]⟩,
            ⟨none, none, .store 2 (.t 5) (.t 26)⟩]
            [0, 1, 4, 5, 6])
          .skip))) [0, 1, 4, 5, 6])
      (.region [⟨some 10, none, .mov (.t 6)⟩,
        ⟨some 11, none, .bin .sub (.t 10) (.c (.int .i64 1))⟩,
        ⟨some 6, none, .mov (.t 11)⟩]
        [0, 1, 4, 5, 6])))) [4, 5]))
  (.seq (.region [⟨some 27, none, .load true 2 (.t 5)⟩,
    ⟨none, none, .store 2 (.t 4) (.t 27)⟩]
    [4])
  .ret))))⟩

def RC.heap_Heap_ahead : RFn := ⟨3, [.slot 6],
  (.seq (.region [⟨some 6, none, .mov (.c (.bool false))⟩]
    [0, 1, 2])
  (.seq (.drawn [⟨some 11, none, .mov (.t 0)⟩,
    ⟨some 12, none, .nilchk (.t 11)⟩,
    ⟨some 13, none, .fieldAddr 2 (.t 12)⟩,
    ⟨some 14, none, .load false 1 (.t 13)⟩,
    ⟨some 15, none, .mov (.t 1)⟩,
    ⟨some 16, none, .idxS 1 (.t 14) (.t 15)⟩,
    ⟨some 17, none, .load false 1 (.t 16)⟩,
    ⟨some 18, none, .mov (.t 0)⟩,
    ⟨some 19, none, .nilchk (.t 18)⟩,
    ⟨some 20, none, .fieldAddr 2 (.t 19)⟩,
    ⟨some 21, none, .load false 1 (.t 20)⟩,
    ⟨some 22, none, .mov (.t 2)⟩,
    ⟨some 23, none, .idxS 1 (.t 21) (.t 22)⟩,
    ⟨some 24, none, .load false 1 (.t 23)⟩,
    ⟨some 7, none, .mov (.t 17)⟩,
    ⟨some 8, none, .mov (.t 24)⟩]
    [[], [0], [1], [2], [], [3, 4], [5], [], [7], [8], [9], [], [10, 11], [12], [6, 0, 1, 2, 3, 4, 5, 6], [13, 14, 0, 1, 2, 3, 4, 5, 6, 7, 8, 9, 10, 11, 12, 13, 14]]
    [(0, []), (1, []), (2, []), (4, []), (7, []), (8, []), (9, []), (11, []), (3, []), (5, []), (6, []), (14, []), (10, []), (12, []), (13, []), (15, [])]
    [[], [0], [0, 1], [0, 1, 2], [], [0, 1, 2, 3, 4], [0, 1, 2, 3, 4, 5], [], [7], [7, 8], [7, 8, 9], [], [7, 8, 9, 10, 11], [7, 8, 9, 10, 11, 12], [0, 1, 2, 3, 4, 5, 6], [0, 1, 2, 3, 4, 5, 6, 7, 8, 9, 10, 11, 12, 13, 14]]
    [0, 7, 8])
  (.seq (.drawn [⟨some 26, none, .mov (.t 0)⟩,
    ⟨some 27, none, .nilchk (.t 26)⟩,
    ⟨some 28, none, .fieldAddr 0 (.t 27)⟩,
    ⟨some 29, none, .load false 1 (.t 28)⟩,
    ⟨some 30, none, .mov (.t 7)⟩,
    ⟨some 31, none, .idxS 2 (.t 29) (.t 30)⟩,
    ⟨some 32, none, .fieldAddr 0 (.t 31)⟩,
    ⟨some 33, none, .load false 1 (.t 32)⟩,
    ⟨some 34, none, .mov (.t 0)⟩,
    ⟨some 35, none, .nilchk (.t 34)⟩,
    ⟨some 36, none, .fieldAddr 0 (.t 35)⟩,
    ⟨some 37, none, .load false 1 (.t 36)⟩,
    ⟨some 38, none, .mov (.t 7)⟩,
    ⟨some 39, none, .idxS 2 (.t 37) (.t 38)⟩,
    ⟨some 40, none, .fieldAddr 1 (.t 39)⟩,
    ⟨some 41, none, .load false 1 (.t 40)⟩,
    ⟨some 42, none, .mov (.t 0)⟩,
    ⟨some 43, none, .nilchk (.t 42)⟩,
    ⟨some 44, none, .fieldAddr 0 (.t 43)⟩,
    ⟨some 45, none, .load false 1 (.t 44)⟩,
    ⟨some 46, none, .mov (.t 8)⟩,
    ⟨some 47, none, .idxS 2 (.t 45) (.t 46)⟩,
    ⟨some 48, none, .fieldAddr 0 (.t 47)⟩,
    ⟨some 49, none, .load false 1 (.t 48)⟩,
    ⟨some 50, none, .mov (.t 0)⟩,
    ⟨some 51, none, .nilchk (.t 50)⟩,
    ⟨some 52, none, .fieldAddr 0 (.t 51)⟩,
    ⟨some 53, none, .load false 1 (.t 52)⟩,
    ⟨some 54, none, .mov (.t 8)⟩,
    ⟨some 55, none, .idxS 2 (.t 53) (.t 54)⟩,
    ⟨some 56, none, .fieldAddr 1 (.t 55)⟩,
    ⟨some 57, none, .load false 1 (.t 56)⟩,
    ⟨some 58, none, .call F.fixq_Compare [.t 33, .t 41, .t 49, .t 57]⟩,
    ⟨some 25, none, .mov (.t 58)⟩,
    ⟨some 59, none, .ext 0 (.t 25)⟩,
    ⟨some 60, none, .ext 1 (.t 25)⟩,
    ⟨some 9, none, .mov (.t 59)⟩,
    ⟨some 10, none, .mov (.t 60)⟩]
    [[], [0], [1], [2], [], [3, 4], [5], [6], [], [8], [9], [10], [], [11, 12], [13], [14], [], [16], [17], [18], [], [19, 20], [21], [22], [], [24], [25], [26], [], [27, 28], [29], [30], [7, 15, 23, 31], [32], [33], [33], [34, 32, 0, 1, 2, 3, 4, 5, 6, 7, 8, 9, 10, 11, 12, 13, 14, 15, 16, 17, 18, 19, 20, 21, 22, 23, 24, 25, 26, 27, 28, 29, 30, 31, 32, 33, 34], [35, 36, 0, 1, 2, 3, 4, 5, 6, 7, 8, 9, 10, 11, 12, 13, 14, 15, 16, 17, 18, 19, 20, 21, 22, 23, 24, 25, 26, 27, 28, 29, 30, 31, 32, 33, 34, 35, 36]]
    [(0, []), (1, []), (2, []), (4, []), (8, []), (9, []), (10, []), (12, []), (16, []), (17, []), (18, []), (20, []), (24, []), (25, []), (26, []), (28, []), (3, []), (5, []), (6, []), (7, []), (11, []), (13, []), (14, []), (15, []), (19, []), (21, []), (22, []), (23, []), (27, []), (29, []), (30, []), (31, []), (32, []), (33, []), (34, []), (35, []), (36, []), (37, [])]
    [[], [0], [0, 1], [0, 1, 2], [], [0, 1, 2, 3, 4], [0, 1, 2, 3, 4, 5], [0, 1, 2, 3, 4, 5, 6], [], [8], [8, 9], [8, 9, 10], [], [8, 9, 10, 11, 12], [8, 9, 10, 11, 12, 13], [8, 9, 10, 11, 12, 13, 14], [], [16], [16, 17], [16, 17, 18], [], [16, 17, 18, 19, 20], [16, 17, 18, 19, 20, 21], [16, 17, 18, 19, 20, 21, 22], [], [24], [24, 25], [24, 25, 26], [], [24, 25, 26, 27, 28], [24, 25, 26, 27, 28, 29], [24, 25, 26, 27, 28, 29, 30], [0, 1, 2, 3, 4, 5, 6, 7, 8, 9, 10, 11, 12, 13, 14, 15, 16, 17, 18, 19, 20, 21, 22, 23, 24, 25, 26, 27, 28, 29, 30, 31], [0, 1, 2, 3, 4, 5, 6, 7, 8, 9, 10, 11, 12, 13, 14, 15, 16, 17, 18, 19, 20, 21, 22, 23, 24, 25, 26, 27, 28, 29, 30, 31, 32], [0, 1, 2, 3, 4, 5, 6, 7, 8, 9, 10, 11, 12, 13, 14, 15, 16, 17, 18, 19, 20, 21, 22, 23, 24, 25, 26, 27, 28, 29, 30, 31, 32, 33], [0, 1, 2, 3, 4, 5, 6, 7, 8, 9, 10, 11, 12, 13, 14, 15, 16, 17, 18, 19, 20, 21, 22, 23, 24, 25, 26, 27, 28, 29, 30, 31, 32, 33], [0, 1, 2, 3, 4, 5, 6, 7, 8, 9, 10, 11, 12, 13, 14, 15, 16, 17, 18, 19, 20, 21, 22, 23, 24, 25, 26, 27, 28, 29, 30, 31, 32, 33, 34], [0, 1, 2, 3, 4, 5, 6, 7, 8, 9, 10, 11, 12, 13, 14, 15, 16, 17, 18, 19, 20, 21, 22, 23, 24, 25, 26, 27, 28, 29, 30, 31, 32, 33, 34, 35, 36]]
    [7, 8, 9])
  (.seq (.region [⟨some 61, none, .mov (.t 9)⟩,
    ⟨some 62, none, .bin .lss (.t 61) (.c (.int .i64 0))⟩,
    ⟨some 63, none, .mov (.t 62)⟩,
    ⟨some 64, some (63, false), .mov (.t 9)⟩,
    ⟨some 65, some (63, false), .bin .eql (.t 64) (.c (.int .i64 0))⟩,
    ⟨some 66, some (63, false), .mov (.t 65)⟩,
    ⟨some 67, some (66, true), .mov (.t 7)⟩,
    ⟨some 68, some (66, true), .mov (.t 8)⟩,
    ⟨some 69, some (66, true), .bin .lss (.t 67) (.t 68)⟩,
    ⟨some 70, some (63, false), .pick (.t 66) (.t 69) (.c (.bool false))⟩,
    ⟨some 71, none, .pick (.t 63) (.c (.bool true)) (.t 70)⟩,
    ⟨some 6, none, .mov (.t 71)⟩]
    [6])
  .ret))))⟩

def RC.ref02_Twice : RFn := ⟨2, [.cell 4 true 2, .slot 5],
  (.seq (.region [⟨some 2, none, .box (.t 0)⟩,
    ⟨some 4, none, .alloc [(u64 0#64), (u64 0#64)]⟩,
    ⟨some 5, none, .mov (.c (.bool false))⟩]
    [1, 2, 4])
  (.seq (.drawn [⟨some 6, none, .fieldAddr 0 (.t 2)⟩,
    ⟨some 7, none, .load false 1 (.t 6)⟩,
    ⟨some 8, none, .bin .shl (.t 7) (.c (u64 1#64))⟩,
    ⟨some 9, none, .fieldAddr 1 (.t 2)⟩,
    ⟨some 10, none, .load false 1 (.t 9)⟩,
    ⟨some 11, none, .bin .shr (.t 10) (.c (u64 63#64))⟩,
    ⟨some 12, none, .bin .or (.t 8) (.t 11)⟩,
    ⟨some 13, none, .fieldAddr 1 (.t 2)⟩,
    ⟨some 14, none, .load false 1 (.t 13)⟩,
    ⟨some 15, none, .bin .shl (.t 14) (.c (u64 1#64))⟩,
    ⟨some 16, none, .mov (.t 1)⟩,
    ⟨some 17, none, .bin .or (.t 15) (.t 16)⟩,
    ⟨some 18, none, .build [(u64 0#64), (u64 0#64)] [(0, 1, .t 12), (1, 1, .t 17)]⟩,
    ⟨some 19, none, .fieldAddr 0 (.t 2)⟩,
    ⟨some 20, none, .load false 1 (.t 19)⟩,
    ⟨some 21, none, .bin .shr (.t 20) (.c (u64 63#64))⟩,
    ⟨some 22, none, .bin .eql (.t 21) (.c (u64 0#64))⟩,
    ⟨none, none, .store 2 (.t 4) (.t 18)⟩,
    ⟨some 5, none, .mov (.t 22)⟩]
    [[], [0], [1], [], [3], [4], [2, 5], [], [7], [8], [], [9, 10], [6, 11], [], [13], [14], [15], [12, 0, 1, 2, 3, 4, 5, 6, 7, 8, 9, 10, 11, 12], [16, 17, 0, 1, 2, 3, 4, 5, 6, 7, 8, 9, 10, 11, 12, 13, 14, 15, 16, 17]]
    [(0, []), (3, []), (7, []), (10, []), (13, []), (1, []), (2, []), (4, []), (5, []), (6, []), (8, []), (9, []), (11, []), (12, []), (14, []), (15, []), (16, []), (17, [19]), (18, [])]
    [[], [0], [0, 1], [], [3], [3, 4], [0, 1, 2, 3, 4, 5], [], [7], [7, 8], [], [7, 8, 9, 10], [0, 1, 2, 3, 4, 5, 6, 7, 8, 9, 10, 11], [], [13], [13, 14], [13, 14, 15], [0, 1, 2, 3, 4, 5, 6, 7, 8, 9, 10, 11, 12], [0, 1, 2, 3, 4, 5, 6, 7, 8, 9, 10, 11, 12, 13, 14, 15, 16, 17]]
    [4, 5])
  .ret))⟩

def RC.ref02_Sum : RFn := ⟨2, [.cell 4 true 2],
  (.seq (.region [⟨some 2, none, .box (.t 0)⟩,
    ⟨some 3, none, .box (.t 1)⟩,
    ⟨some 4, none, .alloc [(u64 0#64), (u64 0#64)]⟩]
    [2, 3, 4])
  (.seq (.region [⟨some 7, none, .fieldAddr 1 (.t 2)⟩,
    ⟨some 8, none, .load false 1 (.t 7)⟩,
    ⟨some 9, none, .fieldAddr 1 (.t 3)⟩,
    ⟨some 10, none, .load false 1 (.t 9)⟩,
    ⟨some 11, none, .bin .add (.t 8) (.t 10)⟩,
    ⟨some 5, none, .mov (.t 11)⟩]
    [2, 3, 4, 5])
  (.seq (.region [⟨some 12, none, .fieldAddr 0 (.t 2)⟩,
    ⟨some 13, none, .load false 1 (.t 12)⟩,
    ⟨some 14, none, .fieldAddr 0 (.t 3)⟩,
    ⟨some 15, none, .load false 1 (.t 14)⟩,
    ⟨some 16, none, .bin .add (.t 13) (.t 15)⟩,
    ⟨some 6, none, .mov (.t 16)⟩]
    [2, 4, 5, 6])
  (.seq (.seq (.region [⟨some 17, none, .mov (.t 5)⟩,
    ⟨some 18, none, .fieldAddr 1 (.t 2)⟩,
    ⟨some 19, none, .load false 1 (.t 18)⟩,
    ⟨some 20, none, .bin .lss (.t 17) (.t 19)⟩]
    [4, 5, 6, 20])
  (.cond (.t 20)
    (.region [⟨some 21, none, .mov (.t 6)⟩,
      ⟨some 22, none, .bin .add (.t 21) (.c (u64 1#64))⟩,
      ⟨some 6, none, .mov (.t 22)⟩]
      [4, 5, 6])
    .skip))
  (.seq (.region [⟨some 23, none, .mov (.t 6)⟩,
    ⟨some 24, none, .mov (.t 5)⟩,
    ⟨some 25, none, .build [(u64 0#64), (u64 0#64)] [(0, 1, .t 23), (1, 1, .t 24)]⟩,
    ⟨none, none, .store 2 (.t 4) (.t 25)⟩]
    [4])
  .ret)))))⟩

def RC.fixq_Compare : RFn := ⟨4, [.slot 8, .slot 9],
  (.seq (.region [⟨some 8, none, .mov (.c (.int .i64 0))⟩,
    ⟨some 9, none, .mov (.c (.int .i64 0))⟩]
    [0, 1, 2, 3])
  (.seq (.seq (.region [⟨some 14, none, .mov (.t 1)⟩,
    ⟨some 15, none, .bin .eql (.t 14) (.c (u64 0#64))⟩,
    ⟨some 16, none, .mov (.t 15)⟩,
    ⟨some 17, some (16, false), .mov (.t 3)⟩,
    ⟨some 18, some (16, false), .bin .eql (.t 17) (.c (u64 0#64))⟩,
    ⟨some 19, none, .pick (.t 16) (.c (.bool true)) (.t 18)⟩]
    [0, 1, 2, 3, 19])
  (.cond (.t 19)
    (.seq (.region [⟨some 8, none, .mov (.c (.int .i64 0))⟩,
      ⟨some 9, none, .mov (.c (.int .i64 1))⟩]
      [8, 9])
    .ret)
    .skip))
  (.seq (.region [⟨some 21, none, .mov (.t 0)⟩,
    ⟨some 22, none, .mov (.t 3)⟩,
    ⟨some 23, none, .call F.math_bits_Mul64 [.t 21, .t 22]⟩,
    ⟨some 20, none, .mov (.t 23)⟩,
    ⟨some 24, none, .ext 0 (.t 20)⟩,
    ⟨some 25, none, .ext 1 (.t 20)⟩,
    ⟨some 10, none, .mov (.t 24)⟩,
    ⟨some 11, none, .mov (.t 25)⟩]
    [1, 2, 10, 11])
  (.seq (.region [⟨some 27, none, .mov (.t 2)⟩,
    ⟨some 28, none, .mov (.t 1)⟩,
    ⟨some 29, none, .call F.math_bits_Mul64 [.t 27, .t 28]⟩,
    ⟨some 26, none, .mov (.t 29)⟩,
    ⟨some 30, none, .ext 0 (.t 26)⟩,
    ⟨some 31, none, .ext 1 (.t 26)⟩,
    ⟨some 12, none, .mov (.t 30)⟩,
    ⟨some 13, none, .mov (.t 31)⟩]
    [10, 11, 12, 13])
  (.seq (.block 0
    (.seq (.region [⟨some 33, none, .mov (.t 10)⟩,
      ⟨some 34, none, .mov (.t 12)⟩,
      ⟨some 35, none, .bin .lss (.t 33) (.t 34)⟩,
      ⟨some 36, none, .mov (.t 35)⟩,
      ⟨some 37, some (36, false), .mov (.t 10)⟩,
      ⟨some 38, some (36, false), .mov (.t 12)⟩,
      ⟨some 39, some (36, false), .bin .eql (.t 37) (.t 38)⟩,
      ⟨some 40, some (36, false), .mov (.t 39)⟩,
      ⟨some 41, some (40, true), .mov (.t 11)⟩,
      ⟨some 42, some (40, true), .mov (.t 13)⟩,
      ⟨some 43, some (40, true), .bin .lss (.t 41) (.t 42)⟩,
      ⟨some 44, some (36, false), .pick (.t 40) (.t 43) (.c (.bool false))⟩,
      ⟨some 45, none, .pick (.t 36) (.c (.bool true)) (.t 44)⟩,
      ⟨some 32, none, .mov (.t 45)⟩]
      [10, 11, 12, 13, 32])
    (.cond (.t 32)
      (.seq (.region [⟨some 8, none, .mov (.c (.int .i64 (-1)))⟩,
        ⟨some 9, none, .mov (.c (.int .i64 0))⟩]
        [8, 9])
      .ret)
      (.seq (.region [⟨some 47, none, .mov (.t 10)⟩,
        ⟨some 48, none, .mov (.t 12)⟩,
        ⟨some 49, none, .bin .eql (.t 47) (.t 48)⟩,
        ⟨some 50, none, .mov (.t 49)⟩,
        ⟨some 51, some (50, true), .mov (.t 11)⟩,
        ⟨some 52, some (50, true), .mov (.t 13)⟩,
        ⟨some 53, some (50, true), .bin .eql (.t 51) (.t 52)⟩,
        ⟨some 54, none, .pick (.t 50) (.t 53) (.c (.bool false))⟩,
        ⟨some 46, none, .mov (.t 54)⟩]
        [46])
      (.cond (.t 46)
        (.seq (.region [⟨some 8, none, .mov (.c (.int .i64 0))⟩,
          ⟨some 9, none, .mov (.c (.int .i64 0))⟩]
          [8, 9])
        .ret)
        .skip)))) [])
  (.seq (.region [⟨some 8, none, .mov (.c (.int .i64 1))⟩,
    ⟨some 9, none, .mov (.c (.int .i64 0))⟩]
    [8, 9])
  .ret))))))⟩

def RC.math_bits_Mul64 : RFn := ⟨2, [.slot 4, .slot 5],
  (.seq (.region [⟨some 4, none, .mov (.c (u64 0#64))⟩,
    ⟨some 5, none, .mov (.c (u64 0#64))⟩]
    [0, 1])
  (.seq (.region [⟨some 14, none, .mov (.t 0)⟩,
    ⟨some 15, none, .bin .and (.t 14) (.c (u64 4294967295#64))⟩,
    ⟨some 6, none, .mov (.t 15)⟩]
    [0, 1, 6])
  (.seq (.region [⟨some 16, none, .mov (.t 0)⟩,
    ⟨some 17, none, .bin .shr (.t 16) (.c (u64 32#64))⟩,
    ⟨some 7, none, .mov (.t 17)⟩]
    [0, 1, 6, 7])
  (.seq (.region [⟨some 18, none, .mov (.t 1)⟩,
    ⟨some 19, none, .bin .and (.t 18) (.c (u64 4294967295#64))⟩,
    ⟨some 8, none, .mov (.t 19)⟩]
    [0, 1, 6, 7, 8])
  (.seq (.region [⟨some 20, none, .mov (.t 1)⟩,
    ⟨some 21, none, .bin .shr (.t 20) (.c (u64 32#64))⟩,
    ⟨some 9, none, .mov (.t 21)⟩]
    [0, 1, 6, 7, 8, 9])
  (.seq (.region [⟨some 22, none, .mov (.t 6)⟩,
    ⟨some 23, none, .mov (.t 8)⟩,
    ⟨some 24, none, .bin .mul (.t 22) (.t 23)⟩,
    ⟨some 10, none, .mov (.t 24)⟩]
    [0, 1, 6, 7, 8, 9, 10])
  (.seq (.region [⟨some 25, none, .mov (.t 7)⟩,
    ⟨some 26, none, .mov (.t 8)⟩,
    ⟨some 27, none, .bin .mul (.t 25) (.t 26)⟩,
    ⟨some 28, none, .mov (.t 10)⟩,
    ⟨some 29, none, .bin .shr (.t 28) (.c (u64 32#64))⟩,
    ⟨some 30, none, .bin .add (.t 27) (.t 29)⟩,
    ⟨some 11, none, .mov (.t 30)⟩]
    [0, 1, 6, 7, 9, 11])
  (.seq (.region [⟨some 31, none, .mov (.t 11)⟩,
    ⟨some 32, none, .bin .and (.t 31) (.c (u64 4294967295#64))⟩,
    ⟨some 12, none, .mov (.t 32)⟩]
    [0, 1, 6, 7, 9, 11, 12])
  (.seq (.region [⟨some 33, none, .mov (.t 11)⟩,
    ⟨some 34, none, .bin .shr (.t 33) (.c (u64 32#64))⟩,
    ⟨some 13, none, .mov (.t 34)⟩]
    [0, 1, 6, 7, 9, 12, 13])
  (.seq (.region [⟨some 35, none, .mov (.t 12)⟩,
    ⟨some 36, none, .mov (.t 6)⟩,
    ⟨some 37, none, .mov (.t 9)⟩,
    ⟨some 38, none, .bin .mul (.t 36) (.t 37)⟩,
    ⟨some 39, none, .bin .add (.t 35) (.t 38)⟩,
    ⟨some 12, none, .mov (.t 39)⟩]
    [0, 1, 7, 9, 12, 13])
  (.seq (.region [⟨some 40, none, .mov (.t 7)⟩,
    ⟨some 41, none, .mov (.t 9)⟩,
    ⟨some 42, none, .bin .mul (.t 40) (.t 41)⟩,
    ⟨some 43, none, .mov (.t 13)⟩,
    ⟨some 44, none, .bin .add (.t 42) (.t 43)⟩,
    ⟨some 45, none, .mov (.t 12)⟩,
    ⟨some 46, none, .bin .shr (.t 45) (.c (u64 32#64))⟩,
    ⟨some 47, none, .bin .add (.t 44) (.t 46)⟩,
    ⟨some 4, none, .mov (.t 47)⟩]
    [0, 1, 4])
  (.seq (.region [⟨some 48, none, .mov (.t 0)⟩,
    ⟨some 49, none, .mov (.t 1)⟩,
    ⟨some 50, none, .bin .mul (.t 48) (.t 49)⟩,
    ⟨some 5, none, .mov (.t 50)⟩]
    [4, 5])
  .ret))))))))))))⟩

def tab0 : List (Nat × FEnt) := [(F.law06_HeapPlays, .rc RC.law06_HeapPlays),
  (F.law06_HeapSorts, .rc RC.law06_HeapSorts),
  (F.law06_HeapNobody, .rc RC.law06_HeapNobody),
  (F.heap_New, .rc RC.heap_New),
  (F.law06_awake, .rc RC.law06_awake),
  (F.ref06_Put, .rc RC.ref06_Put),
  (F.heap_Heap_Put, .rc RC.heap_Heap_Put),
  (F.ref06_Remove, .rc RC.ref06_Remove),
  (F.heap_Heap_Remove, .rc RC.heap_Heap_Remove),
  (F.ref06_Min, .rc RC.ref06_Min),
  (F.heap_Heap_Pop, .rc RC.heap_Heap_Pop),
  (F.heap_Heap_Min, .rc RC.heap_Heap_Min),
  (F.heap_Heap_Key, .rc RC.heap_Heap_Key),
  (F.ref06_Key, .rc RC.ref06_Key),
  (F.heap_Heap_Len, .rc RC.heap_Heap_Len),
  (F.ref02_Compare, .rc RC.ref02_Compare),
  (F.heap_Heap_up, .rc RC.heap_Heap_up),
  (F.heap_Heap_down, .rc RC.heap_Heap_down),
  (F.heap_Heap_has, .rc RC.heap_Heap_has),
  (F.heap_Heap_swap, .rc RC.heap_Heap_swap),
  (F.ref06_ahead, .rc RC.ref06_ahead),
  (F.ref02_Times, .rc RC.ref02_Times),
  (F.heap_Heap_ahead, .rc RC.heap_Heap_ahead),
  (F.ref02_Twice, .rc RC.ref02_Twice),
  (F.ref02_Sum, .rc RC.ref02_Sum),
  (F.fixq_Compare, .rc RC.fixq_Compare),
  (F.math_bits_Mul64, .rc RC.math_bits_Mul64)]
/-- What each number stands for. -/
def R0 : Nat → Option FEnt := lookF tab0
/-- The same, with the examples as known. -/
def tab : List (Nat × FEnt) := (F.law06_awake, .ext X.ok) :: tab0
def R : Nat → Option FEnt := lookF tab
theorem R.law06_awake : R F.law06_awake = some (.ext X.ok) := by with_unfolding_all rfl
theorem R.law06_HeapPlays : R F.law06_HeapPlays = some (.rc RC.law06_HeapPlays) := by with_unfolding_all rfl
theorem R.law06_HeapSorts : R F.law06_HeapSorts = some (.rc RC.law06_HeapSorts) := by with_unfolding_all rfl
theorem R.law06_HeapNobody : R F.law06_HeapNobody = some (.rc RC.law06_HeapNobody) := by with_unfolding_all rfl
theorem R.heap_New : R F.heap_New = some (.rc RC.heap_New) := by with_unfolding_all rfl
theorem R.ref06_Put : R F.ref06_Put = some (.rc RC.ref06_Put) := by with_unfolding_all rfl
theorem R.heap_Heap_Put : R F.heap_Heap_Put = some (.rc RC.heap_Heap_Put) := by with_unfolding_all rfl
theorem R.ref06_Remove : R F.ref06_Remove = some (.rc RC.ref06_Remove) := by with_unfolding_all rfl
theorem R.heap_Heap_Remove : R F.heap_Heap_Remove = some (.rc RC.heap_Heap_Remove) := by with_unfolding_all rfl
theorem R.ref06_Min : R F.ref06_Min = some (.rc RC.ref06_Min) := by with_unfolding_all rfl
theorem R.heap_Heap_Pop : R F.heap_Heap_Pop = some (.rc RC.heap_Heap_Pop) := by with_unfolding_all rfl
theorem R.heap_Heap_Min : R F.heap_Heap_Min = some (.rc RC.heap_Heap_Min) := by with_unfolding_all rfl
theorem R.heap_Heap_Key : R F.heap_Heap_Key = some (.rc RC.heap_Heap_Key) := by with_unfolding_all rfl
theorem R.ref06_Key : R F.ref06_Key = some (.rc RC.ref06_Key) := by with_unfolding_all rfl
theorem R.heap_Heap_Len : R F.heap_Heap_Len = some (.rc RC.heap_Heap_Len) := by with_unfolding_all rfl
theorem R.ref02_Compare : R F.ref02_Compare = some (.rc RC.ref02_Compare) := by with_unfolding_all rfl
theorem R.heap_Heap_up : R F.heap_Heap_up = some (.rc RC.heap_Heap_up) := by with_unfolding_all rfl
theorem R.heap_Heap_down : R F.heap_Heap_down = some (.rc RC.heap_Heap_down) := by with_unfolding_all rfl
theorem R.heap_Heap_has : R F.heap_Heap_has = some (.rc RC.heap_Heap_has) := by with_unfolding_all rfl
theorem R.heap_Heap_swap : R F.heap_Heap_swap = some (.rc RC.heap_Heap_swap) := by with_unfolding_all rfl
theorem R.ref06_ahead : R F.ref06_ahead = some (.rc RC.ref06_ahead) := by with_unfolding_all rfl
theorem R.ref02_Times : R F.ref02_Times = some (.rc RC.ref02_Times) := by with_unfolding_all rfl
theorem R.heap_Heap_ahead : R F.heap_Heap_ahead = some (.rc RC.heap_Heap_ahead) := by with_unfolding_all rfl
theorem R.ref02_Twice : R F.ref02_Twice = some (.rc RC.ref02_Twice) := by with_unfolding_all rfl
theorem R.ref02_Sum : R F.ref02_Sum = some (.rc RC.ref02_Sum) := by with_unfolding_all rfl
theorem R.fixq_Compare : R F.fixq_Compare = some (.rc RC.fixq_Compare) := by with_unfolding_all rfl
theorem R.math_bits_Mul64 : R F.math_bits_Mul64 = some (.rc RC.math_bits_Mul64) := by with_unfolding_all rfl
end Go.Am


/- The table of the layer heap is as the program has it. Printed by lawgen.py. -/
namespace Go.Am
open Go.Proofs
set_option maxRecDepth 100000

/-- Nothing is asked of the world. -/
def G : Nat → World → Prop := fun _ _ => True
instance : Keeps G := ⟨fun _ _ _ _ h => h⟩
instance : Rises G := ⟨fun _ _ _ _ h => h⟩
theorem hmix : Try.prog.follows .mixedOrders = true := by kernel_rfl
theorem E.law06_HeapPlays : EntOk Try.prog G F.law06_HeapPlays (.rc RC.law06_HeapPlays) := ⟨Try.f3, by unfold F.law06_HeapPlays; exact Try.func3, by kernel_rfl, by kernel_rfl⟩
theorem E.law06_HeapSorts : EntOk Try.prog G F.law06_HeapSorts (.rc RC.law06_HeapSorts) := ⟨Try.f4, by unfold F.law06_HeapSorts; exact Try.func4, by kernel_rfl, by kernel_rfl⟩
theorem E.law06_HeapNobody : EntOk Try.prog G F.law06_HeapNobody (.rc RC.law06_HeapNobody) := ⟨Try.f5, by unfold F.law06_HeapNobody; exact Try.func5, by kernel_rfl, by kernel_rfl⟩
theorem E.heap_New : EntOk Try.prog G F.heap_New (.rc RC.heap_New) := ⟨Try.f6, by unfold F.heap_New; exact Try.func6, by kernel_rfl, by kernel_rfl⟩
theorem E.law06_awake : EntOk Try.prog G F.law06_awake (.rc RC.law06_awake) := ⟨Try.f7, by unfold F.law06_awake; exact Try.func7, by kernel_rfl, by kernel_rfl⟩
theorem E.ref06_Put : EntOk Try.prog G F.ref06_Put (.rc RC.ref06_Put) := ⟨Try.f8, by unfold F.ref06_Put; exact Try.func8, by kernel_rfl, by kernel_rfl⟩
theorem E.heap_Heap_Put : EntOk Try.prog G F.heap_Heap_Put (.rc RC.heap_Heap_Put) := ⟨Try.f9, by unfold F.heap_Heap_Put; exact Try.func9, by kernel_rfl, by kernel_rfl⟩
theorem E.ref06_Remove : EntOk Try.prog G F.ref06_Remove (.rc RC.ref06_Remove) := ⟨Try.f10, by unfold F.ref06_Remove; exact Try.func10, by kernel_rfl, by kernel_rfl⟩
theorem E.heap_Heap_Remove : EntOk Try.prog G F.heap_Heap_Remove (.rc RC.heap_Heap_Remove) := ⟨Try.f11, by unfold F.heap_Heap_Remove; exact Try.func11, by kernel_rfl, by kernel_rfl⟩
theorem E.ref06_Min : EntOk Try.prog G F.ref06_Min (.rc RC.ref06_Min) := ⟨Try.f12, by unfold F.ref06_Min; exact Try.func12, by kernel_rfl, by kernel_rfl⟩
theorem E.heap_Heap_Pop : EntOk Try.prog G F.heap_Heap_Pop (.rc RC.heap_Heap_Pop) := ⟨Try.f13, by unfold F.heap_Heap_Pop; exact Try.func13, by kernel_rfl, by kernel_rfl⟩
theorem E.heap_Heap_Min : EntOk Try.prog G F.heap_Heap_Min (.rc RC.heap_Heap_Min) := ⟨Try.f14, by unfold F.heap_Heap_Min; exact Try.func14, by kernel_rfl, by kernel_rfl⟩
theorem E.heap_Heap_Key : EntOk Try.prog G F.heap_Heap_Key (.rc RC.heap_Heap_Key) := ⟨Try.f15, by unfold F.heap_Heap_Key; exact Try.func15, by kernel_rfl, by kernel_rfl⟩
theorem E.ref06_Key : EntOk Try.prog G F.ref06_Key (.rc RC.ref06_Key) := ⟨Try.f16, by unfold F.ref06_Key; exact Try.func16, by kernel_rfl, by kernel_rfl⟩
theorem E.heap_Heap_Len : EntOk Try.prog G F.heap_Heap_Len (.rc RC.heap_Heap_Len) := ⟨Try.f17, by unfold F.heap_Heap_Len; exact Try.func17, by kernel_rfl, by kernel_rfl⟩
theorem E.ref02_Compare : EntOk Try.prog G F.ref02_Compare (.rc RC.ref02_Compare) := ⟨Try.f18, by unfold F.ref02_Compare; exact Try.func18, by kernel_rfl, by kernel_rfl⟩
theorem E.heap_Heap_up : EntOk Try.prog G F.heap_Heap_up (.rc RC.heap_Heap_up) := ⟨Try.f19, by unfold F.heap_Heap_up; exact Try.func19, by kernel_rfl, by kernel_rfl⟩
theorem E.heap_Heap_down : EntOk Try.prog G F.heap_Heap_down (.rc RC.heap_Heap_down) := ⟨Try.f20, by unfold F.heap_Heap_down; exact Try.func20, by kernel_rfl, by kernel_rfl⟩
theorem E.heap_Heap_has : EntOk Try.prog G F.heap_Heap_has (.rc RC.heap_Heap_has) := ⟨Try.f21, by unfold F.heap_Heap_has; exact Try.func21, by kernel_rfl, by kernel_rfl⟩
theorem E.heap_Heap_swap : EntOk Try.prog G F.heap_Heap_swap (.rc RC.heap_Heap_swap) := ⟨Try.f22, by unfold F.heap_Heap_swap; exact Try.func22, by kernel_rfl, by kernel_rfl⟩
theorem E.ref06_ahead : EntOk Try.prog G F.ref06_ahead (.rc RC.ref06_ahead) := ⟨Try.f23, by unfold F.ref06_ahead; exact Try.func23, by kernel_rfl, by kernel_rfl⟩
theorem E.ref02_Times : EntOk Try.prog G F.ref02_Times (.rc RC.ref02_Times) := ⟨Try.f24, by unfold F.ref02_Times; exact Try.func24, by kernel_rfl, by kernel_rfl⟩
theorem E.heap_Heap_ahead : EntOk Try.prog G F.heap_Heap_ahead (.rc RC.heap_Heap_ahead) := ⟨Try.f25, by unfold F.heap_Heap_ahead; exact Try.func25, by kernel_rfl, by kernel_rfl⟩
theorem E.ref02_Twice : EntOk Try.prog G F.ref02_Twice (.rc RC.ref02_Twice) := ⟨Try.f26, by unfold F.ref02_Twice; exact Try.func26, by kernel_rfl, by kernel_rfl⟩
theorem E.ref02_Sum : EntOk Try.prog G F.ref02_Sum (.rc RC.ref02_Sum) := ⟨Try.f27, by unfold F.ref02_Sum; exact Try.func27, by kernel_rfl, by kernel_rfl⟩
theorem E.fixq_Compare : EntOk Try.prog G F.fixq_Compare (.rc RC.fixq_Compare) := ⟨Try.f28, by unfold F.fixq_Compare; exact Try.func28, by kernel_rfl, by kernel_rfl⟩
theorem E.math_bits_Mul64 : EntOk Try.prog G F.math_bits_Mul64 (.rc RC.math_bits_Mul64) := ⟨Try.f29, by unfold F.math_bits_Mul64; exact Try.func29, by kernel_rfl, by kernel_rfl⟩
theorem ents : EntsOk Try.prog G tab0 := ⟨E.law06_HeapPlays, E.law06_HeapSorts, E.law06_HeapNobody, E.heap_New, E.law06_awake, E.ref06_Put, E.heap_Heap_Put, E.ref06_Remove, E.heap_Heap_Remove, E.ref06_Min, E.heap_Heap_Pop, E.heap_Heap_Min, E.heap_Heap_Key, E.ref06_Key, E.heap_Heap_Len, E.ref02_Compare, E.heap_Heap_up, E.heap_Heap_down, E.heap_Heap_has, E.heap_Heap_swap, E.ref06_ahead, E.ref02_Times, E.heap_Heap_ahead, E.ref02_Twice, E.ref02_Sum, E.fixq_Compare, E.math_bits_Mul64, trivial⟩
theorem tabOk0 : TabOk Try.prog G R0 := TabOk.of ents
theorem C.law06_awake : EntOk Try.prog G F.law06_awake (.ext X.ok) := X.ok_sim (const_sim hmix tabOk0 (n := 1000) (by kernel_rfl))
theorem tabOk : TabOk Try.prog G R := TabOk.of (l := tab) (⟨C.law06_awake, ents⟩)
end Go.Am


/- Blocks, by their numbers: loads and stores as what they do to a block's cells. -/
set_option linter.unusedVariables false
namespace Go.Am

def ldW : Option AObj → Nat → Option Value
  | some (.cells c _), o => c[o]?
  | _, _ => none
def ldA : Option AObj → Nat → Nat → Option Value
  | some (.cells c _), o, sz => if o + sz ≤ c.length then some (.agg ((c.drop o).take sz).toArray) else none
  | _, _, _ => none
def stB (m : Mem) (b : Nat) : Option AObj → Nat → List Value → Option Mem
  | some (.cells c (some u)), o, vs => if o + vs.length ≤ c.length ∧ oneCells vs = true then some (m.set b (some (.cells (writeL c o vs) (some u)))) else none
  | _, _, _ => none

theorem ldW_c {c : List Value} {own : Option Nat} {o : Nat} : ldW (some (.cells c own)) o = c[o]? := rfl
theorem ldA_c {c : List Value} {own : Option Nat} {o sz : Nat} : ldA (some (.cells c own)) o sz = if o + sz ≤ c.length then some (.agg ((c.drop o).take sz).toArray) else none := rfl
theorem stB_c {m : Mem} {b u o : Nat} {c vs : List Value} : stB m b (some (.cells c (some u))) o vs = if o + vs.length ≤ c.length ∧ oneCells vs = true then some (m.set b (some (.cells (writeL c o vs) (some u)))) else none := rfl

theorem load_w {m : Mem} {sz b o : Nat} : aLoad false sz m (.pointer (some ⟨b, o, none⟩)) = ldW (m.blk b) o := by
  simp only [aLoad, Bool.false_eq_true, if_false]
  unfold ldW
  split <;> simp_all
theorem load_a {m : Mem} {sz b o : Nat} : aLoad true sz m (.pointer (some ⟨b, o, none⟩)) = ldA (m.blk b) o sz := by
  simp only [aLoad, if_true]
  unfold ldA
  split <;> simp_all
theorem store_b {m : Mem} {sz b o : Nat} {v : Value} : aStore sz m (.pointer (some ⟨b, o, none⟩)) v = if v.cells.size = sz then stB m b (m.blk b) o v.cells.toList else none := by
  simp only [aStore]
  split
  · unfold aWrite stB
    split <;> simp_all
  · rfl
theorem idxS_b {u b o n c : Nat} {k : IntKind} {i : Int} : aIdxS u (.slice (some ⟨b, o, none⟩) n c) (.int k i) = if 0 ≤ i ∧ i < n then some (.pointer (some ⟨b, o + i.toNat * u, none⟩)) else none := rfl
theorem set_blk {m : Mem} {b k : Nat} {o : Option AObj} : (m.set b o).blk k = if k = b then o else m.blk k := rfl
theorem new_blk {m : Mem} {k : Nat} {o : AObj} : (m.new o).blk k = if k = m.next then some o else m.blk k := rfl
theorem set_next {m : Mem} {b : Nat} {o : Option AObj} : (m.set b o).next = m.next := rfl
theorem new_next {m : Mem} {o : AObj} : (m.new o).next = m.next + 1 := rfl
theorem len_s {a : Option Addr} {n c : Nat} : aLen (.slice a n c) = some (.int .i64 n) := rfl
theorem writeL_one {cs : List Value} {i : Nat} {v : Value} (h : i < cs.length) : writeL cs i [v] = cs.set i v := writeL_set h
theorem toArr_one {v : Value} : (#[v] : Array Value).toList = [v] := rfl
theorem size_one {v : Value} : (#[v] : Array Value).size = 1 := rfl
theorem toList_toArr {l : List Value} : l.toArray.toList = l := rfl
theorem size_toArr {l : List Value} : l.toArray.size = l.length := by simp

/-- What is at these blocks may have changed; all else is as it was. -/
structure Upd (m m' : Mem) (fp : List Nat) : Prop where
  next : m.next ≤ m'.next
  same : ∀ b, b < m.next → b ∉ fp → m'.blk b = m.blk b

theorem Upd.refl (m : Mem) (fp : List Nat) : Upd m m fp := ⟨Nat.le_refl _, fun _ _ _ => rfl⟩
theorem Upd.trans {a b c : Mem} {fp fq fr : List Nat} (h : Upd a b fp) (k : Upd b c fq) (h1 : ∀ x ∈ fp, x ∈ fr) (h2 : ∀ x ∈ fq, x ∈ fr ∨ a.next ≤ x) : Upd a c fr :=
  ⟨Nat.le_trans h.next k.next, fun x hx hn => by
    rw [k.same x (Nat.lt_of_lt_of_le hx h.next) (fun hm => by rcases h2 x hm with h3 | h3; exact hn h3; omega), h.same x hx (fun hm => hn (h1 x hm))]⟩
theorem Ext.upd {m m' : Mem} (h : Ext m m') {fp : List Nat} : Upd m m' fp := ⟨h.next, fun b hb _ => h.same b hb⟩
theorem Upd.ext {m m' : Mem} (h : Upd m m' []) : Ext m m' := ⟨h.next, fun b hb => h.same b hb (by simp)⟩
theorem Upd.set {m : Mem} {b : Nat} {o : Option AObj} {fp : List Nat} (h : b ∈ fp) : Upd m (m.set b o) fp :=
  ⟨Nat.le_refl _, fun x hx hn => by rw [set_blk, if_neg (fun e => hn (by rw [e]; exact h))]⟩
/-- Only blocks from some number on have changed. -/
theorem Upd.ext_of {m0 m m' : Mem} {fp : List Nat} (h0 : Ext m0 m) (h : Upd m m' fp) (hf : ∀ x ∈ fp, m0.next ≤ x) : Ext m0 m' :=
  ⟨Nat.le_trans h0.next h.next, fun b hb => by
    rw [h.same b (Nat.lt_of_lt_of_le hb h0.next) (fun hm => by have := hf b hm; omega), h0.same b hb]⟩
end Go.Am


/- The law HeapNobody. -/
set_option linter.unusedVariables false
set_option linter.unusedSimpArgs false
namespace Go.Am

variable {m : Mem}

/-- A heap that nobody made. -/
def Nob (m : Mem) (p : Value) : Prop := p = .pointer none ∨ ∃ b, p = .pointer (some ⟨b, 0, none⟩) ∧ m.blk b = some (.cells [.slice none 0 0, .slice none 0 0, .slice none 0 0] (some 3))

theorem Len_nob {p : Value} (h : Nob m p) : WC R F.heap_Heap_Len [p] m fun v m' => v = .int .i64 0 ∧ m' = m := by
  refine WC.of R.heap_Heap_Len rfl ?_
  rcases h with rfl | ⟨b, rfl, hb⟩
  · simp only [RC.heap_Heap_Len, go_sem, not_true_eq_false, beq_self_eq_true, bne_self_eq_false, Bool.false_eq_true, if_false, if_true, Int.cast_ofNat_Int, decide_true, decide_false, reduceCtorEq, Nat.reduceEqDiff, Nat.reduceAdd, ne_eq, not_false_eq_true, Option.map_some, Option.bind_some, Option.map_none, Option.bind_none, true_and, and_true, Bool.not_true, Bool.not_false, Nat.reduceLeDiff, Nat.reduceMul, Nat.reduceSub, Nat.le_refl, Int.reduceToNat, Int.reduceLT, Int.reduceLE, Nat.one_mul, Nat.mul_one, load_w, load_a, store_b, idxS_b, set_blk, new_blk, set_next, new_next, len_s, ldW_c, ldA_c, stB_c, toArr_one, size_one, toList_toArr, size_toArr, List.length_cons, List.length_nil, List.getElem?_cons_zero, List.getElem?_cons_succ, Nat.zero_add, Nat.add_zero, Option.isNone_none]
  · simp only [RC.heap_Heap_Len, go_sem, not_true_eq_false, beq_self_eq_true, bne_self_eq_false, Bool.false_eq_true, if_false, if_true, Int.cast_ofNat_Int, decide_true, decide_false, reduceCtorEq, Nat.reduceEqDiff, Nat.reduceAdd, ne_eq, not_false_eq_true, Option.map_some, Option.bind_some, Option.map_none, Option.bind_none, true_and, and_true, Bool.not_true, Bool.not_false, Nat.reduceLeDiff, Nat.reduceMul, Nat.reduceSub, Nat.le_refl, Int.reduceToNat, Int.reduceLT, Int.reduceLE, Nat.one_mul, Nat.mul_one, load_w, load_a, store_b, idxS_b, set_blk, new_blk, set_next, new_next, len_s, ldW_c, ldA_c, stB_c, toArr_one, size_one, toList_toArr, size_toArr, List.length_cons, List.length_nil, List.getElem?_cons_zero, List.getElem?_cons_succ, Nat.zero_add, Nat.add_zero, hb]

theorem has_nob {p : Value} {id : Int} (h : Nob m p) : WC R F.heap_Heap_has [p, .int .i64 id] m fun v m' => v = .bool false ∧ m' = m := by
  refine WC.of R.heap_Heap_has rfl ?_
  rcases h with rfl | ⟨b, rfl, hb⟩
  · simp only [RC.heap_Heap_has, go_sem, not_true_eq_false, beq_self_eq_true, bne_self_eq_false, Bool.false_eq_true, if_false, if_true, Int.cast_ofNat_Int, decide_true, decide_false, reduceCtorEq, Nat.reduceEqDiff, Nat.reduceAdd, ne_eq, not_false_eq_true, Option.map_some, Option.bind_some, Option.map_none, Option.bind_none, true_and, and_true, Bool.not_true, Bool.not_false, Nat.reduceLeDiff, Nat.reduceMul, Nat.reduceSub, Nat.le_refl, Int.reduceToNat, Int.reduceLT, Int.reduceLE, Nat.one_mul, Nat.mul_one, load_w, load_a, store_b, idxS_b, set_blk, new_blk, set_next, new_next, len_s, ldW_c, ldA_c, stB_c, toArr_one, size_one, toList_toArr, size_toArr, List.length_cons, List.length_nil, List.getElem?_cons_zero, List.getElem?_cons_succ, Nat.zero_add, Nat.add_zero, Option.isNone_none]
  simp only [RC.heap_Heap_has, go_sem, not_true_eq_false, beq_self_eq_true, bne_self_eq_false, Bool.false_eq_true, if_false, if_true, Int.cast_ofNat_Int, decide_true, decide_false, reduceCtorEq, Nat.reduceEqDiff, Nat.reduceAdd, ne_eq, not_false_eq_true, Option.map_some, Option.bind_some, Option.map_none, Option.bind_none, true_and, and_true, Bool.not_true, Bool.not_false, Nat.reduceLeDiff, Nat.reduceMul, Nat.reduceSub, Nat.le_refl, Int.reduceToNat, Int.reduceLT, Int.reduceLE, Nat.one_mul, Nat.mul_one, load_w, load_a, store_b, idxS_b, set_blk, new_blk, set_next, new_next, len_s, ldW_c, ldA_c, stB_c, toArr_one, size_one, toList_toArr, size_toArr, List.length_cons, List.length_nil, List.getElem?_cons_zero, List.getElem?_cons_succ, Nat.zero_add, Nat.add_zero, hb]
  refine gT.of (fun h => ?_) (fun h => ?_) <;> simp only [go_sem, not_true_eq_false, beq_self_eq_true, bne_self_eq_false, Bool.false_eq_true, if_false, if_true, Int.cast_ofNat_Int, decide_true, decide_false, reduceCtorEq, Nat.reduceEqDiff, Nat.reduceAdd, ne_eq, not_false_eq_true, Option.map_some, Option.bind_some, Option.map_none, Option.bind_none, true_and, and_true, Bool.not_true, Bool.not_false, Nat.reduceLeDiff, Nat.reduceMul, Nat.reduceSub, Nat.le_refl, Int.reduceToNat, Int.reduceLT, Int.reduceLE, Nat.one_mul, Nat.mul_one, load_w, load_a, store_b, idxS_b, set_blk, new_blk, set_next, new_next, len_s, ldW_c, ldA_c, stB_c, toArr_one, size_one, toList_toArr, size_toArr, List.length_cons, List.length_nil, List.getElem?_cons_zero, List.getElem?_cons_succ, Nat.zero_add, Nat.add_zero, hb, h]
  simp only [decide_eq_true_eq] at h
  have : ¬ id < 0 := by omega
  simp only [go_sem, not_true_eq_false, beq_self_eq_true, bne_self_eq_false, Bool.false_eq_true, if_false, if_true, Int.cast_ofNat_Int, decide_true, decide_false, reduceCtorEq, Nat.reduceEqDiff, Nat.reduceAdd, ne_eq, not_false_eq_true, Option.map_some, Option.bind_some, Option.map_none, Option.bind_none, true_and, and_true, Bool.not_true, Bool.not_false, Nat.reduceLeDiff, Nat.reduceMul, Nat.reduceSub, Nat.le_refl, Int.reduceToNat, Int.reduceLT, Int.reduceLE, Nat.one_mul, Nat.mul_one, this]

theorem Min_nob {p : Value} (h : Nob m p) : WC R F.heap_Heap_Min [p] m fun v m' => v = .tuple #[.int .i64 0, .bool false] ∧ m' = m := by
  refine WC.of R.heap_Heap_Min rfl ?_
  simp only [RC.heap_Heap_Min, go_sem, not_true_eq_false, beq_self_eq_true, bne_self_eq_false, Bool.false_eq_true, if_false, if_true, Int.cast_ofNat_Int, decide_true, decide_false, reduceCtorEq, Nat.reduceEqDiff, Nat.reduceAdd, ne_eq, not_false_eq_true, Option.map_some, Option.bind_some, Option.map_none, Option.bind_none, true_and, and_true, Bool.not_true, Bool.not_false, Nat.reduceLeDiff, Nat.reduceMul, Nat.reduceSub, Nat.le_refl, Int.reduceToNat, Int.reduceLT, Int.reduceLE, Nat.one_mul, Nat.mul_one]
  refine gC.of (Len_nob h) ?_
  rintro _ m_ ⟨rfl, hm_⟩
  replace hm_ := hm_.symm
  subst hm_
  simp only [go_sem, not_true_eq_false, beq_self_eq_true, bne_self_eq_false, Bool.false_eq_true, if_false, if_true, Int.cast_ofNat_Int, decide_true, decide_false, reduceCtorEq, Nat.reduceEqDiff, Nat.reduceAdd, ne_eq, not_false_eq_true, Option.map_some, Option.bind_some, Option.map_none, Option.bind_none, true_and, and_true, Bool.not_true, Bool.not_false, Nat.reduceLeDiff, Nat.reduceMul, Nat.reduceSub, Nat.le_refl, Int.reduceToNat, Int.reduceLT, Int.reduceLE, Nat.one_mul, Nat.mul_one]

theorem Key_nob {p : Value} {id : Int} (h : Nob m p) : WC R F.heap_Heap_Key [p, .int .i64 id] m fun v m' => v = .tuple #[u64 0#64, u64 0#64, .bool false] ∧ m' = m := by
  refine WC.of R.heap_Heap_Key rfl ?_
  simp only [RC.heap_Heap_Key, go_sem, not_true_eq_false, beq_self_eq_true, bne_self_eq_false, Bool.false_eq_true, if_false, if_true, Int.cast_ofNat_Int, decide_true, decide_false, reduceCtorEq, Nat.reduceEqDiff, Nat.reduceAdd, ne_eq, not_false_eq_true, Option.map_some, Option.bind_some, Option.map_none, Option.bind_none, true_and, and_true, Bool.not_true, Bool.not_false, Nat.reduceLeDiff, Nat.reduceMul, Nat.reduceSub, Nat.le_refl, Int.reduceToNat, Int.reduceLT, Int.reduceLE, Nat.one_mul, Nat.mul_one]
  refine gC.of (has_nob h) ?_
  rintro _ m_ ⟨rfl, hm_⟩
  replace hm_ := hm_.symm
  subst hm_
  simp only [go_sem, not_true_eq_false, beq_self_eq_true, bne_self_eq_false, Bool.false_eq_true, if_false, if_true, Int.cast_ofNat_Int, decide_true, decide_false, reduceCtorEq, Nat.reduceEqDiff, Nat.reduceAdd, ne_eq, not_false_eq_true, Option.map_some, Option.bind_some, Option.map_none, Option.bind_none, true_and, and_true, Bool.not_true, Bool.not_false, Nat.reduceLeDiff, Nat.reduceMul, Nat.reduceSub, Nat.le_refl, Int.reduceToNat, Int.reduceLT, Int.reduceLE, Nat.one_mul, Nat.mul_one]

theorem Remove_nob {p : Value} {id : Int} (h : Nob m p) : WC R F.heap_Heap_Remove [p, .int .i64 id] m fun v m' => v = .bool false ∧ m' = m := by
  refine WC.of R.heap_Heap_Remove rfl ?_
  simp only [RC.heap_Heap_Remove, go_sem, not_true_eq_false, beq_self_eq_true, bne_self_eq_false, Bool.false_eq_true, if_false, if_true, Int.cast_ofNat_Int, decide_true, decide_false, reduceCtorEq, Nat.reduceEqDiff, Nat.reduceAdd, ne_eq, not_false_eq_true, Option.map_some, Option.bind_some, Option.map_none, Option.bind_none, true_and, and_true, Bool.not_true, Bool.not_false, Nat.reduceLeDiff, Nat.reduceMul, Nat.reduceSub, Nat.le_refl, Int.reduceToNat, Int.reduceLT, Int.reduceLE, Nat.one_mul, Nat.mul_one]
  refine gC.of (has_nob h) ?_
  rintro _ m_ ⟨rfl, hm_⟩
  replace hm_ := hm_.symm
  subst hm_
  simp only [go_sem, not_true_eq_false, beq_self_eq_true, bne_self_eq_false, Bool.false_eq_true, if_false, if_true, Int.cast_ofNat_Int, decide_true, decide_false, reduceCtorEq, Nat.reduceEqDiff, Nat.reduceAdd, ne_eq, not_false_eq_true, Option.map_some, Option.bind_some, Option.map_none, Option.bind_none, true_and, and_true, Bool.not_true, Bool.not_false, Nat.reduceLeDiff, Nat.reduceMul, Nat.reduceSub, Nat.le_refl, Int.reduceToNat, Int.reduceLT, Int.reduceLE, Nat.one_mul, Nat.mul_one]

theorem Pop_nob {p : Value} (h : Nob m p) : WC R F.heap_Heap_Pop [p] m fun v m' => v = .tuple #[.int .i64 0, .bool false] ∧ m' = m := by
  refine WC.of R.heap_Heap_Pop rfl ?_
  simp only [RC.heap_Heap_Pop, go_sem, not_true_eq_false, beq_self_eq_true, bne_self_eq_false, Bool.false_eq_true, if_false, if_true, Int.cast_ofNat_Int, decide_true, decide_false, reduceCtorEq, Nat.reduceEqDiff, Nat.reduceAdd, ne_eq, not_false_eq_true, Option.map_some, Option.bind_some, Option.map_none, Option.bind_none, true_and, and_true, Bool.not_true, Bool.not_false, Nat.reduceLeDiff, Nat.reduceMul, Nat.reduceSub, Nat.le_refl, Int.reduceToNat, Int.reduceLT, Int.reduceLE, Nat.one_mul, Nat.mul_one]
  refine gC.of (Min_nob h) ?_
  rintro _ m_ ⟨rfl, hm_⟩
  replace hm_ := hm_.symm
  subst hm_
  simp only [go_sem, not_true_eq_false, beq_self_eq_true, bne_self_eq_false, Bool.false_eq_true, if_false, if_true, Int.cast_ofNat_Int, decide_true, decide_false, reduceCtorEq, Nat.reduceEqDiff, Nat.reduceAdd, ne_eq, not_false_eq_true, Option.map_some, Option.bind_some, Option.map_none, Option.bind_none, true_and, and_true, Bool.not_true, Bool.not_false, Nat.reduceLeDiff, Nat.reduceMul, Nat.reduceSub, Nat.le_refl, Int.reduceToNat, Int.reduceLT, Int.reduceLE, Nat.one_mul, Nat.mul_one]

theorem Put_nob {p : Value} {id : Int} {x y : BitVec 64} (h : Nob m p) : WC R F.heap_Heap_Put [p, .int .i64 id, u64 x, u64 y] m fun v m' => v = .int .i64 2 ∧ m' = m := by
  refine WC.of R.heap_Heap_Put rfl ?_
  rcases h with rfl | ⟨b, rfl, hb⟩
  · simp only [RC.heap_Heap_Put, go_sem, not_true_eq_false, beq_self_eq_true, bne_self_eq_false, Bool.false_eq_true, if_false, if_true, Int.cast_ofNat_Int, decide_true, decide_false, reduceCtorEq, Nat.reduceEqDiff, Nat.reduceAdd, ne_eq, not_false_eq_true, Option.map_some, Option.bind_some, Option.map_none, Option.bind_none, true_and, and_true, Bool.not_true, Bool.not_false, Nat.reduceLeDiff, Nat.reduceMul, Nat.reduceSub, Nat.le_refl, Int.reduceToNat, Int.reduceLT, Int.reduceLE, Nat.one_mul, Nat.mul_one, load_w, load_a, store_b, idxS_b, set_blk, new_blk, set_next, new_next, len_s, ldW_c, ldA_c, stB_c, toArr_one, size_one, toList_toArr, size_toArr, List.length_cons, List.length_nil, List.getElem?_cons_zero, List.getElem?_cons_succ, Nat.zero_add, Nat.add_zero, Option.isNone_none]
  · simp only [RC.heap_Heap_Put, go_sem, not_true_eq_false, beq_self_eq_true, bne_self_eq_false, Bool.false_eq_true, if_false, if_true, Int.cast_ofNat_Int, decide_true, decide_false, reduceCtorEq, Nat.reduceEqDiff, Nat.reduceAdd, ne_eq, not_false_eq_true, Option.map_some, Option.bind_some, Option.map_none, Option.bind_none, true_and, and_true, Bool.not_true, Bool.not_false, Nat.reduceLeDiff, Nat.reduceMul, Nat.reduceSub, Nat.le_refl, Int.reduceToNat, Int.reduceLT, Int.reduceLE, Nat.one_mul, Nat.mul_one, load_w, load_a, store_b, idxS_b, set_blk, new_blk, set_next, new_next, len_s, ldW_c, ldA_c, stB_c, toArr_one, size_one, toList_toArr, size_toArr, List.length_cons, List.length_nil, List.getElem?_cons_zero, List.getElem?_cons_succ, Nat.zero_add, Nat.add_zero, hb]

theorem HeapNobody_spec {id : Int} {x y : BitVec 64} : WC R F.law06_HeapNobody [.int .i64 id, u64 x, u64 y] m fun v m' => v = .bool true := by
  refine WC.of R.law06_HeapNobody rfl ?_
  simp only [RC.law06_HeapNobody, go_sem, not_true_eq_false, beq_self_eq_true, bne_self_eq_false, Bool.false_eq_true, if_false, if_true, Int.cast_ofNat_Int, decide_true, decide_false, reduceCtorEq, Nat.reduceEqDiff, Nat.reduceAdd, ne_eq, not_false_eq_true, Option.map_some, Option.bind_some, Option.map_none, Option.bind_none, true_and, and_true, Bool.not_true, Bool.not_false, Nat.reduceLeDiff, Nat.reduceMul, Nat.reduceSub, Nat.le_refl, Int.reduceToNat, Int.reduceLT, Int.reduceLE, Nat.one_mul, Nat.mul_one]
  have h1 : Nob (m.new (AObj.cells [Value.slice none 0 0, Value.slice none 0 0, Value.slice none 0 0] (some 3))) (.pointer none) := .inl rfl
  have h2 : Nob (m.new (AObj.cells [Value.slice none 0 0, Value.slice none 0 0, Value.slice none 0 0] (some 3))) (.pointer (some ⟨m.next, 0, none⟩)) := .inr ⟨_, rfl, by simp [Mem.new]⟩
  refine gC.of (Min_nob h1) ?_
  rintro _ m_ ⟨rfl, hm_⟩
  replace hm_ := hm_.symm
  subst hm_
  simp only [go_sem, not_true_eq_false, beq_self_eq_true, bne_self_eq_false, Bool.false_eq_true, if_false, if_true, Int.cast_ofNat_Int, decide_true, decide_false, reduceCtorEq, Nat.reduceEqDiff, Nat.reduceAdd, ne_eq, not_false_eq_true, Option.map_some, Option.bind_some, Option.map_none, Option.bind_none, true_and, and_true, Bool.not_true, Bool.not_false, Nat.reduceLeDiff, Nat.reduceMul, Nat.reduceSub, Nat.le_refl, Int.reduceToNat, Int.reduceLT, Int.reduceLE, Nat.one_mul, Nat.mul_one]
  refine gC.of (Pop_nob h2) ?_
  rintro _ m_ ⟨rfl, hm_⟩
  replace hm_ := hm_.symm
  subst hm_
  simp only [go_sem, not_true_eq_false, beq_self_eq_true, bne_self_eq_false, Bool.false_eq_true, if_false, if_true, Int.cast_ofNat_Int, decide_true, decide_false, reduceCtorEq, Nat.reduceEqDiff, Nat.reduceAdd, ne_eq, not_false_eq_true, Option.map_some, Option.bind_some, Option.map_none, Option.bind_none, true_and, and_true, Bool.not_true, Bool.not_false, Nat.reduceLeDiff, Nat.reduceMul, Nat.reduceSub, Nat.le_refl, Int.reduceToNat, Int.reduceLT, Int.reduceLE, Nat.one_mul, Nat.mul_one]
  refine gC.of (Key_nob h1) ?_
  rintro _ m_ ⟨rfl, hm_⟩
  replace hm_ := hm_.symm
  subst hm_
  simp only [go_sem, not_true_eq_false, beq_self_eq_true, bne_self_eq_false, Bool.false_eq_true, if_false, if_true, Int.cast_ofNat_Int, decide_true, decide_false, reduceCtorEq, Nat.reduceEqDiff, Nat.reduceAdd, ne_eq, not_false_eq_true, Option.map_some, Option.bind_some, Option.map_none, Option.bind_none, true_and, and_true, Bool.not_true, Bool.not_false, Nat.reduceLeDiff, Nat.reduceMul, Nat.reduceSub, Nat.le_refl, Int.reduceToNat, Int.reduceLT, Int.reduceLE, Nat.one_mul, Nat.mul_one]
  refine gC.of (Key_nob h2) ?_
  rintro _ m_ ⟨rfl, hm_⟩
  replace hm_ := hm_.symm
  subst hm_
  simp only [go_sem, not_true_eq_false, beq_self_eq_true, bne_self_eq_false, Bool.false_eq_true, if_false, if_true, Int.cast_ofNat_Int, decide_true, decide_false, reduceCtorEq, Nat.reduceEqDiff, Nat.reduceAdd, ne_eq, not_false_eq_true, Option.map_some, Option.bind_some, Option.map_none, Option.bind_none, true_and, and_true, Bool.not_true, Bool.not_false, Nat.reduceLeDiff, Nat.reduceMul, Nat.reduceSub, Nat.le_refl, Int.reduceToNat, Int.reduceLT, Int.reduceLE, Nat.one_mul, Nat.mul_one]
  refine gC.of (Put_nob h1) ?_
  rintro _ m_ ⟨rfl, hm_⟩
  replace hm_ := hm_.symm
  subst hm_
  simp only [go_sem, not_true_eq_false, beq_self_eq_true, bne_self_eq_false, Bool.false_eq_true, if_false, if_true, Int.cast_ofNat_Int, decide_true, decide_false, reduceCtorEq, Nat.reduceEqDiff, Nat.reduceAdd, ne_eq, not_false_eq_true, Option.map_some, Option.bind_some, Option.map_none, Option.bind_none, true_and, and_true, Bool.not_true, Bool.not_false, Nat.reduceLeDiff, Nat.reduceMul, Nat.reduceSub, Nat.le_refl, Int.reduceToNat, Int.reduceLT, Int.reduceLE, Nat.one_mul, Nat.mul_one]
  refine gC.of (Put_nob h2) ?_
  rintro _ m_ ⟨rfl, hm_⟩
  replace hm_ := hm_.symm
  subst hm_
  simp only [go_sem, not_true_eq_false, beq_self_eq_true, bne_self_eq_false, Bool.false_eq_true, if_false, if_true, Int.cast_ofNat_Int, decide_true, decide_false, reduceCtorEq, Nat.reduceEqDiff, Nat.reduceAdd, ne_eq, not_false_eq_true, Option.map_some, Option.bind_some, Option.map_none, Option.bind_none, true_and, and_true, Bool.not_true, Bool.not_false, Nat.reduceLeDiff, Nat.reduceMul, Nat.reduceSub, Nat.le_refl, Int.reduceToNat, Int.reduceLT, Int.reduceLE, Nat.one_mul, Nat.mul_one]
  refine gC.of (Remove_nob h1) ?_
  rintro _ m_ ⟨rfl, hm_⟩
  replace hm_ := hm_.symm
  subst hm_
  simp only [go_sem, not_true_eq_false, beq_self_eq_true, bne_self_eq_false, Bool.false_eq_true, if_false, if_true, Int.cast_ofNat_Int, decide_true, decide_false, reduceCtorEq, Nat.reduceEqDiff, Nat.reduceAdd, ne_eq, not_false_eq_true, Option.map_some, Option.bind_some, Option.map_none, Option.bind_none, true_and, and_true, Bool.not_true, Bool.not_false, Nat.reduceLeDiff, Nat.reduceMul, Nat.reduceSub, Nat.le_refl, Int.reduceToNat, Int.reduceLT, Int.reduceLE, Nat.one_mul, Nat.mul_one]
  refine gC.of (Remove_nob h2) ?_
  rintro _ m_ ⟨rfl, hm_⟩
  replace hm_ := hm_.symm
  subst hm_
  simp only [go_sem, not_true_eq_false, beq_self_eq_true, bne_self_eq_false, Bool.false_eq_true, if_false, if_true, Int.cast_ofNat_Int, decide_true, decide_false, reduceCtorEq, Nat.reduceEqDiff, Nat.reduceAdd, ne_eq, not_false_eq_true, Option.map_some, Option.bind_some, Option.map_none, Option.bind_none, true_and, and_true, Bool.not_true, Bool.not_false, Nat.reduceLeDiff, Nat.reduceMul, Nat.reduceSub, Nat.le_refl, Int.reduceToNat, Int.reduceLT, Int.reduceLE, Nat.one_mul, Nat.mul_one]
  refine gC.of (Len_nob h1) ?_
  rintro _ m_ ⟨rfl, hm_⟩
  replace hm_ := hm_.symm
  subst hm_
  simp only [go_sem, not_true_eq_false, beq_self_eq_true, bne_self_eq_false, Bool.false_eq_true, if_false, if_true, Int.cast_ofNat_Int, decide_true, decide_false, reduceCtorEq, Nat.reduceEqDiff, Nat.reduceAdd, ne_eq, not_false_eq_true, Option.map_some, Option.bind_some, Option.map_none, Option.bind_none, true_and, and_true, Bool.not_true, Bool.not_false, Nat.reduceLeDiff, Nat.reduceMul, Nat.reduceSub, Nat.le_refl, Int.reduceToNat, Int.reduceLT, Int.reduceLE, Nat.one_mul, Nat.mul_one]
  refine gC.of (Len_nob h2) ?_
  rintro _ m_ ⟨rfl, hm_⟩
  replace hm_ := hm_.symm
  subst hm_
  simp only [go_sem, not_true_eq_false, beq_self_eq_true, bne_self_eq_false, Bool.false_eq_true, if_false, if_true, Int.cast_ofNat_Int, decide_true, decide_false, reduceCtorEq, Nat.reduceEqDiff, Nat.reduceAdd, ne_eq, not_false_eq_true, Option.map_some, Option.bind_some, Option.map_none, Option.bind_none, true_and, and_true, Bool.not_true, Bool.not_false, Nat.reduceLeDiff, Nat.reduceMul, Nat.reduceSub, Nat.le_refl, Int.reduceToNat, Int.reduceLT, Int.reduceLE, Nat.one_mul, Nat.mul_one]
  refine gC.of (ok_spec R.law06_awake) ?_
  rintro _ m_ ⟨rfl, hm_⟩
  replace hm_ := hm_.symm
  subst hm_
  simp only [go_sem, not_true_eq_false, beq_self_eq_true, bne_self_eq_false, Bool.false_eq_true, if_false, if_true, Int.cast_ofNat_Int, decide_true, decide_false, reduceCtorEq, Nat.reduceEqDiff, Nat.reduceAdd, ne_eq, not_false_eq_true, Option.map_some, Option.bind_some, Option.map_none, Option.bind_none, true_and, and_true, Bool.not_true, Bool.not_false, Nat.reduceLeDiff, Nat.reduceMul, Nat.reduceSub, Nat.le_refl, Int.reduceToNat, Int.reduceLT, Int.reduceLE, Nat.one_mul, Nat.mul_one]
end Go.Am


/- HeapNobody, of arguments as they are read. -/
set_option linter.unusedVariables false
namespace Go.Am
theorem law06_HeapNobody_walk (m : Mem) (us : List Value) (h : RdAs m [(false, [.int .i64]), (false, [.int .u64]), (false, [.int .u64])] us) : WC R F.law06_HeapNobody us m fun v _ => v = .bool true := by
  obtain ⟨_, _, rfl, h1, h⟩ := h.one; obtain ⟨_, _, rfl, h2, h⟩ := h.one; obtain ⟨_, _, rfl, h3, h⟩ := h.one; cases h.none
  obtain ⟨k, rfl, -⟩ := h1.rd.i64; obtain ⟨x, rfl⟩ := h2.rd.u64; obtain ⟨y, rfl⟩ := h3.rd.u64
  exact HeapNobody_spec
end Go.Am
