/- Parts of the proofs of the statements of this seat: AmTabSpans. No conditions. -/
import Derived.Test.YtdnifbijbegomaaSpansGapsPart3
set_option linter.unusedVariables false
set_option linter.unusedSimpArgs false

/- The functions of the layer spans in the form of the abstract machine. Printed by amgen.py. -/
set_option linter.unusedVariables false
namespace Go.Am

@[irreducible] def F.law05_SpansGaps : Nat := 3
@[irreducible] def F.law05_SpansNorm : Nat := 4
@[irreducible] def F.law05_SpansBoth : Nat := 5
@[irreducible] def F.law05_SpansParts : Nat := 6
@[irreducible] def F.law05_few : Nat := 7
@[irreducible] def F.law05_same : Nat := 8
@[irreducible] def F.spans_Gaps : Nat := 9
@[irreducible] def F.law05_of : Nat := 10
@[irreducible] def F.ref05_Op : Nat := 11
@[irreducible] def F.law05_awake : Nat := 12
@[irreducible] def F.spans_Norm : Nat := 13
@[irreducible] def F.spans_Check : Nat := 14
@[irreducible] def F.ref05_Right : Nat := 15
@[irreducible] def F.spans_Has : Nat := 16
@[irreducible] def F.ref05_Has : Nat := 17
@[irreducible] def F.spans_Total : Nat := 18
@[irreducible] def F.ref05_Total : Nat := 19
@[irreducible] def F.spans_Union : Nat := 20
@[irreducible] def F.spans_Meet : Nat := 21
@[irreducible] def F.spans_Less : Nat := 22
@[irreducible] def F.ref05_ends : Nat := 23
@[irreducible] def F.slices_DeleteFunc_spans_Span_spans_Span : Nat := 24
@[irreducible] def F.slices_Clone_spans_Span_spans_Span : Nat := 25
@[irreducible] def F.spans_Span_empty : Nat := 26
@[irreducible] def F.slices_SortFunc_spans_Span_spans_Span : Nat := 27
@[irreducible] def F.spans_Norm_1 : Nat := 28
@[irreducible] def F.cmp_Compare_int : Nat := 29
@[irreducible] def F.slices_ContainsFunc_spans_Span_spans_Span : Nat := 30
@[irreducible] def F.spans_Has_1 : Nat := 31
@[irreducible] def F.slices_Concat_spans_Span_spans_Span : Nat := 32
@[irreducible] def F.ref05_with : Nat := 33
@[irreducible] def F.slices_IndexFunc_spans_Span_spans_Span : Nat := 34
@[irreducible] def F.slices_pdqsortCmpFunc_spans_Span : Nat := 35
@[irreducible] def F.math_bits_Len : Nat := 36
@[irreducible] def F.cmp_isNaN_int : Nat := 37
@[irreducible] def F.slices_Grow_spans_Span_spans_Span : Nat := 38
@[irreducible] def F.slices_insertionSortCmpFunc_spans_Span : Nat := 39
@[irreducible] def F.slices_heapSortCmpFunc_spans_Span : Nat := 40
@[irreducible] def F.slices_breakPatternsCmpFunc_spans_Span : Nat := 41
@[irreducible] def F.slices_choosePivotCmpFunc_spans_Span : Nat := 42
@[irreducible] def F.slices_reverseRangeCmpFunc_spans_Span : Nat := 43
@[irreducible] def F.slices_partialInsertionSortCmpFunc_spans_Span : Nat := 44
@[irreducible] def F.slices_partitionEqualCmpFunc_spans_Span : Nat := 45
@[irreducible] def F.slices_partitionCmpFunc_spans_Span : Nat := 46
@[irreducible] def F.math_bits_Len32 : Nat := 47
@[irreducible] def F.math_bits_Len64 : Nat := 48
@[irreducible] def F.slices_siftDownCmpFunc_spans_Span : Nat := 49
@[irreducible] def F.slices_nextPowerOfTwo : Nat := 50
@[irreducible] def F.slices_xorshift_Next : Nat := 51
@[irreducible] def F.slices_medianAdjacentCmpFunc_spans_Span : Nat := 52
@[irreducible] def F.slices_medianCmpFunc_spans_Span : Nat := 53
@[irreducible] def F.slices_order2CmpFunc_spans_Span : Nat := 54

def RC.law05_SpansGaps : RFn := ⟨3, [.slot 6],
  (.seq (.region [⟨some 6, none, .mov (.c (.bool false))⟩]
    [0, 1, 2])
  (.seq (.region [⟨some 7, none, .mov (.t 0)⟩,
    ⟨some 8, none, .call F.law05_few [.t 7]⟩,
    ⟨some 0, none, .mov (.t 8)⟩]
    [0, 1, 2])
  (.seq (.region [⟨some 9, none, .mov (.t 0)⟩,
    ⟨some 10, none, .call F.law05_of [.t 9]⟩,
    ⟨some 11, none, .mov (.t 1)⟩,
    ⟨some 12, none, .mov (.t 2)⟩,
    ⟨some 13, none, .call F.spans_Gaps [.t 10, .t 11, .t 12]⟩,
    ⟨some 14, none, .mov (.t 1)⟩,
    ⟨some 15, none, .mov (.t 2)⟩,
    ⟨some 16, none, .build [(.int .i64 0), (.int .i64 0)] [(0, 1, .t 14), (1, 1, .t 15)]⟩,
    ⟨some 17, none, .bslice [(.int .i64 0), (.int .i64 0)] [(0, 2, .t 16)] 1 2⟩,
    ⟨some 18, none, .mov (.t 0)⟩,
    ⟨some 19, none, .call F.ref05_Op [.c (.int .i64 2), .t 17, .t 18]⟩,
    ⟨some 20, none, .call F.law05_same [.t 13, .t 19]⟩,
    ⟨some 21, none, .mov (.t 20)⟩,
    ⟨some 22, some (21, true), .call F.law05_awake []⟩,
    ⟨some 23, none, .pick (.t 21) (.t 22) (.c (.bool false))⟩,
    ⟨some 6, none, .mov (.t 23)⟩]
    [6])
  .ret)))⟩

def RC.law05_SpansNorm : RFn := ⟨2, [.slot 4],
  (.seq (.region [⟨some 4, none, .mov (.c (.bool false))⟩]
    [0, 1])
  (.seq (.region [⟨some 7, none, .mov (.t 0)⟩,
    ⟨some 8, none, .call F.law05_few [.t 7]⟩,
    ⟨some 0, none, .mov (.t 8)⟩]
    [0, 1])
  (.seq (.region [⟨some 9, none, .mov (.t 0)⟩,
    ⟨some 10, none, .call F.law05_of [.t 9]⟩,
    ⟨some 11, none, .call F.spans_Norm [.t 10]⟩,
    ⟨some 5, none, .mov (.t 11)⟩]
    [0, 1, 5])
  (.seq (.region [⟨some 12, none, .mov (.t 0)⟩,
    ⟨some 13, none, .call F.law05_of [.t 12]⟩,
    ⟨some 14, none, .call F.spans_Check [.t 13]⟩,
    ⟨some 6, none, .mov (.t 14)⟩]
    [0, 1, 5, 6])
  (.seq (.region [⟨some 15, none, .mov (.t 5)⟩,
    ⟨some 16, none, .mov (.t 0)⟩,
    ⟨some 17, none, .call F.ref05_Op [.c (.int .i64 0), .t 16, .c (.slice none 0 0)]⟩,
    ⟨some 18, none, .call F.law05_same [.t 15, .t 17]⟩,
    ⟨some 19, none, .mov (.t 18)⟩,
    ⟨some 20, some (19, true), .mov (.t 6)⟩,
    ⟨some 21, some (19, true), .bin .eql (.t 20) (.c (.int .i64 0))⟩,
    ⟨some 22, some (19, true), .mov (.t 0)⟩,
    ⟨some 23, some (19, true), .call F.ref05_Right [.t 22]⟩,
    ⟨some 24, some (19, true), .eq false .bool (.t 21) (.t 23)⟩,
    ⟨some 25, none, .pick (.t 19) (.t 24) (.c (.bool false))⟩,
    ⟨some 26, none, .mov (.t 25)⟩,
    ⟨some 27, some (26, true), .mov (.t 6)⟩,
    ⟨some 28, some (26, true), .bin .eql (.t 27) (.c (.int .i64 0))⟩,
    ⟨some 29, some (26, true), .mov (.t 28)⟩,
    ⟨some 30, some (29, false), .mov (.t 6)⟩,
    ⟨some 31, some (29, false), .bin .eql (.t 30) (.c (.int .i64 1))⟩,
    ⟨some 32, some (26, true), .pick (.t 29) (.c (.bool true)) (.t 31)⟩,
    ⟨some 33, none, .pick (.t 26) (.t 32) (.c (.bool false))⟩,
    ⟨some 34, none, .mov (.t 33)⟩,
    ⟨some 35, some (34, true), .mov (.t 5)⟩,
    ⟨some 36, some (34, true), .call F.spans_Check [.t 35]⟩,
    ⟨some 37, some (34, true), .bin .eql (.t 36) (.c (.int .i64 0))⟩,
    ⟨some 38, none, .pick (.t 34) (.t 37) (.c (.bool false))⟩,
    ⟨some 39, none, .mov (.t 38)⟩,
    ⟨some 40, some (39, true), .mov (.t 0)⟩,
    ⟨some 41, some (39, true), .call F.law05_of [.t 40]⟩,
    ⟨some 42, some (39, true), .mov (.t 1)⟩,
    ⟨some 43, some (39, true), .call F.spans_Has [.t 41, .t 42]⟩,
    ⟨some 44, some (39, true), .mov (.t 0)⟩,
    ⟨some 45, some (39, true), .mov (.t 1)⟩,
    ⟨some 46, some (39, true), .call F.ref05_Has [.t 44, .t 45]⟩,
    ⟨some 47, some (39, true), .eq false .bool (.t 43) (.t 46)⟩,
    ⟨some 48, none, .pick (.t 39) (.t 47) (.c (.bool false))⟩,
    ⟨some 49, none, .mov (.t 48)⟩,
    ⟨some 50, some (49, true), .mov (.t 5)⟩,
    ⟨some 51, some (49, true), .mov (.t 1)⟩,
    ⟨some 52, some (49, true), .call F.spans_Has [.t 50, .t 51]⟩,
    ⟨some 53, some (49, true), .mov (.t 0)⟩,
    ⟨some 54, some (49, true), .mov (.t 1)⟩,
    ⟨some 55, some (49, true), .call F.ref05_Has [.t 53, .t 54]⟩,
    ⟨some 56, some (49, true), .eq false .bool (.t 52) (.t 55)⟩,
    ⟨some 57, none, .pick (.t 49) (.t 56) (.c (.bool false))⟩,
    ⟨some 58, none, .mov (.t 57)⟩,
    ⟨some 59, some (58, true), .mov (.t 0)⟩,
    ⟨some 60, some (58, true), .call F.law05_of [.t 59]⟩,
    ⟨some 61, some (58, true), .call F.spans_Total [.t 60]⟩,
    ⟨some 62, some (58, true), .mov (.t 0)⟩,
    ⟨some 63, some (58, true), .call F.ref05_Total [.t 62]⟩,
    ⟨some 64, some (58, true), .bin .eql (.t 61) (.t 63)⟩,
    ⟨some 65, none, .pick (.t 58) (.t 64) (.c (.bool false))⟩,
    ⟨some 66, none, .mov (.t 65)⟩,
    ⟨some 67, some (66, true), .call F.law05_awake []⟩,
    ⟨some 68, none, .pick (.t 66) (.t 67) (.c (.bool false))⟩,
    ⟨some 4, none, .mov (.t 68)⟩]
    [4])
  .ret)))))⟩

def RC.law05_SpansBoth : RFn := ⟨2, [.slot 4],
  (.seq (.region [⟨some 4, none, .mov (.c (.bool false))⟩]
    [0, 1])
  (.seq (.region [⟨some 5, none, .mov (.t 0)⟩,
    ⟨some 6, none, .call F.law05_few [.t 5]⟩,
    ⟨some 7, none, .mov (.t 1)⟩,
    ⟨some 8, none, .call F.law05_few [.t 7]⟩,
    ⟨some 0, none, .mov (.t 6)⟩,
    ⟨some 1, none, .mov (.t 8)⟩]
    [0, 1])
  (.seq (.region [⟨some 9, none, .mov (.t 0)⟩,
    ⟨some 10, none, .call F.law05_of [.t 9]⟩,
    ⟨some 11, none, .mov (.t 1)⟩,
    ⟨some 12, none, .call F.law05_of [.t 11]⟩,
    ⟨some 13, none, .call F.spans_Union [.t 10, .t 12]⟩,
    ⟨some 14, none, .mov (.t 0)⟩,
    ⟨some 15, none, .mov (.t 1)⟩,
    ⟨some 16, none, .call F.ref05_Op [.c (.int .i64 0), .t 14, .t 15]⟩,
    ⟨some 17, none, .call F.law05_same [.t 13, .t 16]⟩,
    ⟨some 18, none, .mov (.t 17)⟩,
    ⟨some 19, some (18, true), .mov (.t 0)⟩,
    ⟨some 20, some (18, true), .call F.law05_of [.t 19]⟩,
    ⟨some 21, some (18, true), .mov (.t 1)⟩,
    ⟨some 22, some (18, true), .call F.law05_of [.t 21]⟩,
    ⟨some 23, some (18, true), .call F.spans_Meet [.t 20, .t 22]⟩,
    ⟨some 24, some (18, true), .mov (.t 0)⟩,
    ⟨some 25, some (18, true), .mov (.t 1)⟩,
    ⟨some 26, some (18, true), .call F.ref05_Op [.c (.int .i64 1), .t 24, .t 25]⟩,
    ⟨some 27, some (18, true), .call F.law05_same [.t 23, .t 26]⟩,
    ⟨some 28, none, .pick (.t 18) (.t 27) (.c (.bool false))⟩,
    ⟨some 29, none, .mov (.t 28)⟩,
    ⟨some 30, some (29, true), .mov (.t 0)⟩,
    ⟨some 31, some (29, true), .call F.law05_of [.t 30]⟩,
    ⟨some 32, some (29, true), .mov (.t 1)⟩,
    ⟨some 33, some (29, true), .call F.law05_of [.t 32]⟩,
    ⟨some 34, some (29, true), .call F.spans_Less [.t 31, .t 33]⟩,
    ⟨some 35, some (29, true), .mov (.t 0)⟩,
    ⟨some 36, some (29, true), .mov (.t 1)⟩,
    ⟨some 37, some (29, true), .call F.ref05_Op [.c (.int .i64 2), .t 35, .t 36]⟩,
    ⟨some 38, some (29, true), .call F.law05_same [.t 34, .t 37]⟩,
    ⟨some 39, none, .pick (.t 29) (.t 38) (.c (.bool false))⟩,
    ⟨some 40, none, .mov (.t 39)⟩,
    ⟨some 41, some (40, true), .call F.law05_awake []⟩,
    ⟨some 42, none, .pick (.t 40) (.t 41) (.c (.bool false))⟩,
    ⟨some 4, none, .mov (.t 42)⟩]
    [4])
  .ret)))⟩

def RC.law05_SpansParts : RFn := ⟨2, [.slot 4],
  (.seq (.region [⟨some 4, none, .mov (.c (.bool false))⟩]
    [0, 1])
  (.seq (.region [⟨some 9, none, .mov (.t 0)⟩,
    ⟨some 10, none, .call F.law05_few [.t 9]⟩,
    ⟨some 11, none, .call F.law05_of [.t 10]⟩,
    ⟨some 12, none, .mov (.t 1)⟩,
    ⟨some 13, none, .call F.law05_few [.t 12]⟩,
    ⟨some 14, none, .call F.law05_of [.t 13]⟩,
    ⟨some 5, none, .mov (.t 11)⟩,
    ⟨some 6, none, .mov (.t 14)⟩]
    [0, 5, 6])
  (.seq (.region [⟨some 15, none, .mov (.t 5)⟩,
    ⟨some 16, none, .mov (.t 6)⟩,
    ⟨some 17, none, .call F.spans_Meet [.t 15, .t 16]⟩,
    ⟨some 7, none, .mov (.t 17)⟩]
    [0, 5, 6, 7])
  (.seq (.region [⟨some 18, none, .mov (.t 5)⟩,
    ⟨some 19, none, .mov (.t 6)⟩,
    ⟨some 20, none, .call F.spans_Less [.t 18, .t 19]⟩,
    ⟨some 8, none, .mov (.t 20)⟩]
    [0, 5, 7, 8])
  (.seq (.region [⟨some 21, none, .mov (.t 7)⟩,
    ⟨some 22, none, .mov (.t 8)⟩,
    ⟨some 23, none, .call F.spans_Union [.t 21, .t 22]⟩,
    ⟨some 24, none, .mov (.t 0)⟩,
    ⟨some 25, none, .call F.law05_few [.t 24]⟩,
    ⟨some 26, none, .call F.ref05_Op [.c (.int .i64 0), .t 25, .c (.slice none 0 0)]⟩,
    ⟨some 27, none, .call F.law05_same [.t 23, .t 26]⟩,
    ⟨some 28, none, .mov (.t 27)⟩,
    ⟨some 29, some (28, true), .mov (.t 7)⟩,
    ⟨some 30, some (28, true), .mov (.t 8)⟩,
    ⟨some 31, some (28, true), .call F.spans_Meet [.t 29, .t 30]⟩,
    ⟨some 32, some (28, true), .len (.t 31)⟩,
    ⟨some 33, some (28, true), .bin .eql (.t 32) (.c (.int .i64 0))⟩,
    ⟨some 34, none, .pick (.t 28) (.t 33) (.c (.bool false))⟩,
    ⟨some 35, none, .mov (.t 34)⟩,
    ⟨some 36, some (35, true), .mov (.t 7)⟩,
    ⟨some 37, some (35, true), .call F.spans_Total [.t 36]⟩,
    ⟨some 38, some (35, true), .mov (.t 8)⟩,
    ⟨some 39, some (35, true), .call F.spans_Total [.t 38]⟩,
    ⟨some 40, some (35, true), .bin .add (.t 37) (.t 39)⟩,
    ⟨some 41, some (35, true), .mov (.t 5)⟩,
    ⟨some 42, some (35, true), .call F.spans_Total [.t 41]⟩,
    ⟨some 43, some (35, true), .bin .eql (.t 40) (.t 42)⟩,
    ⟨some 44, none, .pick (.t 35) (.t 43) (.c (.bool false))⟩,
    ⟨some 45, none, .mov (.t 44)⟩,
    ⟨some 46, some (45, true), .call F.law05_awake []⟩,
    ⟨some 47, none, .pick (.t 45) (.t 46) (.c (.bool false))⟩,
    ⟨some 4, none, .mov (.t 47)⟩]
    [4])
  .ret)))))⟩

def RC.law05_few : RFn := ⟨1, [.slot 2],
  (.seq (.region [⟨some 2, none, .mov (.c (.slice none 0 0))⟩]
    [0])
  (.seq (.region [⟨some 3, none, .mov (.t 0)⟩,
    ⟨some 4, none, .mov (.t 0)⟩,
    ⟨some 5, none, .len (.t 4)⟩,
    ⟨some 6, none, .minmax false [.t 5, .c (.int .i64 30)]⟩,
    ⟨some 7, none, .sub 2 (.t 3) none (some (.t 6)) none⟩,
    ⟨some 2, none, .mov (.t 7)⟩]
    [2])
  .ret))⟩

def RB.law05_same_1 : RCode :=
  (.seq (.seq (.region [⟨some 11, none, .mov (.t 5)⟩,
    ⟨some 12, none, .mov (.t 0)⟩,
    ⟨some 13, none, .len (.t 12)⟩,
    ⟨some 14, none, .bin .lss (.t 11) (.t 13)⟩]
    [0, 1, 5, 14])
  (.cond (.t 14)
    .skip
    (.exit 0)))
  (.seq (.block 1
    (.seq (.drawn [⟨some 17, none, .mov (.t 0)⟩,
      ⟨some 18, none, .mov (.t 5)⟩,
      ⟨some 19, none, .idxS 2 (.t 17) (.t 18)⟩,
      ⟨some 20, none, .fieldAddr 0 (.t 19)⟩,
      ⟨some 21, none, .load false 1 (.t 20)⟩,
      ⟨some 22, none, .mov (.t 1)⟩,
      ⟨some 23, none, .mov (.t 5)⟩,
      ⟨some 24, none, .idxS 2 (.t 22) (.t 23)⟩,
      ⟨some 25, none, .fieldAddr 0 (.t 24)⟩,
      ⟨some 26, none, .load false 1 (.t 25)⟩,
      ⟨some 27, none, .bin .neq (.t 21) (.t 26)⟩,
      ⟨some 28, none, .mov (.t 27)⟩,
      ⟨some 29, some (28, false), .mov (.t 0)⟩,
      ⟨some 30, some (28, false), .mov (.t 5)⟩,
      ⟨some 31, some (28, false), .idxS 2 (.t 29) (.t 30)⟩,
      ⟨some 32, some (28, false), .fieldAddr 1 (.t 31)⟩,
      ⟨some 33, some (28, false), .load false 1 (.t 32)⟩,
      ⟨some 34, some (28, false), .mov (.t 1)⟩,
      ⟨some 35, some (28, false), .mov (.t 5)⟩,
      ⟨some 36, some (28, false), .idxS 2 (.t 34) (.t 35)⟩,
      ⟨some 37, some (28, false), .fieldAddr 1 (.t 36)⟩,
      ⟨some 38, some (28, false), .load false 1 (.t 37)⟩,
      ⟨some 39, some (28, false), .bin .neq (.t 33) (.t 38)⟩,
      ⟨some 40, none, .pick (.t 28) (.c (.bool true)) (.t 39)⟩]
      [[], [], [0, 1], [2], [3], [], [], [5, 6], [7], [8], [4, 9], [10], [11], [11], [12, 13, 11], [14, 11], [15, 11], [11], [11], [17, 18, 11], [19, 11], [20, 11], [16, 21, 11], [11, 22]]
      [(0, []), (1, []), (2, []), (3, []), (5, []), (6, []), (7, []), (8, []), (4, []), (9, []), (10, []), (11, []), (12, []), (13, []), (14, []), (15, []), (17, []), (18, []), (19, []), (20, []), (16, []), (21, []), (22, []), (23, [])]
      [[], [], [0, 1], [0, 1, 2], [0, 1, 2, 3], [], [], [5, 6], [5, 6, 7], [5, 6, 7, 8], [0, 1, 2, 3, 4, 5, 6, 7, 8, 9], [0, 1, 2, 3, 4, 5, 6, 7, 8, 9, 10], [0, 1, 2, 3, 4, 5, 6, 7, 8, 9, 10, 11], [0, 1, 2, 3, 4, 5, 6, 7, 8, 9, 10, 11], [0, 1, 2, 3, 4, 5, 6, 7, 8, 9, 10, 11, 12, 13], [0, 1, 2, 3, 4, 5, 6, 7, 8, 9, 10, 11, 12, 13, 14], [0, 1, 2, 3, 4, 5, 6, 7, 8, 9, 10, 11, 12, 13, 14, 15], [0, 1, 2, 3, 4, 5, 6, 7, 8, 9, 10, 11], [0, 1, 2, 3, 4, 5, 6, 7, 8, 9, 10, 11], [0, 1, 2, 3, 4, 5, 6, 7, 8, 9, 10, 11, 17, 18], [0, 1, 2, 3, 4, 5, 6, 7, 8, 9, 10, 11, 17, 18, 19], [0, 1, 2, 3, 4, 5, 6, 7, 8, 9, 10, 11, 17, 18, 19, 20], [0, 1, 2, 3, 4, 5, 6, 7, 8, 9, 10, 11, 12, 13, 14, 15, 16, 17, 18, 19, 20, 21], [0, 1, 2, 3, 4, 5, 6, 7, 8, 9, 10, 11, 12, 13, 14, 15, 16, 17, 18, 19, 20, 21, 22]]
      [0, 1, 5, 40])
    (.cond (.t 40)
      (.seq (.region [⟨some 4, none, .mov (.c (.bool false))⟩]
        [4])
      .ret)
      .skip)) [0, 1, 5])
  (.region [⟨some 15, none, .mov (.t 5)⟩,
    ⟨some 16, none, .bin .add (.t 15) (.c (.int .i64 1))⟩,
    ⟨some 5, none, .mov (.t 16)⟩]
    [0, 1, 5])))
def RC.law05_same : RFn := ⟨2, [.slot 4],
  (.seq (.region [⟨some 4, none, .mov (.c (.bool false))⟩]
    [0, 1])
  (.seq (.seq (.region [⟨some 6, none, .mov (.t 0)⟩,
    ⟨some 7, none, .len (.t 6)⟩,
    ⟨some 8, none, .mov (.t 1)⟩,
    ⟨some 9, none, .len (.t 8)⟩,
    ⟨some 10, none, .bin .neq (.t 7) (.t 9)⟩]
    [0, 1, 10])
  (.cond (.t 10)
    (.seq (.region [⟨some 4, none, .mov (.c (.bool false))⟩]
      [4])
    .ret)
    .skip))
  (.seq (.seq (.region [⟨some 5, none, .mov (.c (.int .i64 0))⟩]
    [0, 1, 5])
  (.block 0
    (.loop [0, 1, 5] RB.law05_same_1) []))
  (.seq (.region [⟨some 4, none, .mov (.c (.bool true))⟩]
    [4])
  .ret))))⟩

def RC.spans_Gaps : RFn := ⟨3, [.slot 6],
  (.seq (.region [⟨some 6, none, .mov (.c (.slice none 0 0))⟩]
    [0, 1, 2])
  (.seq (.region [⟨some 7, none, .mov (.t 1)⟩,
    ⟨some 8, none, .mov (.t 2)⟩,
    ⟨some 9, none, .build [(.int .i64 0), (.int .i64 0)] [(0, 1, .t 7), (1, 1, .t 8)]⟩,
    ⟨some 10, none, .bslice [(.int .i64 0), (.int .i64 0)] [(0, 2, .t 9)] 1 2⟩,
    ⟨some 11, none, .mov (.t 0)⟩,
    ⟨some 12, none, .call F.spans_Less [.t 10, .t 11]⟩,
    ⟨some 6, none, .mov (.t 12)⟩]
    [6])
  .ret))⟩

def RB.law05_of_1 : RCode :=
  (.seq (.seq (.region [⟨some 5, none, .mov (.t 4)⟩,
    ⟨some 6, none, .mov (.t 0)⟩,
    ⟨some 7, none, .len (.t 6)⟩,
    ⟨some 8, none, .bin .lss (.t 5) (.t 7)⟩]
    [0, 3, 4, 8])
  (.cond (.t 8)
    .skip
    (.exit 0)))
  (.seq (.block 1
    (.drawn [⟨some 11, none, .mov (.t 3)⟩,
      ⟨some 12, none, .mov (.t 0)⟩,
      ⟨some 13, none, .mov (.t 4)⟩,
      ⟨some 14, none, .idxS 2 (.t 12) (.t 13)⟩,
      ⟨some 15, none, .fieldAddr 0 (.t 14)⟩,
      ⟨some 16, none, .load false 1 (.t 15)⟩,
      ⟨some 17, none, .mov (.t 0)⟩,
      ⟨some 18, none, .mov (.t 4)⟩,
      ⟨some 19, none, .idxS 2 (.t 17) (.t 18)⟩,
      ⟨some 20, none, .fieldAddr 1 (.t 19)⟩,
      ⟨some 21, none, .load false 1 (.t 20)⟩,
      ⟨some 22, none, .build [(.int .i64 0), (.int .i64 0)] [(0, 1, .t 16), (1, 1, .t 21)]⟩,
      ⟨some 23, none, .bslice [(.int .i64 0), (.int .i64 0)] [(0, 2, .t 22)] 1 2⟩,
      ⟨some 24, none, .app 2 16 (.t 11) (.t 23)⟩,
      ⟨some 3, none, .mov (.t 24)⟩]
      [[], [], [], [1, 2], [3], [4], [], [], [6, 7], [8], [9], [5, 10], [11], [0, 12], [13, 13, 0, 1, 2, 3, 4, 5, 6, 7, 8, 9, 10, 11, 12, 13]]
      [(0, []), (1, []), (2, []), (3, []), (4, []), (6, []), (7, []), (8, []), (9, []), (5, []), (10, []), (11, []), (12, []), (13, []), (14, [])]
      [[], [], [], [1, 2], [1, 2, 3], [1, 2, 3, 4], [], [], [6, 7], [6, 7, 8], [6, 7, 8, 9], [1, 2, 3, 4, 5, 6, 7, 8, 9, 10], [1, 2, 3, 4, 5, 6, 7, 8, 9, 10, 11], [0, 1, 2, 3, 4, 5, 6, 7, 8, 9, 10, 11, 12], [0, 1, 2, 3, 4, 5, 6, 7, 8, 9, 10, 11, 12, 13]]
      [0, 3, 4]) [0, 3, 4])
  (.region [⟨some 9, none, .mov (.t 4)⟩,
    ⟨some 10, none, .bin .add (.t 9) (.c (.int .i64 1))⟩,
    ⟨some 4, none, .mov (.t 10)⟩]
    [0, 3, 4])))
def RC.law05_of : RFn := ⟨1, [.slot 2],
  (.seq (.region [⟨some 2, none, .mov (.c (.slice none 0 0))⟩]
    [0])
  (.seq (.region [⟨some 3, none, .mov (.c (.slice none 0 0))⟩]
    [0, 3])
  (.seq (.seq (.region [⟨some 4, none, .mov (.c (.int .i64 0))⟩]
    [0, 3, 4])
  (.block 0
    (.loop [0, 3, 4] RB.law05_of_1) [3]))
  (.seq (.region [⟨some 25, none, .mov (.t 3)⟩,
    ⟨some 2, none, .mov (.t 25)⟩]
    [2])
  .ret))))⟩

def RB.ref05_Op_1 : RCode :=
  (.seq (.seq (.region [⟨some 18, none, .mov (.t 9)⟩,
    ⟨some 19, none, .bin .add (.t 18) (.c (.int .i64 1))⟩,
    ⟨some 20, none, .mov (.t 8)⟩,
    ⟨some 21, none, .len (.t 20)⟩,
    ⟨some 22, none, .bin .lss (.t 19) (.t 21)⟩]
    [0, 1, 2, 7, 8, 9, 22])
  (.cond (.t 22)
    .skip
    (.exit 0)))
  (.seq (.block 1
    (.seq (.region [⟨some 25, none, .mov (.t 1)⟩,
      ⟨some 26, none, .mov (.t 8)⟩,
      ⟨some 27, none, .mov (.t 9)⟩,
      ⟨some 28, none, .idxS 1 (.t 26) (.t 27)⟩,
      ⟨some 29, none, .load false 1 (.t 28)⟩,
      ⟨some 30, none, .call F.ref05_Has [.t 25, .t 29]⟩,
      ⟨some 10, none, .mov (.t 30)⟩]
      [0, 1, 2, 7, 8, 9, 10])
    (.seq (.region [⟨some 31, none, .mov (.t 2)⟩,
      ⟨some 32, none, .mov (.t 8)⟩,
      ⟨some 33, none, .mov (.t 9)⟩,
      ⟨some 34, none, .idxS 1 (.t 32) (.t 33)⟩,
      ⟨some 35, none, .load false 1 (.t 34)⟩,
      ⟨some 36, none, .call F.ref05_Has [.t 31, .t 35]⟩,
      ⟨some 11, none, .mov (.t 36)⟩]
      [0, 1, 2, 7, 8, 9, 10, 11])
    (.seq (.region [⟨some 37, none, .mov (.t 10)⟩,
      ⟨some 38, none, .mov (.t 37)⟩,
      ⟨some 39, some (38, false), .mov (.t 11)⟩,
      ⟨some 40, none, .pick (.t 38) (.c (.bool true)) (.t 39)⟩,
      ⟨some 12, none, .mov (.t 40)⟩]
      [0, 1, 2, 7, 8, 9, 10, 11, 12])
    (.seq (.seq (.region [⟨some 41, none, .mov (.t 0)⟩,
      ⟨some 42, none, .bin .eql (.t 41) (.c (.int .i64 1))⟩]
      [0, 1, 2, 7, 8, 9, 10, 11, 12, 42])
    (.cond (.t 42)
      (.region [⟨some 43, none, .mov (.t 10)⟩,
        ⟨some 44, none, .mov (.t 43)⟩,
        ⟨some 45, some (44, true), .mov (.t 11)⟩,
        ⟨some 46, none, .pick (.t 44) (.t 45) (.c (.bool false))⟩,
        ⟨some 12, none, .mov (.t 46)⟩]
        [0, 1, 2, 7, 8, 9, 10, 11, 12])
      .skip))
    (.seq (.seq (.region [⟨some 47, none, .mov (.t 0)⟩,
      ⟨some 48, none, .bin .eql (.t 47) (.c (.int .i64 2))⟩]
      [0, 1, 2, 7, 8, 9, 10, 11, 12, 48])
    (.cond (.t 48)
      (.region [⟨some 49, none, .mov (.t 10)⟩,
        ⟨some 50, none, .mov (.t 49)⟩,
        ⟨some 51, some (50, true), .mov (.t 11)⟩,
        ⟨some 52, some (50, true), .un .not (.t 51)⟩,
        ⟨some 53, none, .pick (.t 50) (.t 52) (.c (.bool false))⟩,
        ⟨some 12, none, .mov (.t 53)⟩]
        [0, 1, 2, 7, 8, 9, 12])
      .skip))
    (.seq (.seq (.region [⟨some 54, none, .mov (.t 12)⟩,
      ⟨some 55, none, .un .not (.t 54)⟩]
      [0, 1, 2, 7, 8, 9, 55])
    (.cond (.t 55)
      (.exit 1)
      .skip))
    (.seq (.region [⟨some 56, none, .mov (.t 7)⟩,
      ⟨some 57, none, .len (.t 56)⟩,
      ⟨some 13, none, .mov (.t 57)⟩]
      [0, 1, 2, 7, 8, 9, 13])
    (.seq (.drawn [⟨some 58, none, .mov (.t 13)⟩,
      ⟨some 59, none, .bin .gtr (.t 58) (.c (.int .i64 0))⟩,
      ⟨some 60, none, .mov (.t 59)⟩,
      ⟨some 61, some (60, true), .mov (.t 7)⟩,
      ⟨some 62, some (60, true), .mov (.t 13)⟩,
      ⟨some 63, some (60, true), .bin .sub (.t 62) (.c (.int .i64 1))⟩,
      ⟨some 64, some (60, true), .idxS 2 (.t 61) (.t 63)⟩,
      ⟨some 65, some (60, true), .fieldAddr 1 (.t 64)⟩,
      ⟨some 66, some (60, true), .load false 1 (.t 65)⟩,
      ⟨some 67, some (60, true), .mov (.t 8)⟩,
      ⟨some 68, some (60, true), .mov (.t 9)⟩,
      ⟨some 69, some (60, true), .idxS 1 (.t 67) (.t 68)⟩,
      ⟨some 70, some (60, true), .load false 1 (.t 69)⟩,
      ⟨some 71, some (60, true), .bin .eql (.t 66) (.t 70)⟩,
      ⟨some 72, none, .pick (.t 60) (.t 71) (.c (.bool false))⟩]
      [[], [0], [1], [2], [2], [4, 2], [3, 5, 2], [6, 2], [7, 2], [2], [2], [9, 10, 2], [11, 2], [8, 12, 2], [2, 13]]
      [(0, []), (1, []), (2, []), (3, []), (4, []), (5, []), (6, []), (7, []), (9, []), (10, []), (11, []), (8, []), (12, []), (13, []), (14, [])]
      [[], [0], [0, 1], [0, 1, 2], [0, 1, 2], [0, 1, 2, 4], [0, 1, 2, 3, 4, 5], [0, 1, 2, 3, 4, 5, 6], [0, 1, 2, 3, 4, 5, 6, 7], [0, 1, 2], [0, 1, 2], [0, 1, 2, 9, 10], [0, 1, 2, 9, 10, 11], [0, 1, 2, 3, 4, 5, 6, 7, 8, 9, 10, 11, 12], [0, 1, 2, 3, 4, 5, 6, 7, 8, 9, 10, 11, 12, 13]]
      [0, 1, 2, 7, 8, 9, 13, 72])
    (.cond (.t 72)
      (.region [⟨some 73, none, .mov (.t 7)⟩,
        ⟨some 74, none, .mov (.t 13)⟩,
        ⟨some 75, none, .bin .sub (.t 74) (.c (.int .i64 1))⟩,
        ⟨some 76, none, .mov (.t 8)⟩,
        ⟨some 77, none, .mov (.t 9)⟩,
        ⟨some 78, none, .bin .add (.t 77) (.c (.int .i64 1))⟩,
        ⟨some 79, none, .idxS 1 (.t 76) (.t 78)⟩,
        ⟨some 80, none, .load false 1 (.t 79)⟩,
        ⟨some 81, none, .idxS 2 (.t 73) (.t 75)⟩,
        ⟨some 82, none, .fieldAddr 1 (.t 81)⟩,
        ⟨none, none, .store 1 (.t 82) (.t 80)⟩]
        [0, 1, 2, 7, 8, 9])
      (.drawn [⟨some 83, none, .mov (.t 7)⟩,
        ⟨some 84, none, .mov (.t 8)⟩,
        ⟨some 85, none, .mov (.t 9)⟩,
        ⟨some 86, none, .idxS 1 (.t 84) (.t 85)⟩,
        ⟨some 87, none, .load false 1 (.t 86)⟩,
        ⟨some 88, none, .mov (.t 8)⟩,
        ⟨some 89, none, .mov (.t 9)⟩,
        ⟨some 90, none, .bin .add (.t 89) (.c (.int .i64 1))⟩,
        ⟨some 91, none, .idxS 1 (.t 88) (.t 90)⟩,
        ⟨some 92, none, .load false 1 (.t 91)⟩,
        ⟨some 93, none, .build [(.int .i64 0), (.int .i64 0)] [(0, 1, .t 87), (1, 1, .t 92)]⟩,
        ⟨some 94, none, .bslice [(.int .i64 0), (.int .i64 0)] [(0, 2, .t 93)] 1 2⟩,
        ⟨some 95, none, .app 2 16 (.t 83) (.t 94)⟩,
        ⟨some 7, none, .mov (.t 95)⟩]
        [[], [], [], [1, 2], [3], [], [], [6], [5, 7], [8], [4, 9], [10], [0, 11], [12, 12, 0, 1, 2, 3, 4, 5, 6, 7, 8, 9, 10, 11, 12]]
        [(0, []), (1, []), (2, []), (3, []), (5, []), (6, []), (7, []), (8, []), (4, []), (9, []), (10, []), (11, []), (12, []), (13, [])]
        [[], [], [], [1, 2], [1, 2, 3], [], [], [6], [5, 6, 7], [5, 6, 7, 8], [1, 2, 3, 4, 5, 6, 7, 8, 9], [1, 2, 3, 4, 5, 6, 7, 8, 9, 10], [0, 1, 2, 3, 4, 5, 6, 7, 8, 9, 10, 11], [0, 1, 2, 3, 4, 5, 6, 7, 8, 9, 10, 11, 12]]
        [0, 1, 2, 7, 8, 9])))))))))) [0, 1, 2, 7, 8, 9])
  (.region [⟨some 23, none, .mov (.t 9)⟩,
    ⟨some 24, none, .bin .add (.t 23) (.c (.int .i64 1))⟩,
    ⟨some 9, none, .mov (.t 24)⟩]
    [0, 1, 2, 7, 8, 9])))
def RC.ref05_Op : RFn := ⟨3, [.slot 6],
  (.seq (.region [⟨some 6, none, .mov (.c (.slice none 0 0))⟩]
    [0, 1, 2])
  (.seq (.region [⟨some 14, none, .bslice [] [] 0 2⟩,
    ⟨some 7, none, .mov (.t 14)⟩]
    [0, 1, 2, 7])
  (.seq (.region [⟨some 15, none, .mov (.t 1)⟩,
    ⟨some 16, none, .mov (.t 2)⟩,
    ⟨some 17, none, .call F.ref05_ends [.t 15, .t 16]⟩,
    ⟨some 8, none, .mov (.t 17)⟩]
    [0, 1, 2, 7, 8])
  (.seq (.seq (.region [⟨some 9, none, .mov (.c (.int .i64 0))⟩]
    [0, 1, 2, 7, 8, 9])
  (.block 0
    (.loop [0, 1, 2, 7, 8, 9] RB.ref05_Op_1) [7]))
  (.seq (.region [⟨some 96, none, .mov (.t 7)⟩,
    ⟨some 6, none, .mov (.t 96)⟩]
    [6])
  .ret)))))⟩

def RC.law05_awake : RFn := ⟨0, [.slot 0],
  (.seq (.region [⟨some 0, none, .mov (.c (.bool false))⟩]
    [])
  (.seq (.region [⟨some 1, none, .build [(.int .i64 0), (.int .i64 0)] [(0, 1, .c (.int .i64 4)), (1, 1, .c (.int .i64 6))]⟩,
    ⟨some 2, none, .build [(.int .i64 0), (.int .i64 0)] [(0, 1, .c (.int .i64 1)), (1, 1, .c (.int .i64 3))]⟩,
    ⟨some 3, none, .build [(.int .i64 0), (.int .i64 0)] [(0, 1, .c (.int .i64 3)), (1, 1, .c (.int .i64 4))]⟩,
    ⟨some 4, none, .bslice [(.int .i64 0), (.int .i64 0), (.int .i64 0), (.int .i64 0), (.int .i64 0), (.int .i64 0)] [(0, 2, .t 1), (2, 2, .t 2), (4, 2, .t 3)] 3 2⟩,
    ⟨some 5, none, .call F.spans_Norm [.t 4]⟩,
    ⟨some 6, none, .build [(.int .i64 0), (.int .i64 0)] [(0, 1, .c (.int .i64 1)), (1, 1, .c (.int .i64 6))]⟩,
    ⟨some 7, none, .bslice [(.int .i64 0), (.int .i64 0)] [(0, 2, .t 6)] 1 2⟩,
    ⟨some 8, none, .call F.law05_same [.t 5, .t 7]⟩,
    ⟨some 9, none, .mov (.t 8)⟩,
    ⟨some 10, some (9, true), .build [(.int .i64 0), (.int .i64 0)] [(0, 1, .c (.int .i64 0)), (1, 1, .c (.int .i64 9))]⟩,
    ⟨some 11, some (9, true), .bslice [(.int .i64 0), (.int .i64 0)] [(0, 2, .t 10)] 1 2⟩,
    ⟨some 12, some (9, true), .build [(.int .i64 0), (.int .i64 0)] [(0, 1, .c (.int .i64 2)), (1, 1, .c (.int .i64 4))]⟩,
    ⟨some 13, some (9, true), .bslice [(.int .i64 0), (.int .i64 0)] [(0, 2, .t 12)] 1 2⟩,
    ⟨some 14, some (9, true), .call F.spans_Less [.t 11, .t 13]⟩,
    ⟨some 15, some (9, true), .build [(.int .i64 0), (.int .i64 0)] [(0, 1, .c (.int .i64 0)), (1, 1, .c (.int .i64 2))]⟩,
    ⟨some 16, some (9, true), .build [(.int .i64 0), (.int .i64 0)] [(0, 1, .c (.int .i64 4)), (1, 1, .c (.int .i64 9))]⟩,
    ⟨some 17, some (9, true), .bslice [(.int .i64 0), (.int .i64 0), (.int .i64 0), (.int .i64 0)] [(0, 2, .t 15), (2, 2, .t 16)] 2 2⟩,
    ⟨some 18, some (9, true), .call F.law05_same [.t 14, .t 17]⟩,
    ⟨some 19, none, .pick (.t 9) (.t 18) (.c (.bool false))⟩,
    ⟨some 20, none, .mov (.t 19)⟩,
    ⟨some 21, some (20, true), .build [(.int .i64 0), (.int .i64 0)] [(0, 1, .c (.int .i64 2)), (1, 1, .c (.int .i64 5))]⟩,
    ⟨some 22, some (20, true), .bslice [(.int .i64 0), (.int .i64 0)] [(0, 2, .t 21)] 1 2⟩,
    ⟨some 23, some (20, true), .call F.spans_Total [.t 22]⟩,
    ⟨some 24, some (20, true), .bin .eql (.t 23) (.c (u64 3#64))⟩,
    ⟨some 25, none, .pick (.t 20) (.t 24) (.c (.bool false))⟩,
    ⟨some 0, none, .mov (.t 25)⟩]
    [0])
  .ret))⟩

def RB.spans_Norm_1 : RCode :=
  (.seq (.region [⟨some 16, none, .bin .lss (.t 15) (.t 14)⟩]
    [4, 13, 14, 15, 16])
  (.seq (.cond (.t 16)
    .skip
    (.exit 0))
  (.seq (.block 1
    (.seq (.region [⟨some 17, none, .idxS 2 (.t 13) (.t 15)⟩,
      ⟨some 18, none, .load true 2 (.t 17)⟩,
      ⟨some 6, none, .alloc [(.int .i64 0), (.int .i64 0)]⟩,
      ⟨none, none, .store 2 (.t 6) (.t 18)⟩]
      [4, 6, 13, 14, 15])
    (.seq (.seq (.region [⟨some 19, none, .mov (.t 4)⟩,
      ⟨some 20, none, .len (.t 19)⟩,
      ⟨some 7, none, .mov (.t 20)⟩]
      [4, 6, 7, 13, 14, 15])
    (.seq (.drawn [⟨some 21, none, .mov (.t 7)⟩,
      ⟨some 22, none, .bin .gtr (.t 21) (.c (.int .i64 0))⟩,
      ⟨some 23, none, .mov (.t 22)⟩,
      ⟨some 24, some (23, true), .fieldAddr 0 (.t 6)⟩,
      ⟨some 25, some (23, true), .load false 1 (.t 24)⟩,
      ⟨some 26, some (23, true), .mov (.t 4)⟩,
      ⟨some 27, some (23, true), .mov (.t 7)⟩,
      ⟨some 28, some (23, true), .bin .sub (.t 27) (.c (.int .i64 1))⟩,
      ⟨some 29, some (23, true), .idxS 2 (.t 26) (.t 28)⟩,
      ⟨some 30, some (23, true), .fieldAddr 1 (.t 29)⟩,
      ⟨some 31, some (23, true), .load false 1 (.t 30)⟩,
      ⟨some 32, some (23, true), .bin .leq (.t 25) (.t 31)⟩,
      ⟨some 33, none, .pick (.t 23) (.t 32) (.c (.bool false))⟩]
      [[], [0], [1], [2], [3, 2], [2], [2], [6, 2], [5, 7, 2], [8, 2], [9, 2], [4, 10, 2], [2, 11]]
      [(0, []), (1, []), (2, []), (3, []), (5, []), (6, []), (7, []), (8, []), (9, []), (4, []), (10, []), (11, []), (12, [])]
      [[], [0], [0, 1], [0, 1, 2], [0, 1, 2, 3], [0, 1, 2], [0, 1, 2], [0, 1, 2, 6], [0, 1, 2, 5, 6, 7], [0, 1, 2, 5, 6, 7, 8], [0, 1, 2, 5, 6, 7, 8, 9], [0, 1, 2, 3, 4, 5, 6, 7, 8, 9, 10], [0, 1, 2, 3, 4, 5, 6, 7, 8, 9, 10, 11]]
      [4, 6, 7, 13, 14, 15, 33])
    (.cond (.t 33)
      (.seq (.drawn [⟨some 34, none, .mov (.t 4)⟩,
        ⟨some 35, none, .mov (.t 7)⟩,
        ⟨some 36, none, .bin .sub (.t 35) (.c (.int .i64 1))⟩,
        ⟨some 37, none, .mov (.t 4)⟩,
        ⟨some 38, none, .mov (.t 7)⟩,
        ⟨some 39, none, .bin .sub (.t 38) (.c (.int .i64 1))⟩,
        ⟨some 40, none, .idxS 2 (.t 37) (.t 39)⟩,
        ⟨some 41, none, .fieldAddr 1 (.t 40)⟩,
        ⟨some 42, none, .load false 1 (.t 41)⟩,
        ⟨some 43, none, .fieldAddr 1 (.t 6)⟩,
        ⟨some 44, none, .load false 1 (.t 43)⟩,
        ⟨some 45, none, .minmax true [.t 42, .t 44]⟩,
        ⟨some 46, none, .idxS 2 (.t 34) (.t 36)⟩,
        ⟨some 47, none, .fieldAddr 1 (.t 46)⟩,
        ⟨none, none, .store 1 (.t 47) (.t 45)⟩]
        [[], [], [1], [], [], [4], [3, 5], [6], [7], [], [9], [8, 10], [0, 2, 0, 1, 2, 3, 4, 5, 6, 7, 8, 9, 10, 11], [12, 0, 1, 2, 3, 4, 5, 6, 7, 8, 9, 10, 11], [13, 11, 0, 1, 2, 3, 4, 5, 6, 7, 8, 9, 10, 11]]
        [(0, []), (1, []), (2, []), (3, []), (4, []), (5, []), (6, []), (7, []), (9, []), (8, []), (10, []), (11, []), (12, []), (13, []), (14, [])]
        [[], [], [1], [], [], [4], [3, 4, 5], [3, 4, 5, 6], [3, 4, 5, 6, 7], [], [9], [3, 4, 5, 6, 7, 8, 9, 10], [0, 1, 2, 3, 4, 5, 6, 7, 8, 9, 10, 11], [0, 1, 2, 3, 4, 5, 6, 7, 8, 9, 10, 11, 12], [0, 1, 2, 3, 4, 5, 6, 7, 8, 9, 10, 11, 12, 13]]
        [4, 13, 14, 15])
      (.exit 1))
      .skip)))
    (.region [⟨some 48, none, .mov (.t 4)⟩,
      ⟨some 49, none, .load true 2 (.t 6)⟩,
      ⟨some 50, none, .bslice [(.int .i64 0), (.int .i64 0)] [(0, 2, .t 49)] 1 2⟩,
      ⟨some 51, none, .app 2 16 (.t 48) (.t 50)⟩,
      ⟨some 4, none, .mov (.t 51)⟩]
      [4, 13, 14, 15]))) [4, 13, 14, 15])
  (.region [⟨some 52, none, .bin .add (.t 15) (.c (.int .i64 1))⟩,
    ⟨some 15, none, .mov (.t 52)⟩]
    [4, 13, 14, 15]))))
def RC.spans_Norm : RFn := ⟨1, [.slot 2],
  (.seq (.region [⟨some 2, none, .mov (.c (.slice none 0 0))⟩]
    [0])
  (.seq (.region [⟨some 8, none, .mov (.t 0)⟩,
    ⟨some 9, none, .call F.slices_Clone_spans_Span_spans_Span [.t 8]⟩,
    ⟨some 10, none, .call F.slices_DeleteFunc_spans_Span_spans_Span [.t 9, .f F.spans_Span_empty]⟩,
    ⟨some 3, none, .mov (.t 10)⟩]
    [3])
  (.seq (.region [⟨some 11, none, .mov (.t 3)⟩,
    ⟨some 12, none, .call F.slices_SortFunc_spans_Span_spans_Span [.t 11, .f F.spans_Norm_1]⟩]
    [3])
  (.seq (.region [⟨some 4, none, .mov (.c (.slice none 0 0))⟩]
    [3, 4])
  (.seq (.seq (.region [⟨some 13, none, .mov (.t 3)⟩,
    ⟨some 14, none, .len (.t 13)⟩,
    ⟨some 15, none, .mov (.c (.int .i64 0))⟩]
    [4, 13, 14, 15])
  (.block 0
    (.loop [4, 13, 14, 15] RB.spans_Norm_1) [4]))
  (.seq (.region [⟨some 53, none, .mov (.t 4)⟩,
    ⟨some 2, none, .mov (.t 53)⟩]
    [2])
  .ret))))))⟩

def RB.spans_Check_1 : RCode :=
  (.seq (.region [⟨some 8, none, .bin .lss (.t 7) (.t 6)⟩]
    [0, 5, 6, 7, 8])
  (.seq (.cond (.t 8)
    .skip
    (.exit 0))
  (.seq (.block 1
    (.seq (.region [⟨some 9, none, .mov (.t 7)⟩,
      ⟨some 10, none, .idxS 2 (.t 5) (.t 7)⟩,
      ⟨some 11, none, .load true 2 (.t 10)⟩,
      ⟨some 4, none, .alloc [(.int .i64 0), (.int .i64 0)]⟩,
      ⟨some 3, none, .mov (.t 9)⟩,
      ⟨none, none, .store 2 (.t 4) (.t 11)⟩]
      [0, 3, 4, 5, 6, 7])
    (.seq (.drawn [⟨some 12, none, .load true 2 (.t 4)⟩,
      ⟨some 13, none, .call F.spans_Span_empty [.t 12]⟩,
      ⟨some 14, none, .mov (.t 13)⟩,
      ⟨some 15, some (14, false), .mov (.t 3)⟩,
      ⟨some 16, some (14, false), .bin .gtr (.t 15) (.c (.int .i64 0))⟩,
      ⟨some 17, some (14, false), .mov (.t 16)⟩,
      ⟨some 18, some (17, true), .fieldAddr 0 (.t 4)⟩,
      ⟨some 19, some (17, true), .load false 1 (.t 18)⟩,
      ⟨some 20, some (17, true), .mov (.t 0)⟩,
      ⟨some 21, some (17, true), .mov (.t 3)⟩,
      ⟨some 22, some (17, true), .bin .sub (.t 21) (.c (.int .i64 1))⟩,
      ⟨some 23, some (17, true), .idxS 2 (.t 20) (.t 22)⟩,
      ⟨some 24, some (17, true), .fieldAddr 1 (.t 23)⟩,
      ⟨some 25, some (17, true), .load false 1 (.t 24)⟩,
      ⟨some 26, some (17, true), .bin .leq (.t 19) (.t 25)⟩,
      ⟨some 27, some (14, false), .pick (.t 17) (.t 26) (.c (.bool false))⟩,
      ⟨some 28, none, .pick (.t 14) (.c (.bool true)) (.t 27)⟩]
      [[], [0], [1, 1], [2], [3, 2], [4, 2, 2], [5], [6, 5], [5], [5], [9, 5], [8, 10, 5], [11, 5], [12, 5], [7, 13, 5], [5, 14, 2], [2, 15]]
      [(0, []), (1, []), (2, []), (3, []), (4, []), (5, []), (6, []), (8, []), (9, []), (10, []), (11, []), (12, []), (7, []), (13, []), (14, []), (15, []), (16, [])]
      [[], [0], [0, 1], [0, 1, 2], [0, 1, 2, 3], [0, 1, 2, 3, 4], [0, 1, 2, 3, 4, 5], [0, 1, 2, 3, 4, 5, 6], [0, 1, 2, 3, 4, 5], [0, 1, 2, 3, 4, 5], [0, 1, 2, 3, 4, 5, 9], [0, 1, 2, 3, 4, 5, 8, 9, 10], [0, 1, 2, 3, 4, 5, 8, 9, 10, 11], [0, 1, 2, 3, 4, 5, 8, 9, 10, 11, 12], [0, 1, 2, 3, 4, 5, 6, 7, 8, 9, 10, 11, 12, 13], [0, 1, 2, 3, 4, 5, 6, 7, 8, 9, 10, 11, 12, 13, 14], [0, 1, 2, 3, 4, 5, 6, 7, 8, 9, 10, 11, 12, 13, 14, 15]]
      [0, 5, 6, 7, 28])
    (.cond (.t 28)
      (.seq (.region [⟨some 2, none, .mov (.c (.int .i64 1))⟩]
        [2])
      .ret)
      .skip))) [0, 5, 6, 7])
  (.region [⟨some 29, none, .bin .add (.t 7) (.c (.int .i64 1))⟩,
    ⟨some 7, none, .mov (.t 29)⟩]
    [0, 5, 6, 7]))))
def RC.spans_Check : RFn := ⟨1, [.slot 2],
  (.seq (.region [⟨some 2, none, .mov (.c (.int .i64 0))⟩]
    [0])
  (.seq (.seq (.region [⟨some 5, none, .mov (.t 0)⟩,
    ⟨some 6, none, .len (.t 5)⟩,
    ⟨some 7, none, .mov (.c (.int .i64 0))⟩]
    [0, 5, 6, 7])
  (.block 0
    (.loop [0, 5, 6, 7] RB.spans_Check_1) []))
  (.seq (.region [⟨some 2, none, .mov (.c (.int .i64 0))⟩]
    [2])
  .ret)))⟩

def RB.ref05_Right_1 : RCode :=
  (.seq (.seq (.region [⟨some 4, none, .mov (.t 3)⟩,
    ⟨some 5, none, .mov (.t 0)⟩,
    ⟨some 6, none, .len (.t 5)⟩,
    ⟨some 7, none, .bin .lss (.t 4) (.t 6)⟩]
    [0, 3, 7])
  (.cond (.t 7)
    .skip
    (.exit 0)))
  (.seq (.block 1
    (.seq (.drawn [⟨some 10, none, .mov (.t 0)⟩,
      ⟨some 11, none, .mov (.t 3)⟩,
      ⟨some 12, none, .idxS 2 (.t 10) (.t 11)⟩,
      ⟨some 13, none, .fieldAddr 1 (.t 12)⟩,
      ⟨some 14, none, .load false 1 (.t 13)⟩,
      ⟨some 15, none, .mov (.t 0)⟩,
      ⟨some 16, none, .mov (.t 3)⟩,
      ⟨some 17, none, .idxS 2 (.t 15) (.t 16)⟩,
      ⟨some 18, none, .fieldAddr 0 (.t 17)⟩,
      ⟨some 19, none, .load false 1 (.t 18)⟩,
      ⟨some 20, none, .bin .leq (.t 14) (.t 19)⟩,
      ⟨some 21, none, .mov (.t 20)⟩,
      ⟨some 22, some (21, false), .mov (.t 3)⟩,
      ⟨some 23, some (21, false), .bin .gtr (.t 22) (.c (.int .i64 0))⟩,
      ⟨some 24, some (21, false), .mov (.t 23)⟩,
      ⟨some 25, some (24, true), .mov (.t 0)⟩,
      ⟨some 26, some (24, true), .mov (.t 3)⟩,
      ⟨some 27, some (24, true), .idxS 2 (.t 25) (.t 26)⟩,
      ⟨some 28, some (24, true), .fieldAddr 0 (.t 27)⟩,
      ⟨some 29, some (24, true), .load false 1 (.t 28)⟩,
      ⟨some 30, some (24, true), .mov (.t 0)⟩,
      ⟨some 31, some (24, true), .mov (.t 3)⟩,
      ⟨some 32, some (24, true), .bin .sub (.t 31) (.c (.int .i64 1))⟩,
      ⟨some 33, some (24, true), .idxS 2 (.t 30) (.t 32)⟩,
      ⟨some 34, some (24, true), .fieldAddr 1 (.t 33)⟩,
      ⟨some 35, some (24, true), .load false 1 (.t 34)⟩,
      ⟨some 36, some (24, true), .bin .leq (.t 29) (.t 35)⟩,
      ⟨some 37, some (21, false), .pick (.t 24) (.t 36) (.c (.bool false))⟩,
      ⟨some 38, none, .pick (.t 21) (.c (.bool true)) (.t 37)⟩]
      [[], [], [0, 1], [2], [3], [], [], [5, 6], [7], [8], [4, 9], [10], [11], [12, 11], [13, 11, 11], [14], [14], [15, 16, 14], [17, 14], [18, 14], [14], [14], [21, 14], [20, 22, 14], [23, 14], [24, 14], [19, 25, 14], [14, 26, 11], [11, 27]]
      [(0, []), (1, []), (2, []), (3, []), (5, []), (6, []), (7, []), (8, []), (4, []), (9, []), (10, []), (11, []), (12, []), (13, []), (14, []), (15, []), (16, []), (17, []), (18, []), (20, []), (21, []), (22, []), (23, []), (24, []), (19, []), (25, []), (26, []), (27, []), (28, [])]
      [[], [], [0, 1], [0, 1, 2], [0, 1, 2, 3], [], [], [5, 6], [5, 6, 7], [5, 6, 7, 8], [0, 1, 2, 3, 4, 5, 6, 7, 8, 9], [0, 1, 2, 3, 4, 5, 6, 7, 8, 9, 10], [0, 1, 2, 3, 4, 5, 6, 7, 8, 9, 10, 11], [0, 1, 2, 3, 4, 5, 6, 7, 8, 9, 10, 11, 12], [0, 1, 2, 3, 4, 5, 6, 7, 8, 9, 10, 11, 12, 13], [0, 1, 2, 3, 4, 5, 6, 7, 8, 9, 10, 11, 12, 13, 14], [0, 1, 2, 3, 4, 5, 6, 7, 8, 9, 10, 11, 12, 13, 14], [0, 1, 2, 3, 4, 5, 6, 7, 8, 9, 10, 11, 12, 13, 14, 15, 16], [0, 1, 2, 3, 4, 5, 6, 7, 8, 9, 10, 11, 12, 13, 14, 15, 16, 17], [0, 1, 2, 3, 4, 5, 6, 7, 8, 9, 10, 11, 12, 13, 14, 15, 16, 17, 18], [0, 1, 2, 3, 4, 5, 6, 7, 8, 9, 10, 11, 12, 13, 14], [0, 1, 2, 3, 4, 5, 6, 7, 8, 9, 10, 11, 12, 13, 14], [0, 1, 2, 3, 4, 5, 6, 7, 8, 9, 10, 11, 12, 13, 14, 21], [0, 1, 2, 3, 4, 5, 6, 7, 8, 9, 10, 11, 12, 13, 14, 20, 21, 22], [0, 1, 2, 3, 4, 5, 6, 7, 8, 9, 10, 11, 12, 13, 14, 20, 21, 22, 23], [0, 1, 2, 3, 4, 5, 6, 7, 8, 9, 10, 11, 12, 13, 14, 20, 21, 22, 23, 24], [0, 1, 2, 3, 4, 5, 6, 7, 8, 9, 10, 11, 12, 13, 14, 15, 16, 17, 18, 19, 20, 21, 22, 23, 24, 25], [0, 1, 2, 3, 4, 5, 6, 7, 8, 9, 10, 11, 12, 13, 14, 15, 16, 17, 18, 19, 20, 21, 22, 23, 24, 25, 26], [0, 1, 2, 3, 4, 5, 6, 7, 8, 9, 10, 11, 12, 13, 14, 15, 16, 17, 18, 19, 20, 21, 22, 23, 24, 25, 26, 27]]
      [0, 3, 38])
    (.cond (.t 38)
      (.seq (.region [⟨some 2, none, .mov (.c (.bool false))⟩]
        [2])
      .ret)
      .skip)) [0, 3])
  (.region [⟨some 8, none, .mov (.t 3)⟩,
    ⟨some 9, none, .bin .add (.t 8) (.c (.int .i64 1))⟩,
    ⟨some 3, none, .mov (.t 9)⟩]
    [0, 3])))
def RC.ref05_Right : RFn := ⟨1, [.slot 2],
  (.seq (.region [⟨some 2, none, .mov (.c (.bool false))⟩]
    [0])
  (.seq (.seq (.region [⟨some 3, none, .mov (.c (.int .i64 0))⟩]
    [0, 3])
  (.block 0
    (.loop [0, 3] RB.ref05_Right_1) []))
  (.seq (.region [⟨some 2, none, .mov (.c (.bool true))⟩]
    [2])
  .ret)))⟩

def RC.spans_Has : RFn := ⟨2, [.slot 4],
  (.seq (.region [⟨some 3, none, .box (.t 1)⟩,
    ⟨some 4, none, .mov (.c (.bool false))⟩]
    [0, 3])
  (.seq (.region [⟨some 5, none, .mov (.t 0)⟩,
    ⟨some 6, none, .mkfn (.func F.spans_Has_1) [] [.t 3]⟩,
    ⟨some 7, none, .call F.slices_ContainsFunc_spans_Span_spans_Span [.t 5, .t 6]⟩,
    ⟨some 4, none, .mov (.t 7)⟩]
    [4])
  .ret))⟩

def RB.ref05_Has_1 : RCode :=
  (.seq (.seq (.region [⟨some 6, none, .mov (.t 5)⟩,
    ⟨some 7, none, .mov (.t 0)⟩,
    ⟨some 8, none, .len (.t 7)⟩,
    ⟨some 9, none, .bin .lss (.t 6) (.t 8)⟩]
    [0, 1, 5, 9])
  (.cond (.t 9)
    .skip
    (.exit 0)))
  (.seq (.block 1
    (.seq (.region [⟨some 12, none, .mov (.t 0)⟩,
      ⟨some 13, none, .mov (.t 5)⟩,
      ⟨some 14, none, .idxS 2 (.t 12) (.t 13)⟩,
      ⟨some 15, none, .fieldAddr 0 (.t 14)⟩,
      ⟨some 16, none, .load false 1 (.t 15)⟩,
      ⟨some 17, none, .mov (.t 1)⟩,
      ⟨some 18, none, .bin .leq (.t 16) (.t 17)⟩,
      ⟨some 19, none, .mov (.t 18)⟩,
      ⟨some 20, some (19, true), .mov (.t 1)⟩,
      ⟨some 21, some (19, true), .mov (.t 0)⟩,
      ⟨some 22, some (19, true), .mov (.t 5)⟩,
      ⟨some 23, some (19, true), .idxS 2 (.t 21) (.t 22)⟩,
      ⟨some 24, some (19, true), .fieldAddr 1 (.t 23)⟩,
      ⟨some 25, some (19, true), .load false 1 (.t 24)⟩,
      ⟨some 26, some (19, true), .bin .lss (.t 20) (.t 25)⟩,
      ⟨some 27, none, .pick (.t 19) (.t 26) (.c (.bool false))⟩]
      [0, 1, 5, 27])
    (.cond (.t 27)
      (.seq (.region [⟨some 4, none, .mov (.c (.bool true))⟩]
        [4])
      .ret)
      .skip)) [0, 1, 5])
  (.region [⟨some 10, none, .mov (.t 5)⟩,
    ⟨some 11, none, .bin .add (.t 10) (.c (.int .i64 1))⟩,
    ⟨some 5, none, .mov (.t 11)⟩]
    [0, 1, 5])))
def RC.ref05_Has : RFn := ⟨2, [.slot 4],
  (.seq (.region [⟨some 4, none, .mov (.c (.bool false))⟩]
    [0, 1])
  (.seq (.seq (.region [⟨some 5, none, .mov (.c (.int .i64 0))⟩]
    [0, 1, 5])
  (.block 0
    (.loop [0, 1, 5] RB.ref05_Has_1) []))
  (.seq (.region [⟨some 4, none, .mov (.c (.bool false))⟩]
    [4])
  .ret)))⟩

def RB.spans_Total_1 : RCode :=
  (.seq (.region [⟨some 10, none, .bin .lss (.t 9) (.t 8)⟩]
    [3, 7, 8, 9, 10])
  (.seq (.cond (.t 10)
    .skip
    (.exit 0))
  (.seq (.block 1
    (.seq (.region [⟨some 11, none, .idxS 2 (.t 7) (.t 9)⟩,
      ⟨some 12, none, .load true 2 (.t 11)⟩,
      ⟨some 5, none, .alloc [(.int .i64 0), (.int .i64 0)]⟩,
      ⟨none, none, .store 2 (.t 5) (.t 12)⟩]
      [3, 5, 7, 8, 9])
    (.region [⟨some 13, none, .mov (.t 3)⟩,
      ⟨some 14, none, .fieldAddr 1 (.t 5)⟩,
      ⟨some 15, none, .load false 1 (.t 14)⟩,
      ⟨some 16, none, .conv .u64 (.t 15)⟩,
      ⟨some 17, none, .fieldAddr 0 (.t 5)⟩,
      ⟨some 18, none, .load false 1 (.t 17)⟩,
      ⟨some 19, none, .conv .u64 (.t 18)⟩,
      ⟨some 20, none, .bin .sub (.t 16) (.t 19)⟩,
      ⟨some 21, none, .bin .add (.t 13) (.t 20)⟩,
      ⟨some 3, none, .mov (.t 21)⟩]
      [3, 7, 8, 9])) [3, 7, 8, 9])
  (.region [⟨some 22, none, .bin .add (.t 9) (.c (.int .i64 1))⟩,
    ⟨some 9, none, .mov (.t 22)⟩]
    [3, 7, 8, 9]))))
def RC.spans_Total : RFn := ⟨1, [.slot 2],
  (.seq (.region [⟨some 2, none, .mov (.c (u64 0#64))⟩]
    [0])
  (.seq (.region [⟨some 3, none, .mov (.c (u64 0#64))⟩]
    [0, 3])
  (.seq (.seq (.region [⟨some 6, none, .mov (.t 0)⟩,
    ⟨some 7, none, .call F.spans_Norm [.t 6]⟩,
    ⟨some 8, none, .len (.t 7)⟩,
    ⟨some 9, none, .mov (.c (.int .i64 0))⟩]
    [3, 7, 8, 9])
  (.block 0
    (.loop [3, 7, 8, 9] RB.spans_Total_1) [3]))
  (.seq (.region [⟨some 23, none, .mov (.t 3)⟩,
    ⟨some 2, none, .mov (.t 23)⟩]
    [2])
  .ret))))⟩

def RB.ref05_Total_1 : RCode :=
  (.seq (.seq (.region [⟨some 8, none, .mov (.t 5)⟩,
    ⟨some 9, none, .mov (.t 4)⟩,
    ⟨some 10, none, .len (.t 9)⟩,
    ⟨some 11, none, .bin .lss (.t 8) (.t 10)⟩]
    [3, 4, 5, 11])
  (.cond (.t 11)
    .skip
    (.exit 0)))
  (.seq (.block 1
    (.drawn [⟨some 14, none, .mov (.t 3)⟩,
      ⟨some 15, none, .mov (.t 4)⟩,
      ⟨some 16, none, .mov (.t 5)⟩,
      ⟨some 17, none, .idxS 2 (.t 15) (.t 16)⟩,
      ⟨some 18, none, .fieldAddr 1 (.t 17)⟩,
      ⟨some 19, none, .load false 1 (.t 18)⟩,
      ⟨some 20, none, .conv .u64 (.t 19)⟩,
      ⟨some 21, none, .mov (.t 4)⟩,
      ⟨some 22, none, .mov (.t 5)⟩,
      ⟨some 23, none, .idxS 2 (.t 21) (.t 22)⟩,
      ⟨some 24, none, .fieldAddr 0 (.t 23)⟩,
      ⟨some 25, none, .load false 1 (.t 24)⟩,
      ⟨some 26, none, .conv .u64 (.t 25)⟩,
      ⟨some 27, none, .bin .sub (.t 20) (.t 26)⟩,
      ⟨some 28, none, .bin .add (.t 14) (.t 27)⟩,
      ⟨some 3, none, .mov (.t 28)⟩]
      [[], [], [], [1, 2], [3], [4], [5], [], [], [7, 8], [9], [10], [11], [6, 12], [0, 13], [14, 0, 1, 2, 3, 4, 5, 6, 7, 8, 9, 10, 11, 12, 13, 14]]
      [(0, []), (1, []), (2, []), (3, []), (4, []), (7, []), (8, []), (9, []), (10, []), (5, []), (6, []), (11, []), (12, []), (13, []), (14, []), (15, [])]
      [[], [], [], [1, 2], [1, 2, 3], [1, 2, 3, 4], [1, 2, 3, 4, 5], [], [], [7, 8], [7, 8, 9], [7, 8, 9, 10], [7, 8, 9, 10, 11], [1, 2, 3, 4, 5, 6, 7, 8, 9, 10, 11, 12], [0, 1, 2, 3, 4, 5, 6, 7, 8, 9, 10, 11, 12, 13], [0, 1, 2, 3, 4, 5, 6, 7, 8, 9, 10, 11, 12, 13, 14]]
      [3, 4, 5]) [3, 4, 5])
  (.region [⟨some 12, none, .mov (.t 5)⟩,
    ⟨some 13, none, .bin .add (.t 12) (.c (.int .i64 1))⟩,
    ⟨some 5, none, .mov (.t 13)⟩]
    [3, 4, 5])))
def RC.ref05_Total : RFn := ⟨1, [.slot 2],
  (.seq (.region [⟨some 2, none, .mov (.c (u64 0#64))⟩]
    [0])
  (.seq (.region [⟨some 3, none, .mov (.c (u64 0#64))⟩]
    [0, 3])
  (.seq (.region [⟨some 6, none, .mov (.t 0)⟩,
    ⟨some 7, none, .call F.ref05_Op [.c (.int .i64 0), .t 6, .c (.slice none 0 0)]⟩,
    ⟨some 4, none, .mov (.t 7)⟩]
    [3, 4])
  (.seq (.seq (.region [⟨some 5, none, .mov (.c (.int .i64 0))⟩]
    [3, 4, 5])
  (.block 0
    (.loop [3, 4, 5] RB.ref05_Total_1) [3]))
  (.seq (.region [⟨some 29, none, .mov (.t 3)⟩,
    ⟨some 2, none, .mov (.t 29)⟩]
    [2])
  .ret)))))⟩

def RC.spans_Union : RFn := ⟨2, [.slot 4],
  (.seq (.region [⟨some 4, none, .mov (.c (.slice none 0 0))⟩]
    [0, 1])
  (.seq (.region [⟨some 5, none, .mov (.t 0)⟩,
    ⟨some 6, none, .mov (.t 1)⟩,
    ⟨some 7, none, .bslice [(.slice none 0 0), (.slice none 0 0)] [(0, 1, .t 5), (1, 1, .t 6)] 2 1⟩,
    ⟨some 8, none, .call F.slices_Concat_spans_Span_spans_Span [.t 7]⟩,
    ⟨some 9, none, .call F.spans_Norm [.t 8]⟩,
    ⟨some 4, none, .mov (.t 9)⟩]
    [4])
  .ret))⟩

def RB.spans_Meet_1 : RCode :=
  (.seq (.seq (.region [⟨some 13, none, .mov (.t 5)⟩,
    ⟨some 14, none, .len (.t 13)⟩,
    ⟨some 15, none, .bin .gtr (.t 14) (.c (.int .i64 0))⟩,
    ⟨some 16, none, .mov (.t 15)⟩,
    ⟨some 17, some (16, true), .mov (.t 6)⟩,
    ⟨some 18, some (16, true), .len (.t 17)⟩,
    ⟨some 19, some (16, true), .bin .gtr (.t 18) (.c (.int .i64 0))⟩,
    ⟨some 20, none, .pick (.t 16) (.t 19) (.c (.bool false))⟩]
    [5, 6, 7, 20])
  (.cond (.t 20)
    .skip
    (.exit 0)))
  (.block 1
    (.seq (.drawn [⟨some 21, none, .mov (.t 5)⟩,
      ⟨some 22, none, .idxS 2 (.t 21) (.c (.int .i64 0))⟩,
      ⟨some 23, none, .fieldAddr 0 (.t 22)⟩,
      ⟨some 24, none, .load false 1 (.t 23)⟩,
      ⟨some 25, none, .mov (.t 6)⟩,
      ⟨some 26, none, .idxS 2 (.t 25) (.c (.int .i64 0))⟩,
      ⟨some 27, none, .fieldAddr 0 (.t 26)⟩,
      ⟨some 28, none, .load false 1 (.t 27)⟩,
      ⟨some 29, none, .minmax true [.t 24, .t 28]⟩,
      ⟨some 30, none, .mov (.t 5)⟩,
      ⟨some 31, none, .idxS 2 (.t 30) (.c (.int .i64 0))⟩,
      ⟨some 32, none, .fieldAddr 1 (.t 31)⟩,
      ⟨some 33, none, .load false 1 (.t 32)⟩,
      ⟨some 34, none, .mov (.t 6)⟩,
      ⟨some 35, none, .idxS 2 (.t 34) (.c (.int .i64 0))⟩,
      ⟨some 36, none, .fieldAddr 1 (.t 35)⟩,
      ⟨some 37, none, .load false 1 (.t 36)⟩,
      ⟨some 38, none, .minmax false [.t 33, .t 37]⟩,
      ⟨some 39, none, .build [(.int .i64 0), (.int .i64 0)] [(0, 1, .t 29), (1, 1, .t 38)]⟩,
      ⟨some 8, none, .alloc [(.int .i64 0), (.int .i64 0)]⟩,
      ⟨none, none, .store 2 (.t 8) (.t 39)⟩]
      [[], [0], [1], [2], [], [4], [5], [6], [3, 7], [], [9], [10], [11], [], [13], [14], [15], [12, 16], [8, 17], [], [19, 18, 0, 1, 2, 3, 4, 5, 6, 7, 8, 9, 10, 11, 12, 13, 14, 15, 16, 17, 18, 19]]
      [(0, []), (1, []), (2, []), (4, []), (5, []), (6, []), (9, []), (10, []), (11, []), (13, []), (14, []), (15, []), (3, []), (7, []), (8, []), (12, []), (16, []), (17, []), (18, []), (19, []), (20, [])]
      [[], [0], [0, 1], [0, 1, 2], [], [4], [4, 5], [4, 5, 6], [0, 1, 2, 3, 4, 5, 6, 7], [], [9], [9, 10], [9, 10, 11], [], [13], [13, 14], [13, 14, 15], [9, 10, 11, 12, 13, 14, 15, 16], [0, 1, 2, 3, 4, 5, 6, 7, 8, 9, 10, 11, 12, 13, 14, 15, 16, 17], [], [0, 1, 2, 3, 4, 5, 6, 7, 8, 9, 10, 11, 12, 13, 14, 15, 16, 17, 18, 19]]
      [5, 6, 7, 8])
    (.seq (.seq (.region [⟨some 40, none, .load true 2 (.t 8)⟩,
      ⟨some 41, none, .call F.spans_Span_empty [.t 40]⟩,
      ⟨some 42, none, .un .not (.t 41)⟩]
      [5, 6, 7, 8, 42])
    (.cond (.t 42)
      (.region [⟨some 43, none, .mov (.t 7)⟩,
        ⟨some 44, none, .load true 2 (.t 8)⟩,
        ⟨some 45, none, .bslice [(.int .i64 0), (.int .i64 0)] [(0, 2, .t 44)] 1 2⟩,
        ⟨some 46, none, .app 2 16 (.t 43) (.t 45)⟩,
        ⟨some 7, none, .mov (.t 46)⟩]
        [5, 6, 7])
      .skip))
    (.seq (.drawn [⟨some 47, none, .mov (.t 5)⟩,
      ⟨some 48, none, .idxS 2 (.t 47) (.c (.int .i64 0))⟩,
      ⟨some 49, none, .fieldAddr 1 (.t 48)⟩,
      ⟨some 50, none, .load false 1 (.t 49)⟩,
      ⟨some 51, none, .mov (.t 6)⟩,
      ⟨some 52, none, .idxS 2 (.t 51) (.c (.int .i64 0))⟩,
      ⟨some 53, none, .fieldAddr 1 (.t 52)⟩,
      ⟨some 54, none, .load false 1 (.t 53)⟩,
      ⟨some 55, none, .bin .lss (.t 50) (.t 54)⟩]
      [[], [0], [1], [2], [], [4], [5], [6], [3, 7]]
      [(0, []), (1, []), (2, []), (4, []), (5, []), (6, []), (3, []), (7, []), (8, [])]
      [[], [0], [0, 1], [0, 1, 2], [], [4], [4, 5], [4, 5, 6], [0, 1, 2, 3, 4, 5, 6, 7]]
      [5, 6, 7, 55])
    (.cond (.t 55)
      (.region [⟨some 56, none, .mov (.t 5)⟩,
        ⟨some 57, none, .sub 2 (.t 56) (some (.c (.int .i64 1))) none none⟩,
        ⟨some 5, none, .mov (.t 57)⟩]
        [5, 6, 7])
      (.region [⟨some 58, none, .mov (.t 6)⟩,
        ⟨some 59, none, .sub 2 (.t 58) (some (.c (.int .i64 1))) none none⟩,
        ⟨some 6, none, .mov (.t 59)⟩]
        [5, 6, 7]))))) [5, 6, 7]))
def RC.spans_Meet : RFn := ⟨2, [.slot 4],
  (.seq (.region [⟨some 4, none, .mov (.c (.slice none 0 0))⟩]
    [0, 1])
  (.seq (.region [⟨some 9, none, .mov (.t 0)⟩,
    ⟨some 10, none, .call F.spans_Norm [.t 9]⟩,
    ⟨some 11, none, .mov (.t 1)⟩,
    ⟨some 12, none, .call F.spans_Norm [.t 11]⟩,
    ⟨some 5, none, .mov (.t 10)⟩,
    ⟨some 6, none, .mov (.t 12)⟩]
    [5, 6])
  (.seq (.region [⟨some 7, none, .mov (.c (.slice none 0 0))⟩]
    [5, 6, 7])
  (.seq (.block 0
    (.loop [5, 6, 7] RB.spans_Meet_1) [7])
  (.seq (.region [⟨some 60, none, .mov (.t 7)⟩,
    ⟨some 4, none, .mov (.t 60)⟩]
    [4])
  .ret)))))⟩

def RB.spans_Less_1 : RCode :=
  (.seq (.region [⟨some 23, none, .bin .lss (.t 22) (.t 21)⟩]
    [5, 6, 8, 14, 15, 16, 20, 21, 22, 23])
  (.seq (.cond (.t 23)
    .skip
    (.exit 2))
  (.seq (.block 3
    (.seq (.region [⟨some 24, none, .idxS 2 (.t 20) (.t 22)⟩,
      ⟨some 25, none, .load true 2 (.t 24)⟩,
      ⟨some 10, none, .alloc [(.int .i64 0), (.int .i64 0)]⟩,
      ⟨none, none, .store 2 (.t 10) (.t 25)⟩]
      [5, 6, 8, 10, 14, 15, 16, 20, 21, 22])
    (.seq (.seq (.region [⟨some 26, none, .fieldAddr 1 (.t 10)⟩,
      ⟨some 27, none, .load false 1 (.t 26)⟩,
      ⟨some 28, none, .fieldAddr 0 (.t 8)⟩,
      ⟨some 29, none, .load false 1 (.t 28)⟩,
      ⟨some 30, none, .bin .leq (.t 27) (.t 29)⟩,
      ⟨some 31, none, .mov (.t 30)⟩,
      ⟨some 32, some (31, false), .fieldAddr 0 (.t 10)⟩,
      ⟨some 33, some (31, false), .load false 1 (.t 32)⟩,
      ⟨some 34, some (31, false), .fieldAddr 1 (.t 8)⟩,
      ⟨some 35, some (31, false), .load false 1 (.t 34)⟩,
      ⟨some 36, some (31, false), .bin .geq (.t 33) (.t 35)⟩,
      ⟨some 37, none, .pick (.t 31) (.c (.bool true)) (.t 36)⟩]
      [5, 6, 8, 10, 14, 15, 16, 20, 21, 22, 37])
    (.cond (.t 37)
      (.exit 3)
      .skip))
    (.seq (.seq (.region [⟨some 38, none, .fieldAddr 0 (.t 10)⟩,
      ⟨some 39, none, .load false 1 (.t 38)⟩,
      ⟨some 40, none, .fieldAddr 0 (.t 8)⟩,
      ⟨some 41, none, .load false 1 (.t 40)⟩,
      ⟨some 42, none, .bin .gtr (.t 39) (.t 41)⟩]
      [5, 6, 8, 10, 14, 15, 16, 20, 21, 22, 42])
    (.cond (.t 42)
      (.region [⟨some 43, none, .mov (.t 5)⟩,
        ⟨some 44, none, .fieldAddr 0 (.t 8)⟩,
        ⟨some 45, none, .load false 1 (.t 44)⟩,
        ⟨some 46, none, .fieldAddr 0 (.t 10)⟩,
        ⟨some 47, none, .load false 1 (.t 46)⟩,
        ⟨some 48, none, .build [(.int .i64 0), (.int .i64 0)] [(0, 1, .t 45), (1, 1, .t 47)]⟩,
        ⟨some 49, none, .bslice [(.int .i64 0), (.int .i64 0)] [(0, 2, .t 48)] 1 2⟩,
        ⟨some 50, none, .app 2 16 (.t 43) (.t 49)⟩,
        ⟨some 5, none, .mov (.t 50)⟩]
        [5, 6, 8, 10, 14, 15, 16, 20, 21, 22])
      .skip))
    (.region [⟨some 51, none, .fieldAddr 0 (.t 8)⟩,
      ⟨some 52, none, .load false 1 (.t 51)⟩,
      ⟨some 53, none, .fieldAddr 1 (.t 10)⟩,
      ⟨some 54, none, .load false 1 (.t 53)⟩,
      ⟨some 55, none, .minmax true [.t 52, .t 54]⟩,
      ⟨some 56, none, .fieldAddr 0 (.t 8)⟩,
      ⟨none, none, .store 1 (.t 56) (.t 55)⟩]
      [5, 6, 8, 14, 15, 16, 20, 21, 22])))) [5, 6, 8, 14, 15, 16, 20, 21, 22])
  (.region [⟨some 57, none, .bin .add (.t 22) (.c (.int .i64 1))⟩,
    ⟨some 22, none, .mov (.t 57)⟩]
    [5, 6, 8, 14, 15, 16, 20, 21, 22]))))
def RB.spans_Less_2 : RCode :=
  (.seq (.region [⟨some 17, none, .bin .lss (.t 16) (.t 15)⟩]
    [5, 6, 14, 15, 16, 17])
  (.seq (.cond (.t 17)
    .skip
    (.exit 0))
  (.seq (.block 1
    (.seq (.region [⟨some 18, none, .idxS 2 (.t 14) (.t 16)⟩,
      ⟨some 19, none, .load true 2 (.t 18)⟩,
      ⟨some 8, none, .alloc [(.int .i64 0), (.int .i64 0)]⟩,
      ⟨none, none, .store 2 (.t 8) (.t 19)⟩]
      [5, 6, 8, 14, 15, 16])
    (.seq (.seq (.region [⟨some 20, none, .mov (.t 6)⟩,
      ⟨some 21, none, .len (.t 20)⟩,
      ⟨some 22, none, .mov (.c (.int .i64 0))⟩]
      [5, 6, 8, 14, 15, 16, 20, 21, 22])
    (.block 2
      (.loop [5, 6, 8, 14, 15, 16, 20, 21, 22] RB.spans_Less_1) [5, 6, 8, 14, 15, 16]))
    (.seq (.region [⟨some 58, none, .load true 2 (.t 8)⟩,
      ⟨some 59, none, .call F.spans_Span_empty [.t 58]⟩,
      ⟨some 60, none, .un .not (.t 59)⟩]
      [5, 6, 8, 14, 15, 16, 60])
    (.cond (.t 60)
      (.region [⟨some 61, none, .mov (.t 5)⟩,
        ⟨some 62, none, .load true 2 (.t 8)⟩,
        ⟨some 63, none, .bslice [(.int .i64 0), (.int .i64 0)] [(0, 2, .t 62)] 1 2⟩,
        ⟨some 64, none, .app 2 16 (.t 61) (.t 63)⟩,
        ⟨some 5, none, .mov (.t 64)⟩]
        [5, 6, 14, 15, 16])
      .skip)))) [5, 6, 14, 15, 16])
  (.region [⟨some 65, none, .bin .add (.t 16) (.c (.int .i64 1))⟩,
    ⟨some 16, none, .mov (.t 65)⟩]
    [5, 6, 14, 15, 16]))))
def RC.spans_Less : RFn := ⟨2, [.slot 4],
  (.seq (.region [⟨some 4, none, .mov (.c (.slice none 0 0))⟩]
    [0, 1])
  (.seq (.region [⟨some 5, none, .mov (.c (.slice none 0 0))⟩]
    [0, 1, 5])
  (.seq (.region [⟨some 11, none, .mov (.t 1)⟩,
    ⟨some 12, none, .call F.spans_Norm [.t 11]⟩,
    ⟨some 6, none, .mov (.t 12)⟩]
    [0, 5, 6])
  (.seq (.seq (.region [⟨some 13, none, .mov (.t 0)⟩,
    ⟨some 14, none, .call F.spans_Norm [.t 13]⟩,
    ⟨some 15, none, .len (.t 14)⟩,
    ⟨some 16, none, .mov (.c (.int .i64 0))⟩]
    [5, 6, 14, 15, 16])
  (.block 0
    (.loop [5, 6, 14, 15, 16] RB.spans_Less_2) [5]))
  (.seq (.region [⟨some 66, none, .mov (.t 5)⟩,
    ⟨some 4, none, .mov (.t 66)⟩]
    [4])
  .ret)))))⟩

def RB.ref05_ends_1 : RCode :=
  (.seq (.seq (.region [⟨some 28, none, .mov (.t 7)⟩,
    ⟨some 29, none, .mov (.t 1)⟩,
    ⟨some 30, none, .len (.t 29)⟩,
    ⟨some 31, none, .bin .lss (.t 28) (.t 30)⟩]
    [1, 5, 7, 31])
  (.cond (.t 31)
    .skip
    (.exit 2)))
  (.seq (.block 3
    (.drawn [⟨some 34, none, .mov (.t 5)⟩,
      ⟨some 35, none, .mov (.t 1)⟩,
      ⟨some 36, none, .mov (.t 7)⟩,
      ⟨some 37, none, .idxS 2 (.t 35) (.t 36)⟩,
      ⟨some 38, none, .fieldAddr 0 (.t 37)⟩,
      ⟨some 39, none, .load false 1 (.t 38)⟩,
      ⟨some 40, none, .call F.ref05_with [.t 34, .t 39]⟩,
      ⟨some 41, none, .mov (.t 1)⟩,
      ⟨some 42, none, .mov (.t 7)⟩,
      ⟨some 43, none, .idxS 2 (.t 41) (.t 42)⟩,
      ⟨some 44, none, .fieldAddr 1 (.t 43)⟩,
      ⟨some 45, none, .load false 1 (.t 44)⟩,
      ⟨some 46, none, .call F.ref05_with [.t 40, .t 45]⟩,
      ⟨some 5, none, .mov (.t 46)⟩]
      [[], [], [], [1, 2], [3], [4], [0, 5], [], [], [7, 8], [9], [10], [6, 11, 6], [12, 12, 0, 1, 2, 3, 4, 5, 6, 7, 8, 9, 10, 11, 12]]
      [(0, []), (1, []), (2, []), (3, []), (4, []), (7, []), (8, []), (9, []), (10, []), (5, []), (11, []), (6, [44]), (12, []), (13, [])]
      [[], [], [], [1, 2], [1, 2, 3], [1, 2, 3, 4], [0, 1, 2, 3, 4, 5], [], [], [7, 8], [7, 8, 9], [7, 8, 9, 10], [0, 1, 2, 3, 4, 5, 6, 7, 8, 9, 10, 11], [0, 1, 2, 3, 4, 5, 6, 7, 8, 9, 10, 11, 12]]
      [1, 5, 7]) [1, 5, 7])
  (.region [⟨some 32, none, .mov (.t 7)⟩,
    ⟨some 33, none, .bin .add (.t 32) (.c (.int .i64 1))⟩,
    ⟨some 7, none, .mov (.t 33)⟩]
    [1, 5, 7])))
def RB.ref05_ends_2 : RCode :=
  (.seq (.seq (.region [⟨some 9, none, .mov (.t 6)⟩,
    ⟨some 10, none, .mov (.t 0)⟩,
    ⟨some 11, none, .len (.t 10)⟩,
    ⟨some 12, none, .bin .lss (.t 9) (.t 11)⟩]
    [0, 1, 5, 6, 12])
  (.cond (.t 12)
    .skip
    (.exit 0)))
  (.seq (.block 1
    (.drawn [⟨some 15, none, .mov (.t 5)⟩,
      ⟨some 16, none, .mov (.t 0)⟩,
      ⟨some 17, none, .mov (.t 6)⟩,
      ⟨some 18, none, .idxS 2 (.t 16) (.t 17)⟩,
      ⟨some 19, none, .fieldAddr 0 (.t 18)⟩,
      ⟨some 20, none, .load false 1 (.t 19)⟩,
      ⟨some 21, none, .call F.ref05_with [.t 15, .t 20]⟩,
      ⟨some 22, none, .mov (.t 0)⟩,
      ⟨some 23, none, .mov (.t 6)⟩,
      ⟨some 24, none, .idxS 2 (.t 22) (.t 23)⟩,
      ⟨some 25, none, .fieldAddr 1 (.t 24)⟩,
      ⟨some 26, none, .load false 1 (.t 25)⟩,
      ⟨some 27, none, .call F.ref05_with [.t 21, .t 26]⟩,
      ⟨some 5, none, .mov (.t 27)⟩]
      [[], [], [], [1, 2], [3], [4], [0, 5], [], [], [7, 8], [9], [10], [6, 11, 6], [12, 12, 0, 1, 2, 3, 4, 5, 6, 7, 8, 9, 10, 11, 12]]
      [(0, []), (1, []), (2, []), (3, []), (4, []), (7, []), (8, []), (9, []), (10, []), (5, []), (11, []), (6, [25]), (12, []), (13, [])]
      [[], [], [], [1, 2], [1, 2, 3], [1, 2, 3, 4], [0, 1, 2, 3, 4, 5], [], [], [7, 8], [7, 8, 9], [7, 8, 9, 10], [0, 1, 2, 3, 4, 5, 6, 7, 8, 9, 10, 11], [0, 1, 2, 3, 4, 5, 6, 7, 8, 9, 10, 11, 12]]
      [0, 1, 5, 6]) [0, 1, 5, 6])
  (.region [⟨some 13, none, .mov (.t 6)⟩,
    ⟨some 14, none, .bin .add (.t 13) (.c (.int .i64 1))⟩,
    ⟨some 6, none, .mov (.t 14)⟩]
    [0, 1, 5, 6])))
def RC.ref05_ends : RFn := ⟨2, [.slot 4],
  (.seq (.region [⟨some 4, none, .mov (.c (.slice none 0 0))⟩]
    [0, 1])
  (.seq (.region [⟨some 8, none, .bslice [] [] 0 1⟩,
    ⟨some 5, none, .mov (.t 8)⟩]
    [0, 1, 5])
  (.seq (.seq (.region [⟨some 6, none, .mov (.c (.int .i64 0))⟩]
    [0, 1, 5, 6])
  (.block 0
    (.loop [0, 1, 5, 6] RB.ref05_ends_2) [1, 5]))
  (.seq (.seq (.region [⟨some 7, none, .mov (.c (.int .i64 0))⟩]
    [1, 5, 7])
  (.block 2
    (.loop [1, 5, 7] RB.ref05_ends_1) [5]))
  (.seq (.region [⟨some 47, none, .mov (.t 5)⟩,
    ⟨some 4, none, .mov (.t 47)⟩]
    [4])
  .ret)))))⟩

def RB.slices_DeleteFunc_spans_Span_spans_Span_1 : RCode :=
  (.seq (.seq (.region [⟨some 16, none, .mov (.t 6)⟩,
    ⟨some 17, none, .mov (.t 0)⟩,
    ⟨some 18, none, .len (.t 17)⟩,
    ⟨some 19, none, .bin .lss (.t 16) (.t 18)⟩]
    [0, 1, 5, 6, 19])
  (.cond (.t 19)
    .skip
    (.exit 0)))
  (.seq (.block 1
    (.seq (.region [⟨some 22, none, .mov (.t 0)⟩,
      ⟨some 23, none, .mov (.t 6)⟩,
      ⟨some 24, none, .idxS 2 (.t 22) (.t 23)⟩,
      ⟨some 25, none, .load true 2 (.t 24)⟩,
      ⟨some 7, none, .alloc [(.int .i64 0), (.int .i64 0)]⟩,
      ⟨none, none, .store 2 (.t 7) (.t 25)⟩]
      [0, 1, 5, 6, 7])
    (.seq (.region [⟨some 26, none, .mov (.t 1)⟩,
      ⟨some 27, none, .load true 2 (.t 7)⟩,
      ⟨some 28, none, .callv (.t 26) [.t 27]⟩,
      ⟨some 29, none, .un .not (.t 28)⟩]
      [0, 1, 5, 6, 7, 29])
    (.cond (.t 29)
      (.seq (.region [⟨some 30, none, .mov (.t 0)⟩,
        ⟨some 31, none, .mov (.t 5)⟩,
        ⟨some 32, none, .load true 2 (.t 7)⟩,
        ⟨some 33, none, .idxS 2 (.t 30) (.t 31)⟩,
        ⟨none, none, .store 2 (.t 33) (.t 32)⟩]
        [0, 1, 5, 6])
      (.region [⟨some 34, none, .mov (.t 5)⟩,
        ⟨some 35, none, .bin .add (.t 34) (.c (.int .i64 1))⟩,
        ⟨some 5, none, .mov (.t 35)⟩]
        [0, 1, 5, 6]))
      .skip))) [0, 1, 5, 6])
  (.region [⟨some 20, none, .mov (.t 6)⟩,
    ⟨some 21, none, .bin .add (.t 20) (.c (.int .i64 1))⟩,
    ⟨some 6, none, .mov (.t 21)⟩]
    [0, 1, 5, 6])))
def RC.slices_DeleteFunc_spans_Span_spans_Span : RFn := ⟨2, [.slot 4],
  (.seq (.region [⟨some 4, none, .mov (.c (.slice none 0 0))⟩]
    [0, 1])
  (.seq (.region [⟨some 8, none, .mov (.t 0)⟩,
    ⟨some 9, none, .mov (.t 1)⟩,
    ⟨some 10, none, .call F.slices_IndexFunc_spans_Span_spans_Span [.t 8, .t 9]⟩,
    ⟨some 5, none, .mov (.t 10)⟩]
    [0, 1, 5])
  (.seq (.seq (.region [⟨some 11, none, .mov (.t 5)⟩,
    ⟨some 12, none, .bin .eql (.t 11) (.c (.int .i64 (-1)))⟩]
    [0, 1, 5, 12])
  (.cond (.t 12)
    (.seq (.region [⟨some 13, none, .mov (.t 0)⟩,
      ⟨some 4, none, .mov (.t 13)⟩]
      [4])
    .ret)
    .skip))
  (.seq (.seq (.region [⟨some 14, none, .mov (.t 5)⟩,
    ⟨some 15, none, .bin .add (.t 14) (.c (.int .i64 1))⟩,
    ⟨some 6, none, .mov (.t 15)⟩]
    [0, 1, 5, 6])
  (.block 0
    (.loop [0, 1, 5, 6] RB.slices_DeleteFunc_spans_Span_spans_Span_1) [0, 5]))
  (.seq (.region [⟨some 36, none, .mov (.t 0)⟩,
    ⟨some 37, none, .mov (.t 5)⟩,
    ⟨some 38, none, .sub 2 (.t 36) (some (.t 37)) none none⟩,
    ⟨none, none, .clr 2 [(.int .i64 0), (.int .i64 0)] (.t 38)⟩]
    [0, 5])
  (.seq (.region [⟨some 39, none, .mov (.t 0)⟩,
    ⟨some 40, none, .mov (.t 5)⟩,
    ⟨some 41, none, .sub 2 (.t 39) none (some (.t 40)) none⟩,
    ⟨some 4, none, .mov (.t 41)⟩]
    [4])
  .ret))))))⟩

def RC.slices_Clone_spans_Span_spans_Span : RFn := ⟨1, [.slot 2],
  (.seq (.region [⟨some 2, none, .mov (.c (.slice none 0 0))⟩]
    [0])
  (.seq (.seq (.region [⟨some 3, none, .mov (.t 0)⟩,
    ⟨some 4, none, .eq false .slice (.t 3) (.c (.slice none 0 0))⟩]
    [0, 4])
  (.cond (.t 4)
    (.seq (.region [⟨some 2, none, .mov (.c (.slice none 0 0))⟩]
      [2])
    .ret)
    .skip))
  (.seq (.region [⟨some 5, none, .bslice [] [] 0 2⟩,
    ⟨some 6, none, .mov (.t 0)⟩,
    ⟨some 7, none, .app 2 16 (.t 5) (.t 6)⟩,
    ⟨some 2, none, .mov (.t 7)⟩]
    [2])
  .ret)))⟩

def RC.spans_Span_empty : RFn := ⟨1, [.slot 2],
  (.seq (.region [⟨some 1, none, .box (.t 0)⟩,
    ⟨some 2, none, .mov (.c (.bool false))⟩]
    [1])
  (.seq (.region [⟨some 3, none, .fieldAddr 1 (.t 1)⟩,
    ⟨some 4, none, .load false 1 (.t 3)⟩,
    ⟨some 5, none, .fieldAddr 0 (.t 1)⟩,
    ⟨some 6, none, .load false 1 (.t 5)⟩,
    ⟨some 7, none, .bin .leq (.t 4) (.t 6)⟩,
    ⟨some 2, none, .mov (.t 7)⟩]
    [2])
  .ret))⟩

def RC.slices_SortFunc_spans_Span_spans_Span : RFn := ⟨2, [],
  (.seq (.region [⟨some 5, none, .mov (.t 0)⟩,
    ⟨some 6, none, .len (.t 5)⟩,
    ⟨some 4, none, .mov (.t 6)⟩]
    [0, 1, 4])
  (.region [⟨some 7, none, .mov (.t 0)⟩,
    ⟨some 8, none, .mov (.t 4)⟩,
    ⟨some 9, none, .mov (.t 4)⟩,
    ⟨some 10, none, .conv .u64 (.t 9)⟩,
    ⟨some 11, none, .call F.math_bits_Len [.t 10]⟩,
    ⟨some 12, none, .mov (.t 1)⟩,
    ⟨some 13, none, .call F.slices_pdqsortCmpFunc_spans_Span [.t 7, .c (.int .i64 0), .t 8, .t 11, .t 12]⟩]
    []))⟩

def RC.spans_Norm_1 : RFn := ⟨2, [.slot 4],
  (.seq (.region [⟨some 2, none, .box (.t 0)⟩,
    ⟨some 3, none, .box (.t 1)⟩,
    ⟨some 4, none, .mov (.c (.int .i64 0))⟩]
    [2, 3])
  (.seq (.region [⟨some 5, none, .fieldAddr 0 (.t 2)⟩,
    ⟨some 6, none, .load false 1 (.t 5)⟩,
    ⟨some 7, none, .fieldAddr 0 (.t 3)⟩,
    ⟨some 8, none, .load false 1 (.t 7)⟩,
    ⟨some 9, none, .call F.cmp_Compare_int [.t 6, .t 8]⟩,
    ⟨some 4, none, .mov (.t 9)⟩]
    [4])
  .ret))⟩

def RC.cmp_Compare_int : RFn := ⟨2, [.slot 4],
  (.seq (.region [⟨some 4, none, .mov (.c (.int .i64 0))⟩]
    [0, 1])
  (.seq (.region [⟨some 7, none, .mov (.t 0)⟩,
    ⟨some 8, none, .call F.cmp_isNaN_int [.t 7]⟩,
    ⟨some 5, none, .mov (.t 8)⟩]
    [0, 1, 5])
  (.seq (.region [⟨some 9, none, .mov (.t 1)⟩,
    ⟨some 10, none, .call F.cmp_isNaN_int [.t 9]⟩,
    ⟨some 6, none, .mov (.t 10)⟩]
    [0, 1, 5, 6])
  (.seq (.seq (.region [⟨some 11, none, .mov (.t 5)⟩]
    [0, 1, 6, 11])
  (.cond (.t 11)
    (.seq (.seq (.region [⟨some 12, none, .mov (.t 6)⟩]
      [12])
    (.cond (.t 12)
      (.seq (.region [⟨some 4, none, .mov (.c (.int .i64 0))⟩]
        [4])
      .ret)
      .skip))
    (.seq (.region [⟨some 4, none, .mov (.c (.int .i64 (-1)))⟩]
      [4])
    .ret))
    .skip))
  (.seq (.seq (.region [⟨some 13, none, .mov (.t 6)⟩]
    [0, 1, 13])
  (.cond (.t 13)
    (.seq (.region [⟨some 4, none, .mov (.c (.int .i64 1))⟩]
      [4])
    .ret)
    .skip))
  (.seq (.seq (.region [⟨some 14, none, .mov (.t 0)⟩,
    ⟨some 15, none, .mov (.t 1)⟩,
    ⟨some 16, none, .bin .lss (.t 14) (.t 15)⟩]
    [0, 1, 16])
  (.cond (.t 16)
    (.seq (.region [⟨some 4, none, .mov (.c (.int .i64 (-1)))⟩]
      [4])
    .ret)
    .skip))
  (.seq (.seq (.region [⟨some 17, none, .mov (.t 0)⟩,
    ⟨some 18, none, .mov (.t 1)⟩,
    ⟨some 19, none, .bin .gtr (.t 17) (.t 18)⟩]
    [19])
  (.cond (.t 19)
    (.seq (.region [⟨some 4, none, .mov (.c (.int .i64 1))⟩]
      [4])
    .ret)
    .skip))
  (.seq (.region [⟨some 4, none, .mov (.c (.int .i64 0))⟩]
    [4])
  .ret))))))))⟩

def RC.slices_ContainsFunc_spans_Span_spans_Span : RFn := ⟨2, [.slot 4],
  (.seq (.region [⟨some 4, none, .mov (.c (.bool false))⟩]
    [0, 1])
  (.seq (.region [⟨some 5, none, .mov (.t 0)⟩,
    ⟨some 6, none, .mov (.t 1)⟩,
    ⟨some 7, none, .call F.slices_IndexFunc_spans_Span_spans_Span [.t 5, .t 6]⟩,
    ⟨some 8, none, .bin .geq (.t 7) (.c (.int .i64 0))⟩,
    ⟨some 4, none, .mov (.t 8)⟩]
    [4])
  .ret))⟩

def RC.spans_Has_1 : RFn := ⟨2, [.slot 3],
  (.seq (.region [⟨some 2, none, .box (.t 0)⟩,
    ⟨some 3, none, .mov (.c (.bool false))⟩]
    [1, 2])
  (.seq (.region [⟨some 4, none, .fieldAddr 0 (.t 2)⟩,
    ⟨some 5, none, .load false 1 (.t 4)⟩,
    ⟨some 6, none, .load false 1 (.t 1)⟩,
    ⟨some 7, none, .bin .leq (.t 5) (.t 6)⟩,
    ⟨some 8, none, .mov (.t 7)⟩,
    ⟨some 9, some (8, true), .load false 1 (.t 1)⟩,
    ⟨some 10, some (8, true), .fieldAddr 1 (.t 2)⟩,
    ⟨some 11, some (8, true), .load false 1 (.t 10)⟩,
    ⟨some 12, some (8, true), .bin .lss (.t 9) (.t 11)⟩,
    ⟨some 13, none, .pick (.t 8) (.t 12) (.c (.bool false))⟩,
    ⟨some 3, none, .mov (.t 13)⟩]
    [3])
  .ret))⟩

def RB.slices_Concat_spans_Span_spans_Span_1 : RCode :=
  (.seq (.region [⟨some 28, none, .bin .lss (.t 27) (.t 26)⟩]
    [6, 25, 26, 27, 28])
  (.seq (.cond (.t 28)
    .skip
    (.exit 2))
  (.seq (.block 3
    (.seq (.region [⟨some 29, none, .idxS 1 (.t 25) (.t 27)⟩,
      ⟨some 30, none, .load false 1 (.t 29)⟩,
      ⟨some 8, none, .mov (.t 30)⟩]
      [6, 8, 25, 26, 27])
    (.region [⟨some 31, none, .mov (.t 6)⟩,
      ⟨some 32, none, .mov (.t 8)⟩,
      ⟨some 33, none, .app 2 16 (.t 31) (.t 32)⟩,
      ⟨some 6, none, .mov (.t 33)⟩]
      [6, 25, 26, 27])) [6, 25, 26, 27])
  (.region [⟨some 34, none, .bin .add (.t 27) (.c (.int .i64 1))⟩,
    ⟨some 27, none, .mov (.t 34)⟩]
    [6, 25, 26, 27]))))
def RB.slices_Concat_spans_Span_spans_Span_2 : RCode :=
  (.seq (.region [⟨some 12, none, .bin .lss (.t 11) (.t 10)⟩]
    [0, 3, 9, 10, 11, 12])
  (.seq (.cond (.t 12)
    .skip
    (.exit 0))
  (.seq (.block 1
    (.seq (.region [⟨some 13, none, .idxS 1 (.t 9) (.t 11)⟩,
      ⟨some 14, none, .load false 1 (.t 13)⟩,
      ⟨some 5, none, .mov (.t 14)⟩]
      [0, 3, 5, 9, 10, 11])
    (.seq (.region [⟨some 15, none, .mov (.t 3)⟩,
      ⟨some 16, none, .mov (.t 5)⟩,
      ⟨some 17, none, .len (.t 16)⟩,
      ⟨some 18, none, .bin .add (.t 15) (.t 17)⟩,
      ⟨some 3, none, .mov (.t 18)⟩]
      [0, 3, 9, 10, 11])
    (.seq (.region [⟨some 19, none, .mov (.t 3)⟩,
      ⟨some 20, none, .bin .lss (.t 19) (.c (.int .i64 0))⟩]
      [0, 3, 9, 10, 11, 20])
    (.cond (.t 20)
      (.region [⟨some 21, none, .stop⟩,
        ⟨none, none, .stop⟩]
        [0, 3, 9, 10, 11])
      .skip)))) [0, 3, 9, 10, 11])
  (.region [⟨some 22, none, .bin .add (.t 11) (.c (.int .i64 1))⟩,
    ⟨some 11, none, .mov (.t 22)⟩]
    [0, 3, 9, 10, 11]))))
def RC.slices_Concat_spans_Span_spans_Span : RFn := ⟨1, [.slot 2],
  (.seq (.region [⟨some 2, none, .mov (.c (.slice none 0 0))⟩]
    [0])
  (.seq (.region [⟨some 3, none, .mov (.c (.int .i64 0))⟩]
    [0, 3])
  (.seq (.seq (.region [⟨some 9, none, .mov (.t 0)⟩,
    ⟨some 10, none, .len (.t 9)⟩,
    ⟨some 11, none, .mov (.c (.int .i64 0))⟩]
    [0, 3, 9, 10, 11])
  (.block 0
    (.loop [0, 3, 9, 10, 11] RB.slices_Concat_spans_Span_spans_Span_2) [0, 3]))
  (.seq (.region [⟨some 23, none, .mov (.t 3)⟩,
    ⟨some 24, none, .call F.slices_Grow_spans_Span_spans_Span [.c (.slice none 0 0), .t 23]⟩,
    ⟨some 6, none, .mov (.t 24)⟩]
    [0, 6])
  (.seq (.seq (.region [⟨some 25, none, .mov (.t 0)⟩,
    ⟨some 26, none, .len (.t 25)⟩,
    ⟨some 27, none, .mov (.c (.int .i64 0))⟩]
    [6, 25, 26, 27])
  (.block 2
    (.loop [6, 25, 26, 27] RB.slices_Concat_spans_Span_spans_Span_1) [6]))
  (.seq (.region [⟨some 35, none, .mov (.t 6)⟩,
    ⟨some 2, none, .mov (.t 35)⟩]
    [2])
  .ret))))))⟩

def RB.ref05_with_1 : RCode :=
  (.seq (.seq (.region [⟨some 7, none, .mov (.t 5)⟩,
    ⟨some 8, none, .mov (.t 0)⟩,
    ⟨some 9, none, .len (.t 8)⟩,
    ⟨some 10, none, .bin .lss (.t 7) (.t 9)⟩,
    ⟨some 11, none, .mov (.t 10)⟩,
    ⟨some 12, some (11, true), .mov (.t 0)⟩,
    ⟨some 13, some (11, true), .mov (.t 5)⟩,
    ⟨some 14, some (11, true), .idxS 1 (.t 12) (.t 13)⟩,
    ⟨some 15, some (11, true), .load false 1 (.t 14)⟩,
    ⟨some 16, some (11, true), .mov (.t 1)⟩,
    ⟨some 17, some (11, true), .bin .lss (.t 15) (.t 16)⟩,
    ⟨some 18, none, .pick (.t 11) (.t 17) (.c (.bool false))⟩]
    [0, 1, 5, 18])
  (.cond (.t 18)
    .skip
    (.exit 0)))
  (.block 1
    (.region [⟨some 19, none, .mov (.t 5)⟩,
      ⟨some 20, none, .bin .add (.t 19) (.c (.int .i64 1))⟩,
      ⟨some 5, none, .mov (.t 20)⟩]
      [0, 1, 5]) [0, 1, 5]))
def RC.ref05_with : RFn := ⟨2, [.slot 4],
  (.seq (.region [⟨some 4, none, .mov (.c (.slice none 0 0))⟩]
    [0, 1])
  (.seq (.region [⟨some 5, none, .mov (.c (.int .i64 0))⟩]
    [0, 1, 5])
  (.seq (.block 0
    (.loop [0, 1, 5] RB.ref05_with_1) [0, 1, 5])
  (.seq (.seq (.region [⟨some 21, none, .mov (.t 5)⟩,
    ⟨some 22, none, .mov (.t 0)⟩,
    ⟨some 23, none, .len (.t 22)⟩,
    ⟨some 24, none, .bin .lss (.t 21) (.t 23)⟩,
    ⟨some 25, none, .mov (.t 24)⟩,
    ⟨some 26, some (25, true), .mov (.t 0)⟩,
    ⟨some 27, some (25, true), .mov (.t 5)⟩,
    ⟨some 28, some (25, true), .idxS 1 (.t 26) (.t 27)⟩,
    ⟨some 29, some (25, true), .load false 1 (.t 28)⟩,
    ⟨some 30, some (25, true), .mov (.t 1)⟩,
    ⟨some 31, some (25, true), .bin .eql (.t 29) (.t 30)⟩,
    ⟨some 32, none, .pick (.t 25) (.t 31) (.c (.bool false))⟩]
    [0, 1, 5, 32])
  (.cond (.t 32)
    (.seq (.region [⟨some 33, none, .mov (.t 0)⟩,
      ⟨some 4, none, .mov (.t 33)⟩]
      [4])
    .ret)
    .skip))
  (.seq (.region [⟨some 34, none, .bslice [] [] 0 1⟩,
    ⟨some 35, none, .mov (.t 0)⟩,
    ⟨some 36, none, .mov (.t 5)⟩,
    ⟨some 37, none, .sub 1 (.t 35) none (some (.t 36)) none⟩,
    ⟨some 38, none, .app 1 8 (.t 34) (.t 37)⟩,
    ⟨some 6, none, .mov (.t 38)⟩]
    [0, 1, 5, 6])
  (.seq (.region [⟨some 39, none, .mov (.t 6)⟩,
    ⟨some 40, none, .mov (.t 1)⟩,
    ⟨some 41, none, .bslice [(.int .i64 0)] [(0, 1, .t 40)] 1 1⟩,
    ⟨some 42, none, .app 1 8 (.t 39) (.t 41)⟩,
    ⟨some 6, none, .mov (.t 42)⟩]
    [0, 5, 6])
  (.seq (.region [⟨some 43, none, .mov (.t 6)⟩,
    ⟨some 44, none, .mov (.t 0)⟩,
    ⟨some 45, none, .mov (.t 5)⟩,
    ⟨some 46, none, .sub 1 (.t 44) (some (.t 45)) none none⟩,
    ⟨some 47, none, .app 1 8 (.t 43) (.t 46)⟩,
    ⟨some 4, none, .mov (.t 47)⟩]
    [4])
  .ret)))))))⟩

def RB.slices_IndexFunc_spans_Span_spans_Span_1 : RCode :=
  (.seq (.region [⟨some 9, none, .bin .lss (.t 8) (.t 7)⟩]
    [0, 1, 7, 8, 9])
  (.seq (.cond (.t 9)
    .skip
    (.exit 0))
  (.seq (.block 1
    (.seq (.region [⟨some 10, none, .mov (.t 8)⟩,
      ⟨some 5, none, .mov (.t 10)⟩]
      [0, 1, 5, 7, 8])
    (.seq (.region [⟨some 11, none, .mov (.t 1)⟩,
      ⟨some 12, none, .mov (.t 0)⟩,
      ⟨some 13, none, .mov (.t 5)⟩,
      ⟨some 14, none, .idxS 2 (.t 12) (.t 13)⟩,
      ⟨some 15, none, .load true 2 (.t 14)⟩,
      ⟨some 16, none, .callv (.t 11) [.t 15]⟩]
      [0, 1, 5, 7, 8, 16])
    (.cond (.t 16)
      (.seq (.region [⟨some 17, none, .mov (.t 5)⟩,
        ⟨some 4, none, .mov (.t 17)⟩]
        [4])
      .ret)
      .skip))) [0, 1, 7, 8])
  (.region [⟨some 18, none, .bin .add (.t 8) (.c (.int .i64 1))⟩,
    ⟨some 8, none, .mov (.t 18)⟩]
    [0, 1, 7, 8]))))
def RC.slices_IndexFunc_spans_Span_spans_Span : RFn := ⟨2, [.slot 4],
  (.seq (.region [⟨some 4, none, .mov (.c (.int .i64 0))⟩]
    [0, 1])
  (.seq (.seq (.region [⟨some 6, none, .mov (.t 0)⟩,
    ⟨some 7, none, .len (.t 6)⟩,
    ⟨some 8, none, .mov (.c (.int .i64 0))⟩]
    [0, 1, 7, 8])
  (.block 0
    (.loop [0, 1, 7, 8] RB.slices_IndexFunc_spans_Span_spans_Span_1) []))
  (.seq (.region [⟨some 4, none, .mov (.c (.int .i64 (-1)))⟩]
    [4])
  .ret)))⟩

def RB.slices_pdqsortCmpFunc_spans_Span_1 : RCode :=
  (.block 1
    (.seq (.region [⟨some 21, none, .mov (.t 2)⟩,
      ⟨some 22, none, .mov (.t 1)⟩,
      ⟨some 23, none, .bin .sub (.t 21) (.t 22)⟩,
      ⟨some 12, none, .mov (.t 23)⟩]
      [0, 1, 2, 3, 4, 10, 11, 12])
    (.seq (.seq (.region [⟨some 24, none, .mov (.t 12)⟩,
      ⟨some 25, none, .bin .leq (.t 24) (.c (.int .i64 12))⟩]
      [0, 1, 2, 3, 4, 10, 11, 12, 25])
    (.cond (.t 25)
      (.seq (.region [⟨some 26, none, .mov (.t 0)⟩,
        ⟨some 27, none, .mov (.t 1)⟩,
        ⟨some 28, none, .mov (.t 2)⟩,
        ⟨some 29, none, .mov (.t 4)⟩,
        ⟨some 30, none, .call F.slices_insertionSortCmpFunc_spans_Span [.t 26, .t 27, .t 28, .t 29]⟩]
        [])
      .ret)
      .skip))
    (.seq (.seq (.region [⟨some 31, none, .mov (.t 3)⟩,
      ⟨some 32, none, .bin .eql (.t 31) (.c (.int .i64 0))⟩]
      [0, 1, 2, 3, 4, 10, 11, 12, 32])
    (.cond (.t 32)
      (.seq (.region [⟨some 33, none, .mov (.t 0)⟩,
        ⟨some 34, none, .mov (.t 1)⟩,
        ⟨some 35, none, .mov (.t 2)⟩,
        ⟨some 36, none, .mov (.t 4)⟩,
        ⟨some 37, none, .call F.slices_heapSortCmpFunc_spans_Span [.t 33, .t 34, .t 35, .t 36]⟩]
        [])
      .ret)
      .skip))
    (.seq (.seq (.region [⟨some 38, none, .mov (.t 10)⟩,
      ⟨some 39, none, .un .not (.t 38)⟩]
      [0, 1, 2, 3, 4, 10, 11, 12, 39])
    (.cond (.t 39)
      (.seq (.region [⟨some 40, none, .mov (.t 0)⟩,
        ⟨some 41, none, .mov (.t 1)⟩,
        ⟨some 42, none, .mov (.t 2)⟩,
        ⟨some 43, none, .mov (.t 4)⟩,
        ⟨some 44, none, .call F.slices_breakPatternsCmpFunc_spans_Span [.t 40, .t 41, .t 42, .t 43]⟩]
        [0, 1, 2, 3, 4, 10, 11, 12])
      (.region [⟨some 45, none, .mov (.t 3)⟩,
        ⟨some 46, none, .bin .sub (.t 45) (.c (.int .i64 1))⟩,
        ⟨some 3, none, .mov (.t 46)⟩]
        [0, 1, 2, 3, 4, 10, 11, 12]))
      .skip))
    (.seq (.region [⟨some 48, none, .mov (.t 0)⟩,
      ⟨some 49, none, .mov (.t 1)⟩,
      ⟨some 50, none, .mov (.t 2)⟩,
      ⟨some 51, none, .mov (.t 4)⟩,
      ⟨some 52, none, .call F.slices_choosePivotCmpFunc_spans_Span [.t 48, .t 49, .t 50, .t 51]⟩,
      ⟨some 47, none, .mov (.t 52)⟩,
      ⟨some 53, none, .ext 0 (.t 47)⟩,
      ⟨some 54, none, .ext 1 (.t 47)⟩,
      ⟨some 13, none, .mov (.t 53)⟩,
      ⟨some 14, none, .mov (.t 54)⟩]
      [0, 1, 2, 3, 4, 10, 11, 12, 13, 14])
    (.seq (.seq (.region [⟨some 55, none, .mov (.t 14)⟩,
      ⟨some 56, none, .bin .eql (.t 55) (.c (.int .i64 2))⟩]
      [0, 1, 2, 3, 4, 10, 11, 12, 13, 14, 56])
    (.cond (.t 56)
      (.seq (.region [⟨some 57, none, .mov (.t 0)⟩,
        ⟨some 58, none, .mov (.t 1)⟩,
        ⟨some 59, none, .mov (.t 2)⟩,
        ⟨some 60, none, .mov (.t 4)⟩,
        ⟨some 61, none, .call F.slices_reverseRangeCmpFunc_spans_Span [.t 57, .t 58, .t 59, .t 60]⟩]
        [0, 1, 2, 3, 4, 10, 11, 12, 13])
      (.seq (.region [⟨some 62, none, .mov (.t 2)⟩,
        ⟨some 63, none, .bin .sub (.t 62) (.c (.int .i64 1))⟩,
        ⟨some 64, none, .mov (.t 13)⟩,
        ⟨some 65, none, .mov (.t 1)⟩,
        ⟨some 66, none, .bin .sub (.t 64) (.t 65)⟩,
        ⟨some 67, none, .bin .sub (.t 63) (.t 66)⟩,
        ⟨some 13, none, .mov (.t 67)⟩]
        [0, 1, 2, 3, 4, 10, 11, 12, 13])
      (.region [⟨some 14, none, .mov (.c (.int .i64 1))⟩]
        [0, 1, 2, 3, 4, 10, 11, 12, 13, 14])))
      .skip))
    (.seq (.seq (.region [⟨some 68, none, .mov (.t 10)⟩,
      ⟨some 69, none, .mov (.t 68)⟩,
      ⟨some 70, some (69, true), .mov (.t 11)⟩,
      ⟨some 71, none, .pick (.t 69) (.t 70) (.c (.bool false))⟩,
      ⟨some 72, none, .mov (.t 71)⟩,
      ⟨some 73, some (72, true), .mov (.t 14)⟩,
      ⟨some 74, some (72, true), .bin .eql (.t 73) (.c (.int .i64 1))⟩,
      ⟨some 75, none, .pick (.t 72) (.t 74) (.c (.bool false))⟩]
      [0, 1, 2, 3, 4, 10, 11, 12, 13, 75])
    (.cond (.t 75)
      (.seq (.region [⟨some 76, none, .mov (.t 0)⟩,
        ⟨some 77, none, .mov (.t 1)⟩,
        ⟨some 78, none, .mov (.t 2)⟩,
        ⟨some 79, none, .mov (.t 4)⟩,
        ⟨some 80, none, .call F.slices_partialInsertionSortCmpFunc_spans_Span [.t 76, .t 77, .t 78, .t 79]⟩]
        [0, 1, 2, 3, 4, 10, 11, 12, 13, 80])
      (.cond (.t 80)
        .ret
        .skip))
      .skip))
    (.seq (.seq (.drawn [⟨some 81, none, .mov (.t 1)⟩,
      ⟨some 82, none, .bin .gtr (.t 81) (.c (.int .i64 0))⟩,
      ⟨some 83, none, .mov (.t 82)⟩,
      ⟨some 84, some (83, true), .mov (.t 4)⟩,
      ⟨some 85, some (83, true), .mov (.t 0)⟩,
      ⟨some 86, some (83, true), .mov (.t 1)⟩,
      ⟨some 87, some (83, true), .bin .sub (.t 86) (.c (.int .i64 1))⟩,
      ⟨some 88, some (83, true), .idxS 2 (.t 85) (.t 87)⟩,
      ⟨some 89, some (83, true), .load true 2 (.t 88)⟩,
      ⟨some 90, some (83, true), .mov (.t 0)⟩,
      ⟨some 91, some (83, true), .mov (.t 13)⟩,
      ⟨some 92, some (83, true), .idxS 2 (.t 90) (.t 91)⟩,
      ⟨some 93, some (83, true), .load true 2 (.t 92)⟩,
      ⟨some 94, some (83, true), .callv (.t 84) [.t 89, .t 93]⟩,
      ⟨some 95, some (83, true), .bin .lss (.t 94) (.c (.int .i64 0))⟩,
      ⟨some 96, some (83, true), .un .not (.t 95)⟩,
      ⟨some 97, none, .pick (.t 83) (.t 96) (.c (.bool false))⟩]
      [[], [0], [1], [2], [2], [2], [5, 2], [4, 6, 2], [7, 2], [2], [2], [9, 10, 2], [11, 2], [3, 8, 12, 2, 2], [13, 2], [14, 2], [2, 15]]
      [(0, []), (1, []), (2, []), (3, []), (4, []), (5, []), (6, []), (7, []), (9, []), (10, []), (11, []), (8, []), (12, []), (13, []), (14, []), (15, []), (16, [])]
      [[], [0], [0, 1], [0, 1, 2], [0, 1, 2], [0, 1, 2], [0, 1, 2, 5], [0, 1, 2, 4, 5, 6], [0, 1, 2, 4, 5, 6, 7], [0, 1, 2], [0, 1, 2], [0, 1, 2, 9, 10], [0, 1, 2, 9, 10, 11], [0, 1, 2, 3, 4, 5, 6, 7, 8, 9, 10, 11, 12], [0, 1, 2, 3, 4, 5, 6, 7, 8, 9, 10, 11, 12, 13], [0, 1, 2, 3, 4, 5, 6, 7, 8, 9, 10, 11, 12, 13, 14], [0, 1, 2, 3, 4, 5, 6, 7, 8, 9, 10, 11, 12, 13, 14, 15]]
      [0, 1, 2, 3, 4, 10, 11, 12, 13, 97])
    (.cond (.t 97)
      (.seq (.region [⟨some 98, none, .mov (.t 0)⟩,
        ⟨some 99, none, .mov (.t 1)⟩,
        ⟨some 100, none, .mov (.t 2)⟩,
        ⟨some 101, none, .mov (.t 13)⟩,
        ⟨some 102, none, .mov (.t 4)⟩,
        ⟨some 103, none, .call F.slices_partitionEqualCmpFunc_spans_Span [.t 98, .t 99, .t 100, .t 101, .t 102]⟩,
        ⟨some 15, none, .mov (.t 103)⟩]
        [0, 2, 3, 4, 10, 11, 15])
      (.seq (.region [⟨some 104, none, .mov (.t 15)⟩,
        ⟨some 1, none, .mov (.t 104)⟩]
        [0, 1, 2, 3, 4, 10, 11])
      (.exit 1)))
      .skip))
    (.seq (.region [⟨some 106, none, .mov (.t 0)⟩,
      ⟨some 107, none, .mov (.t 1)⟩,
      ⟨some 108, none, .mov (.t 2)⟩,
      ⟨some 109, none, .mov (.t 13)⟩,
      ⟨some 110, none, .mov (.t 4)⟩,
      ⟨some 111, none, .call F.slices_partitionCmpFunc_spans_Span [.t 106, .t 107, .t 108, .t 109, .t 110]⟩,
      ⟨some 105, none, .mov (.t 111)⟩,
      ⟨some 112, none, .ext 0 (.t 105)⟩,
      ⟨some 113, none, .ext 1 (.t 105)⟩,
      ⟨some 16, none, .mov (.t 112)⟩,
      ⟨some 17, none, .mov (.t 113)⟩]
      [0, 1, 2, 3, 4, 12, 16, 17])
    (.seq (.region [⟨some 114, none, .mov (.t 17)⟩,
      ⟨some 11, none, .mov (.t 114)⟩]
      [0, 1, 2, 3, 4, 11, 12, 16])
    (.seq (.region [⟨some 115, none, .mov (.t 16)⟩,
      ⟨some 116, none, .mov (.t 1)⟩,
      ⟨some 117, none, .bin .sub (.t 115) (.t 116)⟩,
      ⟨some 118, none, .mov (.t 2)⟩,
      ⟨some 119, none, .mov (.t 16)⟩,
      ⟨some 120, none, .bin .sub (.t 118) (.t 119)⟩,
      ⟨some 18, none, .mov (.t 117)⟩,
      ⟨some 19, none, .mov (.t 120)⟩]
      [0, 1, 2, 3, 4, 11, 12, 16, 18, 19])
    (.seq (.region [⟨some 121, none, .mov (.t 12)⟩,
      ⟨some 122, none, .bin .quo (.t 121) (.c (.int .i64 8))⟩,
      ⟨some 20, none, .mov (.t 122)⟩]
      [0, 1, 2, 3, 4, 11, 16, 18, 19, 20])
    (.seq (.region [⟨some 123, none, .mov (.t 18)⟩,
      ⟨some 124, none, .mov (.t 19)⟩,
      ⟨some 125, none, .bin .lss (.t 123) (.t 124)⟩]
      [0, 1, 2, 3, 4, 11, 16, 18, 19, 20, 125])
    (.cond (.t 125)
      (.seq (.region [⟨some 126, none, .mov (.t 18)⟩,
        ⟨some 127, none, .mov (.t 20)⟩,
        ⟨some 128, none, .bin .geq (.t 126) (.t 127)⟩,
        ⟨some 10, none, .mov (.t 128)⟩]
        [0, 1, 2, 3, 4, 10, 11, 16])
      (.seq (.region [⟨some 129, none, .mov (.t 0)⟩,
        ⟨some 130, none, .mov (.t 1)⟩,
        ⟨some 131, none, .mov (.t 16)⟩,
        ⟨some 132, none, .mov (.t 3)⟩,
        ⟨some 133, none, .mov (.t 4)⟩,
        ⟨some 134, none, .call F.slices_pdqsortCmpFunc_spans_Span [.t 129, .t 130, .t 131, .t 132, .t 133]⟩]
        [0, 2, 3, 4, 10, 11, 16])
      (.region [⟨some 135, none, .mov (.t 16)⟩,
        ⟨some 136, none, .bin .add (.t 135) (.c (.int .i64 1))⟩,
        ⟨some 1, none, .mov (.t 136)⟩]
        [0, 1, 2, 3, 4, 10, 11])))
      (.seq (.region [⟨some 137, none, .mov (.t 19)⟩,
        ⟨some 138, none, .mov (.t 20)⟩,
        ⟨some 139, none, .bin .geq (.t 137) (.t 138)⟩,
        ⟨some 10, none, .mov (.t 139)⟩]
        [0, 1, 2, 3, 4, 10, 11, 16])
      (.seq (.region [⟨some 140, none, .mov (.t 0)⟩,
        ⟨some 141, none, .mov (.t 16)⟩,
        ⟨some 142, none, .bin .add (.t 141) (.c (.int .i64 1))⟩,
        ⟨some 143, none, .mov (.t 2)⟩,
        ⟨some 144, none, .mov (.t 3)⟩,
        ⟨some 145, none, .mov (.t 4)⟩,
        ⟨some 146, none, .call F.slices_pdqsortCmpFunc_spans_Span [.t 140, .t 142, .t 143, .t 144, .t 145]⟩]
        [0, 1, 3, 4, 10, 11, 16])
      (.region [⟨some 147, none, .mov (.t 16)⟩,
        ⟨some 2, none, .mov (.t 147)⟩]
        [0, 1, 2, 3, 4, 10, 11]))))))))))))))))) [0, 1, 2, 3, 4, 10, 11])
def RC.slices_pdqsortCmpFunc_spans_Span : RFn := ⟨5, [],
  (.seq (.region [⟨some 10, none, .mov (.c (.bool true))⟩]
    [0, 1, 2, 3, 4, 10])
  (.seq (.region [⟨some 11, none, .mov (.c (.bool true))⟩]
    [0, 1, 2, 3, 4, 10, 11])
  (.block 0
    (.loop [0, 1, 2, 3, 4, 10, 11] RB.slices_pdqsortCmpFunc_spans_Span_1) [])))⟩

def RC.math_bits_Len : RFn := ⟨1, [.slot 2],
  (.seq (.region [⟨some 2, none, .mov (.c (.int .i64 0))⟩]
    [0])
  (.seq (.cond (.c (.bool false))
    (.seq (.region [⟨some 3, none, .mov (.t 0)⟩,
      ⟨some 4, none, .conv .u32 (.t 3)⟩,
      ⟨some 5, none, .call F.math_bits_Len32 [.t 4]⟩,
      ⟨some 2, none, .mov (.t 5)⟩]
      [2])
    .ret)
    .skip)
  (.seq (.region [⟨some 6, none, .mov (.t 0)⟩,
    ⟨some 7, none, .call F.math_bits_Len64 [.t 6]⟩,
    ⟨some 2, none, .mov (.t 7)⟩]
    [2])
  .ret)))⟩

def RC.cmp_isNaN_int : RFn := ⟨1, [.slot 2],
  (.seq (.region [⟨some 2, none, .mov (.c (.bool false))⟩]
    [0])
  (.seq (.region [⟨some 3, none, .mov (.t 0)⟩,
    ⟨some 4, none, .mov (.t 0)⟩,
    ⟨some 5, none, .bin .neq (.t 3) (.t 4)⟩,
    ⟨some 2, none, .mov (.t 5)⟩]
    [2])
  .ret))⟩

def RC.slices_Grow_spans_Span_spans_Span : RFn := ⟨2, [.slot 4],
  (.seq (.region [⟨some 4, none, .mov (.c (.slice none 0 0))⟩]
    [0, 1])
  (.seq (.seq (.region [⟨some 5, none, .mov (.t 1)⟩,
    ⟨some 6, none, .bin .lss (.t 5) (.c (.int .i64 0))⟩]
    [0, 1, 6])
  (.cond (.t 6)
    (.region [⟨some 7, none, .stop⟩,
      ⟨none, none, .stop⟩]
      [0, 1])
    .skip))
  (.seq (.seq (.region [⟨some 8, none, .mov (.t 1)⟩,
    ⟨some 9, none, .mov (.t 0)⟩,
    ⟨some 10, none, .capN (.t 9)⟩,
    ⟨some 11, none, .mov (.t 0)⟩,
    ⟨some 12, none, .len (.t 11)⟩,
    ⟨some 13, none, .bin .sub (.t 10) (.t 12)⟩,
    ⟨some 14, none, .bin .sub (.t 8) (.t 13)⟩,
    ⟨some 1, none, .mov (.t 14)⟩]
    [0, 1])
  (.seq (.region [⟨some 15, none, .mov (.t 1)⟩,
    ⟨some 16, none, .bin .gtr (.t 15) (.c (.int .i64 0))⟩]
    [0, 1, 16])
  (.cond (.t 16)
    (.region [⟨some 17, none, .mov (.t 0)⟩,
      ⟨some 18, none, .mov (.t 0)⟩,
      ⟨some 19, none, .capN (.t 18)⟩,
      ⟨some 20, none, .sub 2 (.t 17) none (some (.t 19)) none⟩,
      ⟨some 21, none, .mov (.t 1)⟩,
      ⟨some 22, none, .appZ 2 16 [(.int .i64 0), (.int .i64 0)] (.t 20) (.t 21)⟩,
      ⟨some 23, none, .mov (.t 0)⟩,
      ⟨some 24, none, .len (.t 23)⟩,
      ⟨some 25, none, .sub 2 (.t 22) none (some (.t 24)) none⟩,
      ⟨some 0, none, .mov (.t 25)⟩]
      [0])
    .skip)))
  (.seq (.region [⟨some 26, none, .mov (.t 0)⟩,
    ⟨some 4, none, .mov (.t 26)⟩]
    [4])
  .ret))))⟩

def RB.slices_insertionSortCmpFunc_spans_Span_1 : RCode :=
  (.seq (.seq (.drawn [⟨some 18, none, .mov (.t 9)⟩,
    ⟨some 19, none, .mov (.t 1)⟩,
    ⟨some 20, none, .bin .gtr (.t 18) (.t 19)⟩,
    ⟨some 21, none, .mov (.t 20)⟩,
    ⟨some 22, some (21, true), .mov (.t 3)⟩,
    ⟨some 23, some (21, true), .mov (.t 0)⟩,
    ⟨some 24, some (21, true), .mov (.t 9)⟩,
    ⟨some 25, some (21, true), .idxS 2 (.t 23) (.t 24)⟩,
    ⟨some 26, some (21, true), .load true 2 (.t 25)⟩,
    ⟨some 27, some (21, true), .mov (.t 0)⟩,
    ⟨some 28, some (21, true), .mov (.t 9)⟩,
    ⟨some 29, some (21, true), .bin .sub (.t 28) (.c (.int .i64 1))⟩,
    ⟨some 30, some (21, true), .idxS 2 (.t 27) (.t 29)⟩,
    ⟨some 31, some (21, true), .load true 2 (.t 30)⟩,
    ⟨some 32, some (21, true), .callv (.t 22) [.t 26, .t 31]⟩,
    ⟨some 33, some (21, true), .bin .lss (.t 32) (.c (.int .i64 0))⟩,
    ⟨some 34, none, .pick (.t 21) (.t 33) (.c (.bool false))⟩]
    [[], [], [0, 1], [2], [3], [3], [3], [5, 6, 3], [7, 3], [3], [3], [10, 3], [9, 11, 3], [12, 3], [4, 8, 13, 3, 3], [14, 3], [3, 15]]
    [(0, []), (1, []), (2, []), (3, []), (4, []), (5, []), (6, []), (7, []), (9, []), (10, []), (11, []), (12, []), (8, []), (13, []), (14, []), (15, []), (16, [])]
    [[], [], [0, 1], [0, 1, 2], [0, 1, 2, 3], [0, 1, 2, 3], [0, 1, 2, 3], [0, 1, 2, 3, 5, 6], [0, 1, 2, 3, 5, 6, 7], [0, 1, 2, 3], [0, 1, 2, 3], [0, 1, 2, 3, 10], [0, 1, 2, 3, 9, 10, 11], [0, 1, 2, 3, 9, 10, 11, 12], [0, 1, 2, 3, 4, 5, 6, 7, 8, 9, 10, 11, 12, 13], [0, 1, 2, 3, 4, 5, 6, 7, 8, 9, 10, 11, 12, 13, 14], [0, 1, 2, 3, 4, 5, 6, 7, 8, 9, 10, 11, 12, 13, 14, 15]]
    [0, 1, 2, 3, 8, 9, 34])
  (.cond (.t 34)
    .skip
    (.exit 2)))
  (.seq (.block 3
    (.drawn [⟨some 37, none, .mov (.t 0)⟩,
      ⟨some 38, none, .mov (.t 9)⟩,
      ⟨some 39, none, .mov (.t 0)⟩,
      ⟨some 40, none, .mov (.t 9)⟩,
      ⟨some 41, none, .bin .sub (.t 40) (.c (.int .i64 1))⟩,
      ⟨some 42, none, .mov (.t 0)⟩,
      ⟨some 43, none, .mov (.t 9)⟩,
      ⟨some 44, none, .bin .sub (.t 43) (.c (.int .i64 1))⟩,
      ⟨some 45, none, .idxS 2 (.t 42) (.t 44)⟩,
      ⟨some 46, none, .load true 2 (.t 45)⟩,
      ⟨some 47, none, .mov (.t 0)⟩,
      ⟨some 48, none, .mov (.t 9)⟩,
      ⟨some 49, none, .idxS 2 (.t 47) (.t 48)⟩,
      ⟨some 50, none, .load true 2 (.t 49)⟩,
      ⟨some 51, none, .idxS 2 (.t 37) (.t 38)⟩,
      ⟨none, none, .store 2 (.t 51) (.t 46)⟩,
      ⟨some 52, none, .idxS 2 (.t 39) (.t 41)⟩,
      ⟨none, none, .store 2 (.t 52) (.t 50)⟩]
      [[], [], [], [], [3], [], [], [6], [5, 7], [8], [], [], [10, 11], [12], [0, 1, 0, 1, 5, 6, 7, 8, 9, 13], [14, 9, 0, 1, 5, 6, 7, 8, 9, 13], [2, 4, 0, 1, 2, 3, 4, 5, 6, 7, 8, 9, 10, 11, 12, 13, 14, 15], [16, 13, 15, 0, 1, 2, 3, 4, 5, 6, 7, 8, 9, 10, 11, 12, 13, 14, 15]]
      [(0, []), (1, []), (2, []), (3, []), (4, []), (5, []), (6, []), (7, []), (8, []), (10, []), (11, []), (12, []), (9, []), (13, []), (14, []), (15, []), (16, []), (17, [])]
      [[], [], [], [], [3], [], [], [6], [5, 6, 7], [5, 6, 7, 8], [], [], [10, 11], [10, 11, 12], [0, 1, 5, 6, 7, 8, 9, 10, 11, 12, 13], [0, 1, 5, 6, 7, 8, 9, 10, 11, 12, 13, 14], [0, 1, 2, 3, 4, 5, 6, 7, 8, 9, 10, 11, 12, 13, 14, 15], [0, 1, 2, 3, 4, 5, 6, 7, 8, 9, 10, 11, 12, 13, 14, 15, 16]]
      [0, 1, 2, 3, 8, 9]) [0, 1, 2, 3, 8, 9])
  (.region [⟨some 35, none, .mov (.t 9)⟩,
    ⟨some 36, none, .bin .sub (.t 35) (.c (.int .i64 1))⟩,
    ⟨some 9, none, .mov (.t 36)⟩]
    [0, 1, 2, 3, 8, 9])))
def RB.slices_insertionSortCmpFunc_spans_Span_2 : RCode :=
  (.seq (.seq (.region [⟨some 12, none, .mov (.t 8)⟩,
    ⟨some 13, none, .mov (.t 2)⟩,
    ⟨some 14, none, .bin .lss (.t 12) (.t 13)⟩]
    [0, 1, 2, 3, 8, 14])
  (.cond (.t 14)
    .skip
    (.exit 0)))
  (.seq (.block 1
    (.seq (.region [⟨some 17, none, .mov (.t 8)⟩,
      ⟨some 9, none, .mov (.t 17)⟩]
      [0, 1, 2, 3, 8, 9])
    (.block 2
      (.loop [0, 1, 2, 3, 8, 9] RB.slices_insertionSortCmpFunc_spans_Span_1) [0, 1, 2, 3, 8])) [0, 1, 2, 3, 8])
  (.region [⟨some 15, none, .mov (.t 8)⟩,
    ⟨some 16, none, .bin .add (.t 15) (.c (.int .i64 1))⟩,
    ⟨some 8, none, .mov (.t 16)⟩]
    [0, 1, 2, 3, 8])))
def RC.slices_insertionSortCmpFunc_spans_Span : RFn := ⟨4, [],
  (.seq (.region [⟨some 10, none, .mov (.t 1)⟩,
    ⟨some 11, none, .bin .add (.t 10) (.c (.int .i64 1))⟩,
    ⟨some 8, none, .mov (.t 11)⟩]
    [0, 1, 2, 3, 8])
  (.block 0
    (.loop [0, 1, 2, 3, 8] RB.slices_insertionSortCmpFunc_spans_Span_2) []))⟩

def RB.slices_heapSortCmpFunc_spans_Span_1 : RCode :=
  (.seq (.seq (.region [⟨some 32, none, .mov (.t 12)⟩,
    ⟨some 33, none, .bin .geq (.t 32) (.c (.int .i64 0))⟩]
    [0, 3, 8, 9, 12, 33])
  (.cond (.t 33)
    .skip
    (.exit 2)))
  (.seq (.block 3
    (.seq (.drawn [⟨some 36, none, .mov (.t 0)⟩,
      ⟨some 37, none, .mov (.t 8)⟩,
      ⟨some 38, none, .mov (.t 0)⟩,
      ⟨some 39, none, .mov (.t 8)⟩,
      ⟨some 40, none, .mov (.t 12)⟩,
      ⟨some 41, none, .bin .add (.t 39) (.t 40)⟩,
      ⟨some 42, none, .mov (.t 0)⟩,
      ⟨some 43, none, .mov (.t 8)⟩,
      ⟨some 44, none, .mov (.t 12)⟩,
      ⟨some 45, none, .bin .add (.t 43) (.t 44)⟩,
      ⟨some 46, none, .idxS 2 (.t 42) (.t 45)⟩,
      ⟨some 47, none, .load true 2 (.t 46)⟩,
      ⟨some 48, none, .mov (.t 0)⟩,
      ⟨some 49, none, .mov (.t 8)⟩,
      ⟨some 50, none, .idxS 2 (.t 48) (.t 49)⟩,
      ⟨some 51, none, .load true 2 (.t 50)⟩,
      ⟨some 52, none, .idxS 2 (.t 36) (.t 37)⟩,
      ⟨none, none, .store 2 (.t 52) (.t 47)⟩,
      ⟨some 53, none, .idxS 2 (.t 38) (.t 41)⟩,
      ⟨none, none, .store 2 (.t 53) (.t 51)⟩]
      [[], [], [], [], [], [3, 4], [], [], [], [7, 8], [6, 9], [10], [], [], [12, 13], [14], [0, 1, 0, 1, 6, 7, 8, 9, 10, 11, 15], [16, 11, 0, 1, 6, 7, 8, 9, 10, 11, 15], [2, 5, 0, 1, 2, 3, 4, 5, 6, 7, 8, 9, 10, 11, 12, 13, 14, 15, 16, 17], [18, 15, 17, 0, 1, 2, 3, 4, 5, 6, 7, 8, 9, 10, 11, 12, 13, 14, 15, 16, 17]]
      [(0, []), (1, []), (2, []), (3, []), (4, []), (5, []), (6, []), (7, []), (8, []), (9, []), (10, []), (12, []), (13, []), (14, []), (11, []), (15, []), (16, []), (17, []), (18, []), (19, [])]
      [[], [], [], [], [], [3, 4], [], [], [], [7, 8], [6, 7, 8, 9], [6, 7, 8, 9, 10], [], [], [12, 13], [12, 13, 14], [0, 1, 6, 7, 8, 9, 10, 11, 12, 13, 14, 15], [0, 1, 6, 7, 8, 9, 10, 11, 12, 13, 14, 15, 16], [0, 1, 2, 3, 4, 5, 6, 7, 8, 9, 10, 11, 12, 13, 14, 15, 16, 17], [0, 1, 2, 3, 4, 5, 6, 7, 8, 9, 10, 11, 12, 13, 14, 15, 16, 17, 18]]
      [0, 3, 8, 9, 12])
    (.region [⟨some 54, none, .mov (.t 0)⟩,
      ⟨some 55, none, .mov (.t 9)⟩,
      ⟨some 56, none, .mov (.t 12)⟩,
      ⟨some 57, none, .mov (.t 8)⟩,
      ⟨some 58, none, .mov (.t 3)⟩,
      ⟨some 59, none, .call F.slices_siftDownCmpFunc_spans_Span [.t 54, .t 55, .t 56, .t 57, .t 58]⟩]
      [0, 3, 8, 9, 12])) [0, 3, 8, 9, 12])
  (.region [⟨some 34, none, .mov (.t 12)⟩,
    ⟨some 35, none, .bin .sub (.t 34) (.c (.int .i64 1))⟩,
    ⟨some 12, none, .mov (.t 35)⟩]
    [0, 3, 8, 9, 12])))
def RB.slices_heapSortCmpFunc_spans_Span_2 : RCode :=
  (.seq (.seq (.region [⟨some 20, none, .mov (.t 11)⟩,
    ⟨some 21, none, .bin .geq (.t 20) (.c (.int .i64 0))⟩]
    [0, 3, 8, 9, 10, 11, 21])
  (.cond (.t 21)
    .skip
    (.exit 0)))
  (.seq (.block 1
    (.region [⟨some 24, none, .mov (.t 0)⟩,
      ⟨some 25, none, .mov (.t 11)⟩,
      ⟨some 26, none, .mov (.t 10)⟩,
      ⟨some 27, none, .mov (.t 8)⟩,
      ⟨some 28, none, .mov (.t 3)⟩,
      ⟨some 29, none, .call F.slices_siftDownCmpFunc_spans_Span [.t 24, .t 25, .t 26, .t 27, .t 28]⟩]
      [0, 3, 8, 9, 10, 11]) [0, 3, 8, 9, 10, 11])
  (.region [⟨some 22, none, .mov (.t 11)⟩,
    ⟨some 23, none, .bin .sub (.t 22) (.c (.int .i64 1))⟩,
    ⟨some 11, none, .mov (.t 23)⟩]
    [0, 3, 8, 9, 10, 11])))
def RC.slices_heapSortCmpFunc_spans_Span : RFn := ⟨4, [],
  (.seq (.region [⟨some 13, none, .mov (.t 1)⟩,
    ⟨some 8, none, .mov (.t 13)⟩]
    [0, 1, 2, 3, 8])
  (.seq (.region [⟨some 9, none, .mov (.c (.int .i64 0))⟩]
    [0, 1, 2, 3, 8, 9])
  (.seq (.region [⟨some 14, none, .mov (.t 2)⟩,
    ⟨some 15, none, .mov (.t 1)⟩,
    ⟨some 16, none, .bin .sub (.t 14) (.t 15)⟩,
    ⟨some 10, none, .mov (.t 16)⟩]
    [0, 3, 8, 9, 10])
  (.seq (.seq (.region [⟨some 17, none, .mov (.t 10)⟩,
    ⟨some 18, none, .bin .sub (.t 17) (.c (.int .i64 1))⟩,
    ⟨some 19, none, .bin .quo (.t 18) (.c (.int .i64 2))⟩,
    ⟨some 11, none, .mov (.t 19)⟩]
    [0, 3, 8, 9, 10, 11])
  (.block 0
    (.loop [0, 3, 8, 9, 10, 11] RB.slices_heapSortCmpFunc_spans_Span_2) [0, 3, 8, 9, 10]))
  (.seq (.region [⟨some 30, none, .mov (.t 10)⟩,
    ⟨some 31, none, .bin .sub (.t 30) (.c (.int .i64 1))⟩,
    ⟨some 12, none, .mov (.t 31)⟩]
    [0, 3, 8, 9, 12])
  (.block 2
    (.loop [0, 3, 8, 9, 12] RB.slices_heapSortCmpFunc_spans_Span_1) []))))))⟩

def RB.slices_breakPatternsCmpFunc_spans_Span_1 : RCode :=
  (.seq (.seq (.region [⟨some 28, none, .mov (.t 11)⟩,
    ⟨some 29, none, .mov (.t 1)⟩,
    ⟨some 30, none, .mov (.t 8)⟩,
    ⟨some 31, none, .bin .quo (.t 30) (.c (.int .i64 4))⟩,
    ⟨some 32, none, .bin .mul (.t 31) (.c (.int .i64 2))⟩,
    ⟨some 33, none, .bin .add (.t 29) (.t 32)⟩,
    ⟨some 34, none, .bin .add (.t 33) (.c (.int .i64 1))⟩,
    ⟨some 35, none, .bin .leq (.t 28) (.t 34)⟩]
    [0, 1, 8, 9, 10, 11, 35])
  (.cond (.t 35)
    .skip
    (.exit 0)))
  (.seq (.block 1
    (.seq (.region [⟨some 38, none, .call F.slices_xorshift_Next [.t 9]⟩,
      ⟨some 39, none, .mov (.t 10)⟩,
      ⟨some 40, none, .bin .sub (.t 39) (.c (u64 1#64))⟩,
      ⟨some 41, none, .bin .and (.t 38) (.t 40)⟩,
      ⟨some 42, none, .conv .i64 (.t 41)⟩,
      ⟨some 12, none, .mov (.t 42)⟩]
      [0, 1, 8, 9, 10, 11, 12])
    (.seq (.seq (.region [⟨some 43, none, .mov (.t 12)⟩,
      ⟨some 44, none, .mov (.t 8)⟩,
      ⟨some 45, none, .bin .geq (.t 43) (.t 44)⟩]
      [0, 1, 8, 9, 10, 11, 12, 45])
    (.cond (.t 45)
      (.region [⟨some 46, none, .mov (.t 12)⟩,
        ⟨some 47, none, .mov (.t 8)⟩,
        ⟨some 48, none, .bin .sub (.t 46) (.t 47)⟩,
        ⟨some 12, none, .mov (.t 48)⟩]
        [0, 1, 8, 9, 10, 11, 12])
      .skip))
    (.drawn [⟨some 49, none, .mov (.t 0)⟩,
      ⟨some 50, none, .mov (.t 11)⟩,
      ⟨some 51, none, .mov (.t 0)⟩,
      ⟨some 52, none, .mov (.t 1)⟩,
      ⟨some 53, none, .mov (.t 12)⟩,
      ⟨some 54, none, .bin .add (.t 52) (.t 53)⟩,
      ⟨some 55, none, .mov (.t 0)⟩,
      ⟨some 56, none, .mov (.t 1)⟩,
      ⟨some 57, none, .mov (.t 12)⟩,
      ⟨some 58, none, .bin .add (.t 56) (.t 57)⟩,
      ⟨some 59, none, .idxS 2 (.t 55) (.t 58)⟩,
      ⟨some 60, none, .load true 2 (.t 59)⟩,
      ⟨some 61, none, .mov (.t 0)⟩,
      ⟨some 62, none, .mov (.t 11)⟩,
      ⟨some 63, none, .idxS 2 (.t 61) (.t 62)⟩,
      ⟨some 64, none, .load true 2 (.t 63)⟩,
      ⟨some 65, none, .idxS 2 (.t 49) (.t 50)⟩,
      ⟨none, none, .store 2 (.t 65) (.t 60)⟩,
      ⟨some 66, none, .idxS 2 (.t 51) (.t 54)⟩,
      ⟨none, none, .store 2 (.t 66) (.t 64)⟩]
      [[], [], [], [], [], [3, 4], [], [], [], [7, 8], [6, 9], [10], [], [], [12, 13], [14], [0, 1, 0, 1, 6, 7, 8, 9, 10, 11, 15], [16, 11, 0, 1, 6, 7, 8, 9, 10, 11, 15], [2, 5, 0, 1, 2, 3, 4, 5, 6, 7, 8, 9, 10, 11, 12, 13, 14, 15, 16, 17], [18, 15, 17, 0, 1, 2, 3, 4, 5, 6, 7, 8, 9, 10, 11, 12, 13, 14, 15, 16, 17]]
      [(0, []), (1, []), (2, []), (3, []), (4, []), (5, []), (6, []), (7, []), (8, []), (9, []), (10, []), (12, []), (13, []), (14, []), (11, []), (15, []), (16, []), (17, []), (18, []), (19, [])]
      [[], [], [], [], [], [3, 4], [], [], [], [7, 8], [6, 7, 8, 9], [6, 7, 8, 9, 10], [], [], [12, 13], [12, 13, 14], [0, 1, 6, 7, 8, 9, 10, 11, 12, 13, 14, 15], [0, 1, 6, 7, 8, 9, 10, 11, 12, 13, 14, 15, 16], [0, 1, 2, 3, 4, 5, 6, 7, 8, 9, 10, 11, 12, 13, 14, 15, 16, 17], [0, 1, 2, 3, 4, 5, 6, 7, 8, 9, 10, 11, 12, 13, 14, 15, 16, 17, 18]]
      [0, 1, 8, 9, 10, 11]))) [0, 1, 8, 9, 10, 11])
  (.region [⟨some 36, none, .mov (.t 11)⟩,
    ⟨some 37, none, .bin .add (.t 36) (.c (.int .i64 1))⟩,
    ⟨some 11, none, .mov (.t 37)⟩]
    [0, 1, 8, 9, 10, 11])))
def RC.slices_breakPatternsCmpFunc_spans_Span : RFn := ⟨4, [],
  (.seq (.region [⟨some 13, none, .mov (.t 2)⟩,
    ⟨some 14, none, .mov (.t 1)⟩,
    ⟨some 15, none, .bin .sub (.t 13) (.t 14)⟩,
    ⟨some 8, none, .mov (.t 15)⟩]
    [0, 1, 8])
  (.seq (.region [⟨some 16, none, .mov (.t 8)⟩,
    ⟨some 17, none, .bin .geq (.t 16) (.c (.int .i64 8))⟩]
    [0, 1, 8, 17])
  (.cond (.t 17)
    (.seq (.region [⟨some 18, none, .mov (.t 8)⟩,
      ⟨some 19, none, .conv .u64 (.t 18)⟩,
      ⟨some 9, none, .alloc [(u64 0#64)]⟩,
      ⟨none, none, .store 1 (.t 9) (.t 19)⟩]
      [0, 1, 8, 9])
    (.seq (.region [⟨some 20, none, .mov (.t 8)⟩,
      ⟨some 21, none, .call F.slices_nextPowerOfTwo [.t 20]⟩,
      ⟨some 10, none, .mov (.t 21)⟩]
      [0, 1, 8, 9, 10])
    (.seq (.region [⟨some 22, none, .mov (.t 1)⟩,
      ⟨some 23, none, .mov (.t 8)⟩,
      ⟨some 24, none, .bin .quo (.t 23) (.c (.int .i64 4))⟩,
      ⟨some 25, none, .bin .mul (.t 24) (.c (.int .i64 2))⟩,
      ⟨some 26, none, .bin .add (.t 22) (.t 25)⟩,
      ⟨some 27, none, .bin .sub (.t 26) (.c (.int .i64 1))⟩,
      ⟨some 11, none, .mov (.t 27)⟩]
      [0, 1, 8, 9, 10, 11])
    (.block 0
      (.loop [0, 1, 8, 9, 10, 11] RB.slices_breakPatternsCmpFunc_spans_Span_1) []))))
    .skip)))⟩

def RC.slices_choosePivotCmpFunc_spans_Span : RFn := ⟨4, [.slot 8, .slot 9],
  (.seq (.region [⟨some 8, none, .mov (.c (.int .i64 0))⟩,
    ⟨some 9, none, .mov (.c (.int .i64 0))⟩]
    [0, 1, 2, 3])
  (.seq (.region [⟨some 15, none, .mov (.t 2)⟩,
    ⟨some 16, none, .mov (.t 1)⟩,
    ⟨some 17, none, .bin .sub (.t 15) (.t 16)⟩,
    ⟨some 10, none, .mov (.t 17)⟩]
    [0, 1, 3, 10])
  (.seq (.region [⟨some 11, none, .alloc [(.int .i64 0)]⟩]
    [0, 1, 3, 10, 11])
  (.seq (.region [⟨some 18, none, .mov (.t 1)⟩,
    ⟨some 19, none, .mov (.t 10)⟩,
    ⟨some 20, none, .bin .quo (.t 19) (.c (.int .i64 4))⟩,
    ⟨some 21, none, .bin .mul (.t 20) (.c (.int .i64 1))⟩,
    ⟨some 22, none, .bin .add (.t 18) (.t 21)⟩,
    ⟨some 12, none, .mov (.t 22)⟩]
    [0, 1, 3, 10, 11, 12])
  (.seq (.region [⟨some 23, none, .mov (.t 1)⟩,
    ⟨some 24, none, .mov (.t 10)⟩,
    ⟨some 25, none, .bin .quo (.t 24) (.c (.int .i64 4))⟩,
    ⟨some 26, none, .bin .mul (.t 25) (.c (.int .i64 2))⟩,
    ⟨some 27, none, .bin .add (.t 23) (.t 26)⟩,
    ⟨some 13, none, .mov (.t 27)⟩]
    [0, 1, 3, 10, 11, 12, 13])
  (.seq (.region [⟨some 28, none, .mov (.t 1)⟩,
    ⟨some 29, none, .mov (.t 10)⟩,
    ⟨some 30, none, .bin .quo (.t 29) (.c (.int .i64 4))⟩,
    ⟨some 31, none, .bin .mul (.t 30) (.c (.int .i64 3))⟩,
    ⟨some 32, none, .bin .add (.t 28) (.t 31)⟩,
    ⟨some 14, none, .mov (.t 32)⟩]
    [0, 3, 10, 11, 12, 13, 14])
  (.seq (.seq (.region [⟨some 33, none, .mov (.t 10)⟩,
    ⟨some 34, none, .bin .geq (.t 33) (.c (.int .i64 8))⟩]
    [0, 3, 10, 11, 12, 13, 14, 34])
  (.cond (.t 34)
    (.seq (.seq (.region [⟨some 35, none, .mov (.t 10)⟩,
      ⟨some 36, none, .bin .geq (.t 35) (.c (.int .i64 50))⟩]
      [0, 3, 11, 12, 13, 14, 36])
    (.cond (.t 36)
      (.seq (.region [⟨some 37, none, .mov (.t 0)⟩,
        ⟨some 38, none, .mov (.t 12)⟩,
        ⟨some 39, none, .mov (.t 3)⟩,
        ⟨some 40, none, .call F.slices_medianAdjacentCmpFunc_spans_Span [.t 37, .t 38, .t 11, .t 39]⟩,
        ⟨some 12, none, .mov (.t 40)⟩]
        [0, 3, 11, 12, 13, 14])
      (.seq (.region [⟨some 41, none, .mov (.t 0)⟩,
        ⟨some 42, none, .mov (.t 13)⟩,
        ⟨some 43, none, .mov (.t 3)⟩,
        ⟨some 44, none, .call F.slices_medianAdjacentCmpFunc_spans_Span [.t 41, .t 42, .t 11, .t 43]⟩,
        ⟨some 13, none, .mov (.t 44)⟩]
        [0, 3, 11, 12, 13, 14])
      (.region [⟨some 45, none, .mov (.t 0)⟩,
        ⟨some 46, none, .mov (.t 14)⟩,
        ⟨some 47, none, .mov (.t 3)⟩,
        ⟨some 48, none, .call F.slices_medianAdjacentCmpFunc_spans_Span [.t 45, .t 46, .t 11, .t 47]⟩,
        ⟨some 14, none, .mov (.t 48)⟩]
        [0, 3, 11, 12, 13, 14])))
      .skip))
    (.region [⟨some 49, none, .mov (.t 0)⟩,
      ⟨some 50, none, .mov (.t 12)⟩,
      ⟨some 51, none, .mov (.t 13)⟩,
      ⟨some 52, none, .mov (.t 14)⟩,
      ⟨some 53, none, .mov (.t 3)⟩,
      ⟨some 54, none, .call F.slices_medianCmpFunc_spans_Span [.t 49, .t 50, .t 51, .t 52, .t 11, .t 53]⟩,
      ⟨some 13, none, .mov (.t 54)⟩]
      [11, 13]))
    .skip))
  (.seq (.region [⟨some 55, none, .load false 1 (.t 11)⟩]
    [13, 55])
  (.block 0
    (.seq (.region [⟨some 58, none, .bin .eql (.t 55) (.c (.int .i64 0))⟩,
      ⟨some 57, none, .mov (.t 58)⟩]
      [13, 55, 57])
    (.cond (.t 57)
      (.seq (.region [⟨some 59, none, .mov (.t 13)⟩,
        ⟨some 8, none, .mov (.t 59)⟩,
        ⟨some 9, none, .mov (.c (.int .i64 1))⟩]
        [8, 9])
      .ret)
      (.seq (.region [⟨some 61, none, .bin .eql (.t 55) (.c (.int .i64 12))⟩,
        ⟨some 60, none, .mov (.t 61)⟩]
        [13, 60])
      (.cond (.t 60)
        (.seq (.region [⟨some 62, none, .mov (.t 13)⟩,
          ⟨some 8, none, .mov (.t 62)⟩,
          ⟨some 9, none, .mov (.c (.int .i64 2))⟩]
          [8, 9])
        .ret)
        (.seq (.region [⟨some 56, none, .mov (.t 13)⟩,
          ⟨some 8, none, .mov (.t 56)⟩,
          ⟨some 9, none, .mov (.c (.int .i64 0))⟩]
          [8, 9])
        .ret))))) [8, 9])))))))))⟩

def RB.slices_reverseRangeCmpFunc_spans_Span_1 : RCode :=
  (.seq (.seq (.region [⟨some 13, none, .mov (.t 8)⟩,
    ⟨some 14, none, .mov (.t 9)⟩,
    ⟨some 15, none, .bin .lss (.t 13) (.t 14)⟩]
    [0, 8, 9, 15])
  (.cond (.t 15)
    .skip
    (.exit 0)))
  (.block 1
    (.seq (.drawn [⟨some 16, none, .mov (.t 0)⟩,
      ⟨some 17, none, .mov (.t 8)⟩,
      ⟨some 18, none, .mov (.t 0)⟩,
      ⟨some 19, none, .mov (.t 9)⟩,
      ⟨some 20, none, .mov (.t 0)⟩,
      ⟨some 21, none, .mov (.t 9)⟩,
      ⟨some 22, none, .idxS 2 (.t 20) (.t 21)⟩,
      ⟨some 23, none, .load true 2 (.t 22)⟩,
      ⟨some 24, none, .mov (.t 0)⟩,
      ⟨some 25, none, .mov (.t 8)⟩,
      ⟨some 26, none, .idxS 2 (.t 24) (.t 25)⟩,
      ⟨some 27, none, .load true 2 (.t 26)⟩,
      ⟨some 28, none, .idxS 2 (.t 16) (.t 17)⟩,
      ⟨none, none, .store 2 (.t 28) (.t 23)⟩,
      ⟨some 29, none, .idxS 2 (.t 18) (.t 19)⟩,
      ⟨none, none, .store 2 (.t 29) (.t 27)⟩]
      [[], [], [], [], [], [], [4, 5], [6], [], [], [8, 9], [10], [0, 1, 0, 1, 4, 5, 6, 7, 11], [12, 7, 0, 1, 4, 5, 6, 7, 11], [2, 3, 0, 1, 2, 3, 4, 5, 6, 7, 8, 9, 10, 11, 12, 13], [14, 11, 13, 0, 1, 2, 3, 4, 5, 6, 7, 8, 9, 10, 11, 12, 13]]
      [(0, []), (1, []), (2, []), (3, []), (4, []), (5, []), (6, []), (8, []), (9, []), (10, []), (7, []), (11, []), (12, []), (13, []), (14, []), (15, [])]
      [[], [], [], [], [], [], [4, 5], [4, 5, 6], [], [], [8, 9], [8, 9, 10], [0, 1, 4, 5, 6, 7, 8, 9, 10, 11], [0, 1, 4, 5, 6, 7, 8, 9, 10, 11, 12], [0, 1, 2, 3, 4, 5, 6, 7, 8, 9, 10, 11, 12, 13], [0, 1, 2, 3, 4, 5, 6, 7, 8, 9, 10, 11, 12, 13, 14]]
      [0, 8, 9])
    (.seq (.region [⟨some 30, none, .mov (.t 8)⟩,
      ⟨some 31, none, .bin .add (.t 30) (.c (.int .i64 1))⟩,
      ⟨some 8, none, .mov (.t 31)⟩]
      [0, 8, 9])
    (.region [⟨some 32, none, .mov (.t 9)⟩,
      ⟨some 33, none, .bin .sub (.t 32) (.c (.int .i64 1))⟩,
      ⟨some 9, none, .mov (.t 33)⟩]
      [0, 8, 9]))) [0, 8, 9]))
def RC.slices_reverseRangeCmpFunc_spans_Span : RFn := ⟨4, [],
  (.seq (.region [⟨some 10, none, .mov (.t 1)⟩,
    ⟨some 8, none, .mov (.t 10)⟩]
    [0, 2, 8])
  (.seq (.region [⟨some 11, none, .mov (.t 2)⟩,
    ⟨some 12, none, .bin .sub (.t 11) (.c (.int .i64 1))⟩,
    ⟨some 9, none, .mov (.t 12)⟩]
    [0, 8, 9])
  (.block 0
    (.loop [0, 8, 9] RB.slices_reverseRangeCmpFunc_spans_Span_1) [])))⟩

def RB.slices_partialInsertionSortCmpFunc_spans_Span_1 : RCode :=
  (.seq (.seq (.region [⟨some 107, none, .mov (.t 12)⟩,
    ⟨some 108, none, .mov (.t 2)⟩,
    ⟨some 109, none, .bin .lss (.t 107) (.t 108)⟩]
    [0, 1, 2, 3, 9, 10, 12, 109])
  (.cond (.t 109)
    .skip
    (.exit 6)))
  (.seq (.block 7
    (.seq (.seq (.drawn [⟨some 112, none, .mov (.t 3)⟩,
      ⟨some 113, none, .mov (.t 0)⟩,
      ⟨some 114, none, .mov (.t 12)⟩,
      ⟨some 115, none, .idxS 2 (.t 113) (.t 114)⟩,
      ⟨some 116, none, .load true 2 (.t 115)⟩,
      ⟨some 117, none, .mov (.t 0)⟩,
      ⟨some 118, none, .mov (.t 12)⟩,
      ⟨some 119, none, .bin .sub (.t 118) (.c (.int .i64 1))⟩,
      ⟨some 120, none, .idxS 2 (.t 117) (.t 119)⟩,
      ⟨some 121, none, .load true 2 (.t 120)⟩,
      ⟨some 122, none, .callv (.t 112) [.t 116, .t 121]⟩,
      ⟨some 123, none, .bin .lss (.t 122) (.c (.int .i64 0))⟩,
      ⟨some 124, none, .un .not (.t 123)⟩]
      [[], [], [], [1, 2], [3], [], [], [6], [5, 7], [8], [0, 4, 9], [10], [11]]
      [(0, []), (1, []), (2, []), (3, []), (5, []), (6, []), (7, []), (8, []), (4, []), (9, []), (10, []), (11, []), (12, [])]
      [[], [], [], [1, 2], [1, 2, 3], [], [], [6], [5, 6, 7], [5, 6, 7, 8], [0, 1, 2, 3, 4, 5, 6, 7, 8, 9], [0, 1, 2, 3, 4, 5, 6, 7, 8, 9, 10], [0, 1, 2, 3, 4, 5, 6, 7, 8, 9, 10, 11]]
      [0, 1, 2, 3, 9, 10, 12, 124])
    (.cond (.t 124)
      (.exit 6)
      .skip))
    (.drawn [⟨some 125, none, .mov (.t 0)⟩,
      ⟨some 126, none, .mov (.t 12)⟩,
      ⟨some 127, none, .mov (.t 0)⟩,
      ⟨some 128, none, .mov (.t 12)⟩,
      ⟨some 129, none, .bin .sub (.t 128) (.c (.int .i64 1))⟩,
      ⟨some 130, none, .mov (.t 0)⟩,
      ⟨some 131, none, .mov (.t 12)⟩,
      ⟨some 132, none, .bin .sub (.t 131) (.c (.int .i64 1))⟩,
      ⟨some 133, none, .idxS 2 (.t 130) (.t 132)⟩,
      ⟨some 134, none, .load true 2 (.t 133)⟩,
      ⟨some 135, none, .mov (.t 0)⟩,
      ⟨some 136, none, .mov (.t 12)⟩,
      ⟨some 137, none, .idxS 2 (.t 135) (.t 136)⟩,
      ⟨some 138, none, .load true 2 (.t 137)⟩,
      ⟨some 139, none, .idxS 2 (.t 125) (.t 126)⟩,
      ⟨none, none, .store 2 (.t 139) (.t 134)⟩,
      ⟨some 140, none, .idxS 2 (.t 127) (.t 129)⟩,
      ⟨none, none, .store 2 (.t 140) (.t 138)⟩]
      [[], [], [], [], [3], [], [], [6], [5, 7], [8], [], [], [10, 11], [12], [0, 1, 0, 1, 5, 6, 7, 8, 9, 13], [14, 9, 0, 1, 5, 6, 7, 8, 9, 13], [2, 4, 0, 1, 2, 3, 4, 5, 6, 7, 8, 9, 10, 11, 12, 13, 14, 15], [16, 13, 15, 0, 1, 2, 3, 4, 5, 6, 7, 8, 9, 10, 11, 12, 13, 14, 15]]
      [(0, []), (1, []), (2, []), (3, []), (4, []), (5, []), (6, []), (7, []), (8, []), (10, []), (11, []), (12, []), (9, []), (13, []), (14, []), (15, []), (16, []), (17, [])]
      [[], [], [], [], [3], [], [], [6], [5, 6, 7], [5, 6, 7, 8], [], [], [10, 11], [10, 11, 12], [0, 1, 5, 6, 7, 8, 9, 10, 11, 12, 13], [0, 1, 5, 6, 7, 8, 9, 10, 11, 12, 13, 14], [0, 1, 2, 3, 4, 5, 6, 7, 8, 9, 10, 11, 12, 13, 14, 15], [0, 1, 2, 3, 4, 5, 6, 7, 8, 9, 10, 11, 12, 13, 14, 15, 16]]
      [0, 1, 2, 3, 9, 10, 12])) [0, 1, 2, 3, 9, 10, 12])
  (.region [⟨some 110, none, .mov (.t 12)⟩,
    ⟨some 111, none, .bin .add (.t 110) (.c (.int .i64 1))⟩,
    ⟨some 12, none, .mov (.t 111)⟩]
    [0, 1, 2, 3, 9, 10, 12])))
def RB.slices_partialInsertionSortCmpFunc_spans_Span_2 : RCode :=
  (.seq (.seq (.region [⟨some 68, none, .mov (.t 11)⟩,
    ⟨some 69, none, .bin .geq (.t 68) (.c (.int .i64 1))⟩]
    [0, 1, 2, 3, 9, 10, 11, 69])
  (.cond (.t 69)
    .skip
    (.exit 4)))
  (.seq (.block 5
    (.seq (.seq (.drawn [⟨some 72, none, .mov (.t 3)⟩,
      ⟨some 73, none, .mov (.t 0)⟩,
      ⟨some 74, none, .mov (.t 11)⟩,
      ⟨some 75, none, .idxS 2 (.t 73) (.t 74)⟩,
      ⟨some 76, none, .load true 2 (.t 75)⟩,
      ⟨some 77, none, .mov (.t 0)⟩,
      ⟨some 78, none, .mov (.t 11)⟩,
      ⟨some 79, none, .bin .sub (.t 78) (.c (.int .i64 1))⟩,
      ⟨some 80, none, .idxS 2 (.t 77) (.t 79)⟩,
      ⟨some 81, none, .load true 2 (.t 80)⟩,
      ⟨some 82, none, .callv (.t 72) [.t 76, .t 81]⟩,
      ⟨some 83, none, .bin .lss (.t 82) (.c (.int .i64 0))⟩,
      ⟨some 84, none, .un .not (.t 83)⟩]
      [[], [], [], [1, 2], [3], [], [], [6], [5, 7], [8], [0, 4, 9], [10], [11]]
      [(0, []), (1, []), (2, []), (3, []), (5, []), (6, []), (7, []), (8, []), (4, []), (9, []), (10, []), (11, []), (12, [])]
      [[], [], [], [1, 2], [1, 2, 3], [], [], [6], [5, 6, 7], [5, 6, 7, 8], [0, 1, 2, 3, 4, 5, 6, 7, 8, 9], [0, 1, 2, 3, 4, 5, 6, 7, 8, 9, 10], [0, 1, 2, 3, 4, 5, 6, 7, 8, 9, 10, 11]]
      [0, 1, 2, 3, 9, 10, 11, 84])
    (.cond (.t 84)
      (.exit 4)
      .skip))
    (.drawn [⟨some 85, none, .mov (.t 0)⟩,
      ⟨some 86, none, .mov (.t 11)⟩,
      ⟨some 87, none, .mov (.t 0)⟩,
      ⟨some 88, none, .mov (.t 11)⟩,
      ⟨some 89, none, .bin .sub (.t 88) (.c (.int .i64 1))⟩,
      ⟨some 90, none, .mov (.t 0)⟩,
      ⟨some 91, none, .mov (.t 11)⟩,
      ⟨some 92, none, .bin .sub (.t 91) (.c (.int .i64 1))⟩,
      ⟨some 93, none, .idxS 2 (.t 90) (.t 92)⟩,
      ⟨some 94, none, .load true 2 (.t 93)⟩,
      ⟨some 95, none, .mov (.t 0)⟩,
      ⟨some 96, none, .mov (.t 11)⟩,
      ⟨some 97, none, .idxS 2 (.t 95) (.t 96)⟩,
      ⟨some 98, none, .load true 2 (.t 97)⟩,
      ⟨some 99, none, .idxS 2 (.t 85) (.t 86)⟩,
      ⟨none, none, .store 2 (.t 99) (.t 94)⟩,
      ⟨some 100, none, .idxS 2 (.t 87) (.t 89)⟩,
      ⟨none, none, .store 2 (.t 100) (.t 98)⟩]
      [[], [], [], [], [3], [], [], [6], [5, 7], [8], [], [], [10, 11], [12], [0, 1, 0, 1, 5, 6, 7, 8, 9, 13], [14, 9, 0, 1, 5, 6, 7, 8, 9, 13], [2, 4, 0, 1, 2, 3, 4, 5, 6, 7, 8, 9, 10, 11, 12, 13, 14, 15], [16, 13, 15, 0, 1, 2, 3, 4, 5, 6, 7, 8, 9, 10, 11, 12, 13, 14, 15]]
      [(0, []), (1, []), (2, []), (3, []), (4, []), (5, []), (6, []), (7, []), (8, []), (10, []), (11, []), (12, []), (9, []), (13, []), (14, []), (15, []), (16, []), (17, [])]
      [[], [], [], [], [3], [], [], [6], [5, 6, 7], [5, 6, 7, 8], [], [], [10, 11], [10, 11, 12], [0, 1, 5, 6, 7, 8, 9, 10, 11, 12, 13], [0, 1, 5, 6, 7, 8, 9, 10, 11, 12, 13, 14], [0, 1, 2, 3, 4, 5, 6, 7, 8, 9, 10, 11, 12, 13, 14, 15], [0, 1, 2, 3, 4, 5, 6, 7, 8, 9, 10, 11, 12, 13, 14, 15, 16]]
      [0, 1, 2, 3, 9, 10, 11])) [0, 1, 2, 3, 9, 10, 11])
  (.region [⟨some 70, none, .mov (.t 11)⟩,
    ⟨some 71, none, .bin .sub (.t 70) (.c (.int .i64 1))⟩,
    ⟨some 11, none, .mov (.t 71)⟩]
    [0, 1, 2, 3, 9, 10, 11])))
def RB.slices_partialInsertionSortCmpFunc_spans_Span_3 : RCode :=
  (.seq (.seq (.drawn [⟨some 19, none, .mov (.t 9)⟩,
    ⟨some 20, none, .mov (.t 2)⟩,
    ⟨some 21, none, .bin .lss (.t 19) (.t 20)⟩,
    ⟨some 22, none, .mov (.t 21)⟩,
    ⟨some 23, some (22, true), .mov (.t 3)⟩,
    ⟨some 24, some (22, true), .mov (.t 0)⟩,
    ⟨some 25, some (22, true), .mov (.t 9)⟩,
    ⟨some 26, some (22, true), .idxS 2 (.t 24) (.t 25)⟩,
    ⟨some 27, some (22, true), .load true 2 (.t 26)⟩,
    ⟨some 28, some (22, true), .mov (.t 0)⟩,
    ⟨some 29, some (22, true), .mov (.t 9)⟩,
    ⟨some 30, some (22, true), .bin .sub (.t 29) (.c (.int .i64 1))⟩,
    ⟨some 31, some (22, true), .idxS 2 (.t 28) (.t 30)⟩,
    ⟨some 32, some (22, true), .load true 2 (.t 31)⟩,
    ⟨some 33, some (22, true), .callv (.t 23) [.t 27, .t 32]⟩,
    ⟨some 34, some (22, true), .bin .lss (.t 33) (.c (.int .i64 0))⟩,
    ⟨some 35, some (22, true), .un .not (.t 34)⟩,
    ⟨some 36, none, .pick (.t 22) (.t 35) (.c (.bool false))⟩]
    [[], [], [0, 1], [2], [3], [3], [3], [5, 6, 3], [7, 3], [3], [3], [10, 3], [9, 11, 3], [12, 3], [4, 8, 13, 3, 3], [14, 3], [15, 3], [3, 16]]
    [(0, []), (1, []), (2, []), (3, []), (4, []), (5, []), (6, []), (7, []), (9, []), (10, []), (11, []), (12, []), (8, []), (13, []), (14, []), (15, []), (16, []), (17, [])]
    [[], [], [0, 1], [0, 1, 2], [0, 1, 2, 3], [0, 1, 2, 3], [0, 1, 2, 3], [0, 1, 2, 3, 5, 6], [0, 1, 2, 3, 5, 6, 7], [0, 1, 2, 3], [0, 1, 2, 3], [0, 1, 2, 3, 10], [0, 1, 2, 3, 9, 10, 11], [0, 1, 2, 3, 9, 10, 11, 12], [0, 1, 2, 3, 4, 5, 6, 7, 8, 9, 10, 11, 12, 13], [0, 1, 2, 3, 4, 5, 6, 7, 8, 9, 10, 11, 12, 13, 14], [0, 1, 2, 3, 4, 5, 6, 7, 8, 9, 10, 11, 12, 13, 14, 15], [0, 1, 2, 3, 4, 5, 6, 7, 8, 9, 10, 11, 12, 13, 14, 15, 16]]
    [0, 1, 2, 3, 9, 10, 36])
  (.cond (.t 36)
    .skip
    (.exit 2)))
  (.block 3
    (.region [⟨some 37, none, .mov (.t 9)⟩,
      ⟨some 38, none, .bin .add (.t 37) (.c (.int .i64 1))⟩,
      ⟨some 9, none, .mov (.t 38)⟩]
      [0, 1, 2, 3, 9, 10]) [0, 1, 2, 3, 9, 10]))
def RB.slices_partialInsertionSortCmpFunc_spans_Span_4 : RCode :=
  (.seq (.seq (.region [⟨some 15, none, .mov (.t 10)⟩,
    ⟨some 16, none, .bin .lss (.t 15) (.c (.int .i64 5))⟩]
    [0, 1, 2, 3, 9, 10, 16])
  (.cond (.t 16)
    .skip
    (.exit 0)))
  (.seq (.block 1
    (.seq (.block 2
      (.loop [0, 1, 2, 3, 9, 10] RB.slices_partialInsertionSortCmpFunc_spans_Span_3) [0, 1, 2, 3, 9, 10])
    (.seq (.seq (.region [⟨some 39, none, .mov (.t 9)⟩,
      ⟨some 40, none, .mov (.t 2)⟩,
      ⟨some 41, none, .bin .eql (.t 39) (.t 40)⟩]
      [0, 1, 2, 3, 9, 10, 41])
    (.cond (.t 41)
      (.seq (.region [⟨some 8, none, .mov (.c (.bool true))⟩]
        [8])
      .ret)
      .skip))
    (.seq (.seq (.region [⟨some 42, none, .mov (.t 2)⟩,
      ⟨some 43, none, .mov (.t 1)⟩,
      ⟨some 44, none, .bin .sub (.t 42) (.t 43)⟩,
      ⟨some 45, none, .bin .lss (.t 44) (.c (.int .i64 50))⟩]
      [0, 1, 2, 3, 9, 10, 45])
    (.cond (.t 45)
      (.seq (.region [⟨some 8, none, .mov (.c (.bool false))⟩]
        [8])
      .ret)
      .skip))
    (.seq (.drawn [⟨some 46, none, .mov (.t 0)⟩,
      ⟨some 47, none, .mov (.t 9)⟩,
      ⟨some 48, none, .mov (.t 0)⟩,
      ⟨some 49, none, .mov (.t 9)⟩,
      ⟨some 50, none, .bin .sub (.t 49) (.c (.int .i64 1))⟩,
      ⟨some 51, none, .mov (.t 0)⟩,
      ⟨some 52, none, .mov (.t 9)⟩,
      ⟨some 53, none, .bin .sub (.t 52) (.c (.int .i64 1))⟩,
      ⟨some 54, none, .idxS 2 (.t 51) (.t 53)⟩,
      ⟨some 55, none, .load true 2 (.t 54)⟩,
      ⟨some 56, none, .mov (.t 0)⟩,
      ⟨some 57, none, .mov (.t 9)⟩,
      ⟨some 58, none, .idxS 2 (.t 56) (.t 57)⟩,
      ⟨some 59, none, .load true 2 (.t 58)⟩,
      ⟨some 60, none, .idxS 2 (.t 46) (.t 47)⟩,
      ⟨none, none, .store 2 (.t 60) (.t 55)⟩,
      ⟨some 61, none, .idxS 2 (.t 48) (.t 50)⟩,
      ⟨none, none, .store 2 (.t 61) (.t 59)⟩]
      [[], [], [], [], [3], [], [], [6], [5, 7], [8], [], [], [10, 11], [12], [0, 1, 0, 1, 5, 6, 7, 8, 9, 13], [14, 9, 0, 1, 5, 6, 7, 8, 9, 13], [2, 4, 0, 1, 2, 3, 4, 5, 6, 7, 8, 9, 10, 11, 12, 13, 14, 15], [16, 13, 15, 0, 1, 2, 3, 4, 5, 6, 7, 8, 9, 10, 11, 12, 13, 14, 15]]
      [(0, []), (1, []), (2, []), (3, []), (4, []), (5, []), (6, []), (7, []), (8, []), (10, []), (11, []), (12, []), (9, []), (13, []), (14, []), (15, []), (16, []), (17, [])]
      [[], [], [], [], [3], [], [], [6], [5, 6, 7], [5, 6, 7, 8], [], [], [10, 11], [10, 11, 12], [0, 1, 5, 6, 7, 8, 9, 10, 11, 12, 13], [0, 1, 5, 6, 7, 8, 9, 10, 11, 12, 13, 14], [0, 1, 2, 3, 4, 5, 6, 7, 8, 9, 10, 11, 12, 13, 14, 15], [0, 1, 2, 3, 4, 5, 6, 7, 8, 9, 10, 11, 12, 13, 14, 15, 16]]
      [0, 1, 2, 3, 9, 10])
    (.seq (.seq (.region [⟨some 62, none, .mov (.t 9)⟩,
      ⟨some 63, none, .mov (.t 1)⟩,
      ⟨some 64, none, .bin .sub (.t 62) (.t 63)⟩,
      ⟨some 65, none, .bin .geq (.t 64) (.c (.int .i64 2))⟩]
      [0, 1, 2, 3, 9, 10, 65])
    (.cond (.t 65)
      (.seq (.region [⟨some 66, none, .mov (.t 9)⟩,
        ⟨some 67, none, .bin .sub (.t 66) (.c (.int .i64 1))⟩,
        ⟨some 11, none, .mov (.t 67)⟩]
        [0, 1, 2, 3, 9, 10, 11])
      (.block 4
        (.loop [0, 1, 2, 3, 9, 10, 11] RB.slices_partialInsertionSortCmpFunc_spans_Span_2) [0, 1, 2, 3, 9, 10]))
      .skip))
    (.seq (.region [⟨some 101, none, .mov (.t 2)⟩,
      ⟨some 102, none, .mov (.t 9)⟩,
      ⟨some 103, none, .bin .sub (.t 101) (.t 102)⟩,
      ⟨some 104, none, .bin .geq (.t 103) (.c (.int .i64 2))⟩]
      [0, 1, 2, 3, 9, 10, 104])
    (.cond (.t 104)
      (.seq (.region [⟨some 105, none, .mov (.t 9)⟩,
        ⟨some 106, none, .bin .add (.t 105) (.c (.int .i64 1))⟩,
        ⟨some 12, none, .mov (.t 106)⟩]
        [0, 1, 2, 3, 9, 10, 12])
      (.block 6
        (.loop [0, 1, 2, 3, 9, 10, 12] RB.slices_partialInsertionSortCmpFunc_spans_Span_1) [0, 1, 2, 3, 9, 10]))
      .skip))))))) [0, 1, 2, 3, 9, 10])
  (.region [⟨some 17, none, .mov (.t 10)⟩,
    ⟨some 18, none, .bin .add (.t 17) (.c (.int .i64 1))⟩,
    ⟨some 10, none, .mov (.t 18)⟩]
    [0, 1, 2, 3, 9, 10])))
def RC.slices_partialInsertionSortCmpFunc_spans_Span : RFn := ⟨4, [.slot 8],
  (.seq (.region [⟨some 8, none, .mov (.c (.bool false))⟩]
    [0, 1, 2, 3])
  (.seq (.region [⟨some 13, none, .mov (.t 1)⟩,
    ⟨some 14, none, .bin .add (.t 13) (.c (.int .i64 1))⟩,
    ⟨some 9, none, .mov (.t 14)⟩]
    [0, 1, 2, 3, 9])
  (.seq (.seq (.region [⟨some 10, none, .mov (.c (.int .i64 0))⟩]
    [0, 1, 2, 3, 9, 10])
  (.block 0
    (.loop [0, 1, 2, 3, 9, 10] RB.slices_partialInsertionSortCmpFunc_spans_Span_4) []))
  (.seq (.region [⟨some 8, none, .mov (.c (.bool false))⟩]
    [8])
  .ret))))⟩

def RB.slices_partitionEqualCmpFunc_spans_Span_1 : RCode :=
  (.seq (.seq (.drawn [⟨some 50, none, .mov (.t 11)⟩,
    ⟨some 51, none, .mov (.t 12)⟩,
    ⟨some 52, none, .bin .leq (.t 50) (.t 51)⟩,
    ⟨some 53, none, .mov (.t 52)⟩,
    ⟨some 54, some (53, true), .mov (.t 4)⟩,
    ⟨some 55, some (53, true), .mov (.t 0)⟩,
    ⟨some 56, some (53, true), .mov (.t 1)⟩,
    ⟨some 57, some (53, true), .idxS 2 (.t 55) (.t 56)⟩,
    ⟨some 58, some (53, true), .load true 2 (.t 57)⟩,
    ⟨some 59, some (53, true), .mov (.t 0)⟩,
    ⟨some 60, some (53, true), .mov (.t 12)⟩,
    ⟨some 61, some (53, true), .idxS 2 (.t 59) (.t 60)⟩,
    ⟨some 62, some (53, true), .load true 2 (.t 61)⟩,
    ⟨some 63, some (53, true), .callv (.t 54) [.t 58, .t 62]⟩,
    ⟨some 64, some (53, true), .bin .lss (.t 63) (.c (.int .i64 0))⟩,
    ⟨some 65, none, .pick (.t 53) (.t 64) (.c (.bool false))⟩]
    [[], [], [0, 1], [2], [3], [3], [3], [5, 6, 3], [7, 3], [3], [3], [9, 10, 3], [11, 3], [4, 8, 12, 3, 3], [13, 3], [3, 14]]
    [(0, []), (1, []), (2, []), (3, []), (4, []), (5, []), (6, []), (7, []), (9, []), (10, []), (11, []), (8, []), (12, []), (13, []), (14, []), (15, [])]
    [[], [], [0, 1], [0, 1, 2], [0, 1, 2, 3], [0, 1, 2, 3], [0, 1, 2, 3], [0, 1, 2, 3, 5, 6], [0, 1, 2, 3, 5, 6, 7], [0, 1, 2, 3], [0, 1, 2, 3], [0, 1, 2, 3, 9, 10], [0, 1, 2, 3, 9, 10, 11], [0, 1, 2, 3, 4, 5, 6, 7, 8, 9, 10, 11, 12], [0, 1, 2, 3, 4, 5, 6, 7, 8, 9, 10, 11, 12, 13], [0, 1, 2, 3, 4, 5, 6, 7, 8, 9, 10, 11, 12, 13, 14]]
    [0, 1, 4, 11, 12, 65])
  (.cond (.t 65)
    .skip
    (.exit 4)))
  (.block 5
    (.region [⟨some 66, none, .mov (.t 12)⟩,
      ⟨some 67, none, .bin .sub (.t 66) (.c (.int .i64 1))⟩,
      ⟨some 12, none, .mov (.t 67)⟩]
      [0, 1, 4, 11, 12]) [0, 1, 4, 11, 12]))
def RB.slices_partitionEqualCmpFunc_spans_Span_2 : RCode :=
  (.seq (.seq (.drawn [⟨some 31, none, .mov (.t 11)⟩,
    ⟨some 32, none, .mov (.t 12)⟩,
    ⟨some 33, none, .bin .leq (.t 31) (.t 32)⟩,
    ⟨some 34, none, .mov (.t 33)⟩,
    ⟨some 35, some (34, true), .mov (.t 4)⟩,
    ⟨some 36, some (34, true), .mov (.t 0)⟩,
    ⟨some 37, some (34, true), .mov (.t 1)⟩,
    ⟨some 38, some (34, true), .idxS 2 (.t 36) (.t 37)⟩,
    ⟨some 39, some (34, true), .load true 2 (.t 38)⟩,
    ⟨some 40, some (34, true), .mov (.t 0)⟩,
    ⟨some 41, some (34, true), .mov (.t 11)⟩,
    ⟨some 42, some (34, true), .idxS 2 (.t 40) (.t 41)⟩,
    ⟨some 43, some (34, true), .load true 2 (.t 42)⟩,
    ⟨some 44, some (34, true), .callv (.t 35) [.t 39, .t 43]⟩,
    ⟨some 45, some (34, true), .bin .lss (.t 44) (.c (.int .i64 0))⟩,
    ⟨some 46, some (34, true), .un .not (.t 45)⟩,
    ⟨some 47, none, .pick (.t 34) (.t 46) (.c (.bool false))⟩]
    [[], [], [0, 1], [2], [3], [3], [3], [5, 6, 3], [7, 3], [3], [3], [9, 10, 3], [11, 3], [4, 8, 12, 3, 3], [13, 3], [14, 3], [3, 15]]
    [(0, []), (1, []), (2, []), (3, []), (4, []), (5, []), (6, []), (7, []), (9, []), (10, []), (11, []), (8, []), (12, []), (13, []), (14, []), (15, []), (16, [])]
    [[], [], [0, 1], [0, 1, 2], [0, 1, 2, 3], [0, 1, 2, 3], [0, 1, 2, 3], [0, 1, 2, 3, 5, 6], [0, 1, 2, 3, 5, 6, 7], [0, 1, 2, 3], [0, 1, 2, 3], [0, 1, 2, 3, 9, 10], [0, 1, 2, 3, 9, 10, 11], [0, 1, 2, 3, 4, 5, 6, 7, 8, 9, 10, 11, 12], [0, 1, 2, 3, 4, 5, 6, 7, 8, 9, 10, 11, 12, 13], [0, 1, 2, 3, 4, 5, 6, 7, 8, 9, 10, 11, 12, 13, 14], [0, 1, 2, 3, 4, 5, 6, 7, 8, 9, 10, 11, 12, 13, 14, 15]]
    [0, 1, 4, 11, 12, 47])
  (.cond (.t 47)
    .skip
    (.exit 2)))
  (.block 3
    (.region [⟨some 48, none, .mov (.t 11)⟩,
      ⟨some 49, none, .bin .add (.t 48) (.c (.int .i64 1))⟩,
      ⟨some 11, none, .mov (.t 49)⟩]
      [0, 1, 4, 11, 12]) [0, 1, 4, 11, 12]))
def RB.slices_partitionEqualCmpFunc_spans_Span_3 : RCode :=
  (.block 1
    (.seq (.block 2
      (.loop [0, 1, 4, 11, 12] RB.slices_partitionEqualCmpFunc_spans_Span_2) [0, 1, 4, 11, 12])
    (.seq (.block 4
      (.loop [0, 1, 4, 11, 12] RB.slices_partitionEqualCmpFunc_spans_Span_1) [0, 1, 4, 11, 12])
    (.seq (.seq (.region [⟨some 68, none, .mov (.t 11)⟩,
      ⟨some 69, none, .mov (.t 12)⟩,
      ⟨some 70, none, .bin .gtr (.t 68) (.t 69)⟩]
      [0, 1, 4, 11, 12, 70])
    (.cond (.t 70)
      (.exit 0)
      .skip))
    (.seq (.drawn [⟨some 71, none, .mov (.t 0)⟩,
      ⟨some 72, none, .mov (.t 11)⟩,
      ⟨some 73, none, .mov (.t 0)⟩,
      ⟨some 74, none, .mov (.t 12)⟩,
      ⟨some 75, none, .mov (.t 0)⟩,
      ⟨some 76, none, .mov (.t 12)⟩,
      ⟨some 77, none, .idxS 2 (.t 75) (.t 76)⟩,
      ⟨some 78, none, .load true 2 (.t 77)⟩,
      ⟨some 79, none, .mov (.t 0)⟩,
      ⟨some 80, none, .mov (.t 11)⟩,
      ⟨some 81, none, .idxS 2 (.t 79) (.t 80)⟩,
      ⟨some 82, none, .load true 2 (.t 81)⟩,
      ⟨some 83, none, .idxS 2 (.t 71) (.t 72)⟩,
      ⟨none, none, .store 2 (.t 83) (.t 78)⟩,
      ⟨some 84, none, .idxS 2 (.t 73) (.t 74)⟩,
      ⟨none, none, .store 2 (.t 84) (.t 82)⟩]
      [[], [], [], [], [], [], [4, 5], [6], [], [], [8, 9], [10], [0, 1, 0, 1, 4, 5, 6, 7, 11], [12, 7, 0, 1, 4, 5, 6, 7, 11], [2, 3, 0, 1, 2, 3, 4, 5, 6, 7, 8, 9, 10, 11, 12, 13], [14, 11, 13, 0, 1, 2, 3, 4, 5, 6, 7, 8, 9, 10, 11, 12, 13]]
      [(0, []), (1, []), (2, []), (3, []), (4, []), (5, []), (6, []), (8, []), (9, []), (10, []), (7, []), (11, []), (12, []), (13, []), (14, []), (15, [])]
      [[], [], [], [], [], [], [4, 5], [4, 5, 6], [], [], [8, 9], [8, 9, 10], [0, 1, 4, 5, 6, 7, 8, 9, 10, 11], [0, 1, 4, 5, 6, 7, 8, 9, 10, 11, 12], [0, 1, 2, 3, 4, 5, 6, 7, 8, 9, 10, 11, 12, 13], [0, 1, 2, 3, 4, 5, 6, 7, 8, 9, 10, 11, 12, 13, 14]]
      [0, 1, 4, 11, 12])
    (.seq (.region [⟨some 85, none, .mov (.t 11)⟩,
      ⟨some 86, none, .bin .add (.t 85) (.c (.int .i64 1))⟩,
      ⟨some 11, none, .mov (.t 86)⟩]
      [0, 1, 4, 11, 12])
    (.region [⟨some 87, none, .mov (.t 12)⟩,
      ⟨some 88, none, .bin .sub (.t 87) (.c (.int .i64 1))⟩,
      ⟨some 12, none, .mov (.t 88)⟩]
      [0, 1, 4, 11, 12])))))) [0, 1, 4, 11, 12])
def RC.slices_partitionEqualCmpFunc_spans_Span : RFn := ⟨5, [.slot 10],
  (.seq (.region [⟨some 10, none, .mov (.c (.int .i64 0))⟩]
    [0, 1, 2, 3, 4])
  (.seq (.drawn [⟨some 13, none, .mov (.t 0)⟩,
    ⟨some 14, none, .mov (.t 1)⟩,
    ⟨some 15, none, .mov (.t 0)⟩,
    ⟨some 16, none, .mov (.t 3)⟩,
    ⟨some 17, none, .mov (.t 0)⟩,
    ⟨some 18, none, .mov (.t 3)⟩,
    ⟨some 19, none, .idxS 2 (.t 17) (.t 18)⟩,
    ⟨some 20, none, .load true 2 (.t 19)⟩,
    ⟨some 21, none, .mov (.t 0)⟩,
    ⟨some 22, none, .mov (.t 1)⟩,
    ⟨some 23, none, .idxS 2 (.t 21) (.t 22)⟩,
    ⟨some 24, none, .load true 2 (.t 23)⟩,
    ⟨some 25, none, .idxS 2 (.t 13) (.t 14)⟩,
    ⟨none, none, .store 2 (.t 25) (.t 20)⟩,
    ⟨some 26, none, .idxS 2 (.t 15) (.t 16)⟩,
    ⟨none, none, .store 2 (.t 26) (.t 24)⟩]
    [[], [], [], [], [], [], [4, 5], [6], [], [], [8, 9], [10], [0, 1, 0, 1, 4, 5, 6, 7, 11], [12, 7, 0, 1, 4, 5, 6, 7, 11], [2, 3, 0, 1, 2, 3, 4, 5, 6, 7, 8, 9, 10, 11, 12, 13], [14, 11, 13, 0, 1, 2, 3, 4, 5, 6, 7, 8, 9, 10, 11, 12, 13]]
    [(0, []), (1, []), (2, []), (3, []), (4, []), (5, []), (6, []), (8, []), (9, []), (10, []), (7, []), (11, []), (12, []), (13, []), (14, []), (15, [])]
    [[], [], [], [], [], [], [4, 5], [4, 5, 6], [], [], [8, 9], [8, 9, 10], [0, 1, 4, 5, 6, 7, 8, 9, 10, 11], [0, 1, 4, 5, 6, 7, 8, 9, 10, 11, 12], [0, 1, 2, 3, 4, 5, 6, 7, 8, 9, 10, 11, 12, 13], [0, 1, 2, 3, 4, 5, 6, 7, 8, 9, 10, 11, 12, 13, 14]]
    [0, 1, 2, 4])
  (.seq (.region [⟨some 27, none, .mov (.t 1)⟩,
    ⟨some 28, none, .bin .add (.t 27) (.c (.int .i64 1))⟩,
    ⟨some 29, none, .mov (.t 2)⟩,
    ⟨some 30, none, .bin .sub (.t 29) (.c (.int .i64 1))⟩,
    ⟨some 11, none, .mov (.t 28)⟩,
    ⟨some 12, none, .mov (.t 30)⟩]
    [0, 1, 4, 11, 12])
  (.seq (.block 0
    (.loop [0, 1, 4, 11, 12] RB.slices_partitionEqualCmpFunc_spans_Span_3) [11])
  (.seq (.region [⟨some 89, none, .mov (.t 11)⟩,
    ⟨some 10, none, .mov (.t 89)⟩]
    [10])
  .ret)))))⟩

def RB.slices_partitionCmpFunc_spans_Span_1 : RCode :=
  (.seq (.seq (.drawn [⟨some 123, none, .mov (.t 12)⟩,
    ⟨some 124, none, .mov (.t 13)⟩,
    ⟨some 125, none, .bin .leq (.t 123) (.t 124)⟩,
    ⟨some 126, none, .mov (.t 125)⟩,
    ⟨some 127, some (126, true), .mov (.t 4)⟩,
    ⟨some 128, some (126, true), .mov (.t 0)⟩,
    ⟨some 129, some (126, true), .mov (.t 13)⟩,
    ⟨some 130, some (126, true), .idxS 2 (.t 128) (.t 129)⟩,
    ⟨some 131, some (126, true), .load true 2 (.t 130)⟩,
    ⟨some 132, some (126, true), .mov (.t 0)⟩,
    ⟨some 133, some (126, true), .mov (.t 1)⟩,
    ⟨some 134, some (126, true), .idxS 2 (.t 132) (.t 133)⟩,
    ⟨some 135, some (126, true), .load true 2 (.t 134)⟩,
    ⟨some 136, some (126, true), .callv (.t 127) [.t 131, .t 135]⟩,
    ⟨some 137, some (126, true), .bin .lss (.t 136) (.c (.int .i64 0))⟩,
    ⟨some 138, some (126, true), .un .not (.t 137)⟩,
    ⟨some 139, none, .pick (.t 126) (.t 138) (.c (.bool false))⟩]
    [[], [], [0, 1], [2], [3], [3], [3], [5, 6, 3], [7, 3], [3], [3], [9, 10, 3], [11, 3], [4, 8, 12, 3, 3], [13, 3], [14, 3], [3, 15]]
    [(0, []), (1, []), (2, []), (3, []), (4, []), (5, []), (6, []), (7, []), (9, []), (10, []), (11, []), (8, []), (12, []), (13, []), (14, []), (15, []), (16, [])]
    [[], [], [0, 1], [0, 1, 2], [0, 1, 2, 3], [0, 1, 2, 3], [0, 1, 2, 3], [0, 1, 2, 3, 5, 6], [0, 1, 2, 3, 5, 6, 7], [0, 1, 2, 3], [0, 1, 2, 3], [0, 1, 2, 3, 9, 10], [0, 1, 2, 3, 9, 10, 11], [0, 1, 2, 3, 4, 5, 6, 7, 8, 9, 10, 11, 12], [0, 1, 2, 3, 4, 5, 6, 7, 8, 9, 10, 11, 12, 13], [0, 1, 2, 3, 4, 5, 6, 7, 8, 9, 10, 11, 12, 13, 14], [0, 1, 2, 3, 4, 5, 6, 7, 8, 9, 10, 11, 12, 13, 14, 15]]
    [0, 1, 4, 12, 13, 139])
  (.cond (.t 139)
    .skip
    (.exit 8)))
  (.block 9
    (.region [⟨some 140, none, .mov (.t 13)⟩,
      ⟨some 141, none, .bin .sub (.t 140) (.c (.int .i64 1))⟩,
      ⟨some 13, none, .mov (.t 141)⟩]
      [0, 1, 4, 12, 13]) [0, 1, 4, 12, 13]))
def RB.slices_partitionCmpFunc_spans_Span_2 : RCode :=
  (.seq (.seq (.drawn [⟨some 105, none, .mov (.t 12)⟩,
    ⟨some 106, none, .mov (.t 13)⟩,
    ⟨some 107, none, .bin .leq (.t 105) (.t 106)⟩,
    ⟨some 108, none, .mov (.t 107)⟩,
    ⟨some 109, some (108, true), .mov (.t 4)⟩,
    ⟨some 110, some (108, true), .mov (.t 0)⟩,
    ⟨some 111, some (108, true), .mov (.t 12)⟩,
    ⟨some 112, some (108, true), .idxS 2 (.t 110) (.t 111)⟩,
    ⟨some 113, some (108, true), .load true 2 (.t 112)⟩,
    ⟨some 114, some (108, true), .mov (.t 0)⟩,
    ⟨some 115, some (108, true), .mov (.t 1)⟩,
    ⟨some 116, some (108, true), .idxS 2 (.t 114) (.t 115)⟩,
    ⟨some 117, some (108, true), .load true 2 (.t 116)⟩,
    ⟨some 118, some (108, true), .callv (.t 109) [.t 113, .t 117]⟩,
    ⟨some 119, some (108, true), .bin .lss (.t 118) (.c (.int .i64 0))⟩,
    ⟨some 120, none, .pick (.t 108) (.t 119) (.c (.bool false))⟩]
    [[], [], [0, 1], [2], [3], [3], [3], [5, 6, 3], [7, 3], [3], [3], [9, 10, 3], [11, 3], [4, 8, 12, 3, 3], [13, 3], [3, 14]]
    [(0, []), (1, []), (2, []), (3, []), (4, []), (5, []), (6, []), (7, []), (9, []), (10, []), (11, []), (8, []), (12, []), (13, []), (14, []), (15, [])]
    [[], [], [0, 1], [0, 1, 2], [0, 1, 2, 3], [0, 1, 2, 3], [0, 1, 2, 3], [0, 1, 2, 3, 5, 6], [0, 1, 2, 3, 5, 6, 7], [0, 1, 2, 3], [0, 1, 2, 3], [0, 1, 2, 3, 9, 10], [0, 1, 2, 3, 9, 10, 11], [0, 1, 2, 3, 4, 5, 6, 7, 8, 9, 10, 11, 12], [0, 1, 2, 3, 4, 5, 6, 7, 8, 9, 10, 11, 12, 13], [0, 1, 2, 3, 4, 5, 6, 7, 8, 9, 10, 11, 12, 13, 14]]
    [0, 1, 4, 12, 13, 120])
  (.cond (.t 120)
    .skip
    (.exit 6)))
  (.block 7
    (.region [⟨some 121, none, .mov (.t 12)⟩,
      ⟨some 122, none, .bin .add (.t 121) (.c (.int .i64 1))⟩,
      ⟨some 12, none, .mov (.t 122)⟩]
      [0, 1, 4, 12, 13]) [0, 1, 4, 12, 13]))
def RB.slices_partitionCmpFunc_spans_Span_3 : RCode :=
  (.block 5
    (.seq (.block 6
      (.loop [0, 1, 4, 12, 13] RB.slices_partitionCmpFunc_spans_Span_2) [0, 1, 4, 12, 13])
    (.seq (.block 8
      (.loop [0, 1, 4, 12, 13] RB.slices_partitionCmpFunc_spans_Span_1) [0, 1, 4, 12, 13])
    (.seq (.seq (.region [⟨some 142, none, .mov (.t 12)⟩,
      ⟨some 143, none, .mov (.t 13)⟩,
      ⟨some 144, none, .bin .gtr (.t 142) (.t 143)⟩]
      [0, 1, 4, 12, 13, 144])
    (.cond (.t 144)
      (.exit 4)
      .skip))
    (.seq (.drawn [⟨some 145, none, .mov (.t 0)⟩,
      ⟨some 146, none, .mov (.t 12)⟩,
      ⟨some 147, none, .mov (.t 0)⟩,
      ⟨some 148, none, .mov (.t 13)⟩,
      ⟨some 149, none, .mov (.t 0)⟩,
      ⟨some 150, none, .mov (.t 13)⟩,
      ⟨some 151, none, .idxS 2 (.t 149) (.t 150)⟩,
      ⟨some 152, none, .load true 2 (.t 151)⟩,
      ⟨some 153, none, .mov (.t 0)⟩,
      ⟨some 154, none, .mov (.t 12)⟩,
      ⟨some 155, none, .idxS 2 (.t 153) (.t 154)⟩,
      ⟨some 156, none, .load true 2 (.t 155)⟩,
      ⟨some 157, none, .idxS 2 (.t 145) (.t 146)⟩,
      ⟨none, none, .store 2 (.t 157) (.t 152)⟩,
      ⟨some 158, none, .idxS 2 (.t 147) (.t 148)⟩,
      ⟨none, none, .store 2 (.t 158) (.t 156)⟩]
      [[], [], [], [], [], [], [4, 5], [6], [], [], [8, 9], [10], [0, 1, 0, 1, 4, 5, 6, 7, 11], [12, 7, 0, 1, 4, 5, 6, 7, 11], [2, 3, 0, 1, 2, 3, 4, 5, 6, 7, 8, 9, 10, 11, 12, 13], [14, 11, 13, 0, 1, 2, 3, 4, 5, 6, 7, 8, 9, 10, 11, 12, 13]]
      [(0, []), (1, []), (2, []), (3, []), (4, []), (5, []), (6, []), (8, []), (9, []), (10, []), (7, []), (11, []), (12, []), (13, []), (14, []), (15, [])]
      [[], [], [], [], [], [], [4, 5], [4, 5, 6], [], [], [8, 9], [8, 9, 10], [0, 1, 4, 5, 6, 7, 8, 9, 10, 11], [0, 1, 4, 5, 6, 7, 8, 9, 10, 11, 12], [0, 1, 2, 3, 4, 5, 6, 7, 8, 9, 10, 11, 12, 13], [0, 1, 2, 3, 4, 5, 6, 7, 8, 9, 10, 11, 12, 13, 14]]
      [0, 1, 4, 12, 13])
    (.seq (.region [⟨some 159, none, .mov (.t 12)⟩,
      ⟨some 160, none, .bin .add (.t 159) (.c (.int .i64 1))⟩,
      ⟨some 12, none, .mov (.t 160)⟩]
      [0, 1, 4, 12, 13])
    (.region [⟨some 161, none, .mov (.t 13)⟩,
      ⟨some 162, none, .bin .sub (.t 161) (.c (.int .i64 1))⟩,
      ⟨some 13, none, .mov (.t 162)⟩]
      [0, 1, 4, 12, 13])))))) [0, 1, 4, 12, 13])
def RB.slices_partitionCmpFunc_spans_Span_4 : RCode :=
  (.seq (.seq (.drawn [⟨some 50, none, .mov (.t 12)⟩,
    ⟨some 51, none, .mov (.t 13)⟩,
    ⟨some 52, none, .bin .leq (.t 50) (.t 51)⟩,
    ⟨some 53, none, .mov (.t 52)⟩,
    ⟨some 54, some (53, true), .mov (.t 4)⟩,
    ⟨some 55, some (53, true), .mov (.t 0)⟩,
    ⟨some 56, some (53, true), .mov (.t 13)⟩,
    ⟨some 57, some (53, true), .idxS 2 (.t 55) (.t 56)⟩,
    ⟨some 58, some (53, true), .load true 2 (.t 57)⟩,
    ⟨some 59, some (53, true), .mov (.t 0)⟩,
    ⟨some 60, some (53, true), .mov (.t 1)⟩,
    ⟨some 61, some (53, true), .idxS 2 (.t 59) (.t 60)⟩,
    ⟨some 62, some (53, true), .load true 2 (.t 61)⟩,
    ⟨some 63, some (53, true), .callv (.t 54) [.t 58, .t 62]⟩,
    ⟨some 64, some (53, true), .bin .lss (.t 63) (.c (.int .i64 0))⟩,
    ⟨some 65, some (53, true), .un .not (.t 64)⟩,
    ⟨some 66, none, .pick (.t 53) (.t 65) (.c (.bool false))⟩]
    [[], [], [0, 1], [2], [3], [3], [3], [5, 6, 3], [7, 3], [3], [3], [9, 10, 3], [11, 3], [4, 8, 12, 3, 3], [13, 3], [14, 3], [3, 15]]
    [(0, []), (1, []), (2, []), (3, []), (4, []), (5, []), (6, []), (7, []), (9, []), (10, []), (11, []), (8, []), (12, []), (13, []), (14, []), (15, []), (16, [])]
    [[], [], [0, 1], [0, 1, 2], [0, 1, 2, 3], [0, 1, 2, 3], [0, 1, 2, 3], [0, 1, 2, 3, 5, 6], [0, 1, 2, 3, 5, 6, 7], [0, 1, 2, 3], [0, 1, 2, 3], [0, 1, 2, 3, 9, 10], [0, 1, 2, 3, 9, 10, 11], [0, 1, 2, 3, 4, 5, 6, 7, 8, 9, 10, 11, 12], [0, 1, 2, 3, 4, 5, 6, 7, 8, 9, 10, 11, 12, 13], [0, 1, 2, 3, 4, 5, 6, 7, 8, 9, 10, 11, 12, 13, 14], [0, 1, 2, 3, 4, 5, 6, 7, 8, 9, 10, 11, 12, 13, 14, 15]]
    [0, 1, 4, 12, 13, 66])
  (.cond (.t 66)
    .skip
    (.exit 2)))
  (.block 3
    (.region [⟨some 67, none, .mov (.t 13)⟩,
      ⟨some 68, none, .bin .sub (.t 67) (.c (.int .i64 1))⟩,
      ⟨some 13, none, .mov (.t 68)⟩]
      [0, 1, 4, 12, 13]) [0, 1, 4, 12, 13]))
def RB.slices_partitionCmpFunc_spans_Span_5 : RCode :=
  (.seq (.seq (.drawn [⟨some 32, none, .mov (.t 12)⟩,
    ⟨some 33, none, .mov (.t 13)⟩,
    ⟨some 34, none, .bin .leq (.t 32) (.t 33)⟩,
    ⟨some 35, none, .mov (.t 34)⟩,
    ⟨some 36, some (35, true), .mov (.t 4)⟩,
    ⟨some 37, some (35, true), .mov (.t 0)⟩,
    ⟨some 38, some (35, true), .mov (.t 12)⟩,
    ⟨some 39, some (35, true), .idxS 2 (.t 37) (.t 38)⟩,
    ⟨some 40, some (35, true), .load true 2 (.t 39)⟩,
    ⟨some 41, some (35, true), .mov (.t 0)⟩,
    ⟨some 42, some (35, true), .mov (.t 1)⟩,
    ⟨some 43, some (35, true), .idxS 2 (.t 41) (.t 42)⟩,
    ⟨some 44, some (35, true), .load true 2 (.t 43)⟩,
    ⟨some 45, some (35, true), .callv (.t 36) [.t 40, .t 44]⟩,
    ⟨some 46, some (35, true), .bin .lss (.t 45) (.c (.int .i64 0))⟩,
    ⟨some 47, none, .pick (.t 35) (.t 46) (.c (.bool false))⟩]
    [[], [], [0, 1], [2], [3], [3], [3], [5, 6, 3], [7, 3], [3], [3], [9, 10, 3], [11, 3], [4, 8, 12, 3, 3], [13, 3], [3, 14]]
    [(0, []), (1, []), (2, []), (3, []), (4, []), (5, []), (6, []), (7, []), (9, []), (10, []), (11, []), (8, []), (12, []), (13, []), (14, []), (15, [])]
    [[], [], [0, 1], [0, 1, 2], [0, 1, 2, 3], [0, 1, 2, 3], [0, 1, 2, 3], [0, 1, 2, 3, 5, 6], [0, 1, 2, 3, 5, 6, 7], [0, 1, 2, 3], [0, 1, 2, 3], [0, 1, 2, 3, 9, 10], [0, 1, 2, 3, 9, 10, 11], [0, 1, 2, 3, 4, 5, 6, 7, 8, 9, 10, 11, 12], [0, 1, 2, 3, 4, 5, 6, 7, 8, 9, 10, 11, 12, 13], [0, 1, 2, 3, 4, 5, 6, 7, 8, 9, 10, 11, 12, 13, 14]]
    [0, 1, 4, 12, 13, 47])
  (.cond (.t 47)
    .skip
    (.exit 0)))
  (.block 1
    (.region [⟨some 48, none, .mov (.t 12)⟩,
      ⟨some 49, none, .bin .add (.t 48) (.c (.int .i64 1))⟩,
      ⟨some 12, none, .mov (.t 49)⟩]
      [0, 1, 4, 12, 13]) [0, 1, 4, 12, 13]))
def RC.slices_partitionCmpFunc_spans_Span : RFn := ⟨5, [.slot 10, .slot 11],
  (.seq (.region [⟨some 10, none, .mov (.c (.int .i64 0))⟩,
    ⟨some 11, none, .mov (.c (.bool false))⟩]
    [0, 1, 2, 3, 4])
  (.seq (.drawn [⟨some 14, none, .mov (.t 0)⟩,
    ⟨some 15, none, .mov (.t 1)⟩,
    ⟨some 16, none, .mov (.t 0)⟩,
    ⟨some 17, none, .mov (.t 3)⟩,
    ⟨some 18, none, .mov (.t 0)⟩,
    ⟨some 19, none, .mov (.t 3)⟩,
    ⟨some 20, none, .idxS 2 (.t 18) (.t 19)⟩,
    ⟨some 21, none, .load true 2 (.t 20)⟩,
    ⟨some 22, none, .mov (.t 0)⟩,
    ⟨some 23, none, .mov (.t 1)⟩,
    ⟨some 24, none, .idxS 2 (.t 22) (.t 23)⟩,
    ⟨some 25, none, .load true 2 (.t 24)⟩,
    ⟨some 26, none, .idxS 2 (.t 14) (.t 15)⟩,
    ⟨none, none, .store 2 (.t 26) (.t 21)⟩,
    ⟨some 27, none, .idxS 2 (.t 16) (.t 17)⟩,
    ⟨none, none, .store 2 (.t 27) (.t 25)⟩]
    [[], [], [], [], [], [], [4, 5], [6], [], [], [8, 9], [10], [0, 1, 0, 1, 4, 5, 6, 7, 11], [12, 7, 0, 1, 4, 5, 6, 7, 11], [2, 3, 0, 1, 2, 3, 4, 5, 6, 7, 8, 9, 10, 11, 12, 13], [14, 11, 13, 0, 1, 2, 3, 4, 5, 6, 7, 8, 9, 10, 11, 12, 13]]
    [(0, []), (1, []), (2, []), (3, []), (4, []), (5, []), (6, []), (8, []), (9, []), (10, []), (7, []), (11, []), (12, []), (13, []), (14, []), (15, [])]
    [[], [], [], [], [], [], [4, 5], [4, 5, 6], [], [], [8, 9], [8, 9, 10], [0, 1, 4, 5, 6, 7, 8, 9, 10, 11], [0, 1, 4, 5, 6, 7, 8, 9, 10, 11, 12], [0, 1, 2, 3, 4, 5, 6, 7, 8, 9, 10, 11, 12, 13], [0, 1, 2, 3, 4, 5, 6, 7, 8, 9, 10, 11, 12, 13, 14]]
    [0, 1, 2, 4])
  (.seq (.region [⟨some 28, none, .mov (.t 1)⟩,
    ⟨some 29, none, .bin .add (.t 28) (.c (.int .i64 1))⟩,
    ⟨some 30, none, .mov (.t 2)⟩,
    ⟨some 31, none, .bin .sub (.t 30) (.c (.int .i64 1))⟩,
    ⟨some 12, none, .mov (.t 29)⟩,
    ⟨some 13, none, .mov (.t 31)⟩]
    [0, 1, 4, 12, 13])
  (.seq (.block 0
    (.loop [0, 1, 4, 12, 13] RB.slices_partitionCmpFunc_spans_Span_5) [0, 1, 4, 12, 13])
  (.seq (.block 2
    (.loop [0, 1, 4, 12, 13] RB.slices_partitionCmpFunc_spans_Span_4) [0, 1, 4, 12, 13])
  (.seq (.seq (.region [⟨some 69, none, .mov (.t 12)⟩,
    ⟨some 70, none, .mov (.t 13)⟩,
    ⟨some 71, none, .bin .gtr (.t 69) (.t 70)⟩]
    [0, 1, 4, 12, 13, 71])
  (.cond (.t 71)
    (.seq (.drawn [⟨some 72, none, .mov (.t 0)⟩,
      ⟨some 73, none, .mov (.t 13)⟩,
      ⟨some 74, none, .mov (.t 0)⟩,
      ⟨some 75, none, .mov (.t 1)⟩,
      ⟨some 76, none, .mov (.t 0)⟩,
      ⟨some 77, none, .mov (.t 1)⟩,
      ⟨some 78, none, .idxS 2 (.t 76) (.t 77)⟩,
      ⟨some 79, none, .load true 2 (.t 78)⟩,
      ⟨some 80, none, .mov (.t 0)⟩,
      ⟨some 81, none, .mov (.t 13)⟩,
      ⟨some 82, none, .idxS 2 (.t 80) (.t 81)⟩,
      ⟨some 83, none, .load true 2 (.t 82)⟩,
      ⟨some 84, none, .idxS 2 (.t 72) (.t 73)⟩,
      ⟨none, none, .store 2 (.t 84) (.t 79)⟩,
      ⟨some 85, none, .idxS 2 (.t 74) (.t 75)⟩,
      ⟨none, none, .store 2 (.t 85) (.t 83)⟩]
      [[], [], [], [], [], [], [4, 5], [6], [], [], [8, 9], [10], [0, 1, 0, 1, 4, 5, 6, 7, 11], [12, 7, 0, 1, 4, 5, 6, 7, 11], [2, 3, 0, 1, 2, 3, 4, 5, 6, 7, 8, 9, 10, 11, 12, 13], [14, 11, 13, 0, 1, 2, 3, 4, 5, 6, 7, 8, 9, 10, 11, 12, 13]]
      [(0, []), (1, []), (2, []), (3, []), (4, []), (5, []), (6, []), (8, []), (9, []), (10, []), (7, []), (11, []), (12, []), (13, []), (14, []), (15, [])]
      [[], [], [], [], [], [], [4, 5], [4, 5, 6], [], [], [8, 9], [8, 9, 10], [0, 1, 4, 5, 6, 7, 8, 9, 10, 11], [0, 1, 4, 5, 6, 7, 8, 9, 10, 11, 12], [0, 1, 2, 3, 4, 5, 6, 7, 8, 9, 10, 11, 12, 13], [0, 1, 2, 3, 4, 5, 6, 7, 8, 9, 10, 11, 12, 13, 14]]
      [13])
    (.seq (.region [⟨some 86, none, .mov (.t 13)⟩,
      ⟨some 10, none, .mov (.t 86)⟩,
      ⟨some 11, none, .mov (.c (.bool true))⟩]
      [10, 11])
    .ret))
    .skip))
  (.seq (.drawn [⟨some 87, none, .mov (.t 0)⟩,
    ⟨some 88, none, .mov (.t 12)⟩,
    ⟨some 89, none, .mov (.t 0)⟩,
    ⟨some 90, none, .mov (.t 13)⟩,
    ⟨some 91, none, .mov (.t 0)⟩,
    ⟨some 92, none, .mov (.t 13)⟩,
    ⟨some 93, none, .idxS 2 (.t 91) (.t 92)⟩,
    ⟨some 94, none, .load true 2 (.t 93)⟩,
    ⟨some 95, none, .mov (.t 0)⟩,
    ⟨some 96, none, .mov (.t 12)⟩,
    ⟨some 97, none, .idxS 2 (.t 95) (.t 96)⟩,
    ⟨some 98, none, .load true 2 (.t 97)⟩,
    ⟨some 99, none, .idxS 2 (.t 87) (.t 88)⟩,
    ⟨none, none, .store 2 (.t 99) (.t 94)⟩,
    ⟨some 100, none, .idxS 2 (.t 89) (.t 90)⟩,
    ⟨none, none, .store 2 (.t 100) (.t 98)⟩]
    [[], [], [], [], [], [], [4, 5], [6], [], [], [8, 9], [10], [0, 1, 0, 1, 4, 5, 6, 7, 11], [12, 7, 0, 1, 4, 5, 6, 7, 11], [2, 3, 0, 1, 2, 3, 4, 5, 6, 7, 8, 9, 10, 11, 12, 13], [14, 11, 13, 0, 1, 2, 3, 4, 5, 6, 7, 8, 9, 10, 11, 12, 13]]
    [(0, []), (1, []), (2, []), (3, []), (4, []), (5, []), (6, []), (8, []), (9, []), (10, []), (7, []), (11, []), (12, []), (13, []), (14, []), (15, [])]
    [[], [], [], [], [], [], [4, 5], [4, 5, 6], [], [], [8, 9], [8, 9, 10], [0, 1, 4, 5, 6, 7, 8, 9, 10, 11], [0, 1, 4, 5, 6, 7, 8, 9, 10, 11, 12], [0, 1, 2, 3, 4, 5, 6, 7, 8, 9, 10, 11, 12, 13], [0, 1, 2, 3, 4, 5, 6, 7, 8, 9, 10, 11, 12, 13, 14]]
    [0, 1, 4, 12, 13])
  (.seq (.region [⟨some 101, none, .mov (.t 12)⟩,
    ⟨some 102, none, .bin .add (.t 101) (.c (.int .i64 1))⟩,
    ⟨some 12, none, .mov (.t 102)⟩]
    [0, 1, 4, 12, 13])
  (.seq (.region [⟨some 103, none, .mov (.t 13)⟩,
    ⟨some 104, none, .bin .sub (.t 103) (.c (.int .i64 1))⟩,
    ⟨some 13, none, .mov (.t 104)⟩]
    [0, 1, 4, 12, 13])
  (.seq (.block 4
    (.loop [0, 1, 4, 12, 13] RB.slices_partitionCmpFunc_spans_Span_3) [0, 1, 13])
  (.seq (.drawn [⟨some 163, none, .mov (.t 0)⟩,
    ⟨some 164, none, .mov (.t 13)⟩,
    ⟨some 165, none, .mov (.t 0)⟩,
    ⟨some 166, none, .mov (.t 1)⟩,
    ⟨some 167, none, .mov (.t 0)⟩,
    ⟨some 168, none, .mov (.t 1)⟩,
    ⟨some 169, none, .idxS 2 (.t 167) (.t 168)⟩,
    ⟨some 170, none, .load true 2 (.t 169)⟩,
    ⟨some 171, none, .mov (.t 0)⟩,
    ⟨some 172, none, .mov (.t 13)⟩,
    ⟨some 173, none, .idxS 2 (.t 171) (.t 172)⟩,
    ⟨some 174, none, .load true 2 (.t 173)⟩,
    ⟨some 175, none, .idxS 2 (.t 163) (.t 164)⟩,
    ⟨none, none, .store 2 (.t 175) (.t 170)⟩,
    ⟨some 176, none, .idxS 2 (.t 165) (.t 166)⟩,
    ⟨none, none, .store 2 (.t 176) (.t 174)⟩]
    [[], [], [], [], [], [], [4, 5], [6], [], [], [8, 9], [10], [0, 1, 0, 1, 4, 5, 6, 7, 11], [12, 7, 0, 1, 4, 5, 6, 7, 11], [2, 3, 0, 1, 2, 3, 4, 5, 6, 7, 8, 9, 10, 11, 12, 13], [14, 11, 13, 0, 1, 2, 3, 4, 5, 6, 7, 8, 9, 10, 11, 12, 13]]
    [(0, []), (1, []), (2, []), (3, []), (4, []), (5, []), (6, []), (8, []), (9, []), (10, []), (7, []), (11, []), (12, []), (13, []), (14, []), (15, [])]
    [[], [], [], [], [], [], [4, 5], [4, 5, 6], [], [], [8, 9], [8, 9, 10], [0, 1, 4, 5, 6, 7, 8, 9, 10, 11], [0, 1, 4, 5, 6, 7, 8, 9, 10, 11, 12], [0, 1, 2, 3, 4, 5, 6, 7, 8, 9, 10, 11, 12, 13], [0, 1, 2, 3, 4, 5, 6, 7, 8, 9, 10, 11, 12, 13, 14]]
    [13])
  (.seq (.region [⟨some 177, none, .mov (.t 13)⟩,
    ⟨some 10, none, .mov (.t 177)⟩,
    ⟨some 11, none, .mov (.c (.bool false))⟩]
    [10, 11])
  .ret))))))))))))⟩

def RC.math_bits_Len32 : RFn := ⟨1, [.slot 2],
  (.seq (.region [⟨some 2, none, .mov (.c (.int .i64 0))⟩]
    [0, 2])
  (.seq (.seq (.region [⟨some 3, none, .mov (.t 0)⟩,
    ⟨some 4, none, .bin .geq (.t 3) (.c (u32 65536#32))⟩]
    [0, 2, 4])
  (.cond (.t 4)
    (.seq (.region [⟨some 5, none, .mov (.t 0)⟩,
      ⟨some 6, none, .bin .shr (.t 5) (.c (u64 16#64))⟩,
      ⟨some 0, none, .mov (.t 6)⟩]
      [0])
    (.region [⟨some 2, none, .mov (.c (.int .i64 16))⟩]
      [0, 2]))
    .skip))
  (.seq (.seq (.region [⟨some 7, none, .mov (.t 0)⟩,
    ⟨some 8, none, .bin .geq (.t 7) (.c (u32 256#32))⟩]
    [0, 2, 8])
  (.cond (.t 8)
    (.seq (.region [⟨some 9, none, .mov (.t 0)⟩,
      ⟨some 10, none, .bin .shr (.t 9) (.c (u64 8#64))⟩,
      ⟨some 0, none, .mov (.t 10)⟩]
      [0, 2])
    (.region [⟨some 11, none, .mov (.t 2)⟩,
      ⟨some 12, none, .bin .add (.t 11) (.c (.int .i64 8))⟩,
      ⟨some 2, none, .mov (.t 12)⟩]
      [0, 2]))
    .skip))
  (.seq (.region [⟨some 13, none, .mov (.t 2)⟩,
    ⟨some 14, none, .mov (.t 0)⟩,
    ⟨some 15, none, .conv .u8 (.t 14)⟩,
    ⟨some 16, none, .idxStr (.c (.string lenTab)) (.t 15)⟩,
    ⟨some 17, none, .conv .i64 (.t 16)⟩,
    ⟨some 18, none, .bin .add (.t 13) (.t 17)⟩,
    ⟨some 2, none, .mov (.t 18)⟩]
    [2])
  .ret))))⟩

def RC.math_bits_Len64 : RFn := ⟨1, [.slot 2],
  (.seq (.region [⟨some 2, none, .mov (.c (.int .i64 0))⟩]
    [0, 2])
  (.seq (.seq (.region [⟨some 3, none, .mov (.t 0)⟩,
    ⟨some 4, none, .bin .geq (.t 3) (.c (u64 4294967296#64))⟩]
    [0, 2, 4])
  (.cond (.t 4)
    (.seq (.region [⟨some 5, none, .mov (.t 0)⟩,
      ⟨some 6, none, .bin .shr (.t 5) (.c (u64 32#64))⟩,
      ⟨some 0, none, .mov (.t 6)⟩]
      [0])
    (.region [⟨some 2, none, .mov (.c (.int .i64 32))⟩]
      [0, 2]))
    .skip))
  (.seq (.seq (.region [⟨some 7, none, .mov (.t 0)⟩,
    ⟨some 8, none, .bin .geq (.t 7) (.c (u64 65536#64))⟩]
    [0, 2, 8])
  (.cond (.t 8)
    (.seq (.region [⟨some 9, none, .mov (.t 0)⟩,
      ⟨some 10, none, .bin .shr (.t 9) (.c (u64 16#64))⟩,
      ⟨some 0, none, .mov (.t 10)⟩]
      [0, 2])
    (.region [⟨some 11, none, .mov (.t 2)⟩,
      ⟨some 12, none, .bin .add (.t 11) (.c (.int .i64 16))⟩,
      ⟨some 2, none, .mov (.t 12)⟩]
      [0, 2]))
    .skip))
  (.seq (.seq (.region [⟨some 13, none, .mov (.t 0)⟩,
    ⟨some 14, none, .bin .geq (.t 13) (.c (u64 256#64))⟩]
    [0, 2, 14])
  (.cond (.t 14)
    (.seq (.region [⟨some 15, none, .mov (.t 0)⟩,
      ⟨some 16, none, .bin .shr (.t 15) (.c (u64 8#64))⟩,
      ⟨some 0, none, .mov (.t 16)⟩]
      [0, 2])
    (.region [⟨some 17, none, .mov (.t 2)⟩,
      ⟨some 18, none, .bin .add (.t 17) (.c (.int .i64 8))⟩,
      ⟨some 2, none, .mov (.t 18)⟩]
      [0, 2]))
    .skip))
  (.seq (.region [⟨some 19, none, .mov (.t 2)⟩,
    ⟨some 20, none, .mov (.t 0)⟩,
    ⟨some 21, none, .conv .u8 (.t 20)⟩,
    ⟨some 22, none, .idxStr (.c (.string lenTab)) (.t 21)⟩,
    ⟨some 23, none, .conv .i64 (.t 22)⟩,
    ⟨some 24, none, .bin .add (.t 19) (.t 23)⟩,
    ⟨some 2, none, .mov (.t 24)⟩]
    [2])
  .ret)))))⟩

def RB.slices_siftDownCmpFunc_spans_Span_1 : RCode :=
  (.block 1
    (.seq (.region [⟨some 13, none, .mov (.t 10)⟩,
      ⟨some 14, none, .bin .mul (.c (.int .i64 2)) (.t 13)⟩,
      ⟨some 15, none, .bin .add (.t 14) (.c (.int .i64 1))⟩,
      ⟨some 11, none, .mov (.t 15)⟩]
      [0, 2, 3, 4, 10, 11])
    (.seq (.seq (.region [⟨some 16, none, .mov (.t 11)⟩,
      ⟨some 17, none, .mov (.t 2)⟩,
      ⟨some 18, none, .bin .geq (.t 16) (.t 17)⟩]
      [0, 2, 3, 4, 10, 11, 18])
    (.cond (.t 18)
      (.exit 0)
      .skip))
    (.seq (.seq (.drawn [⟨some 19, none, .mov (.t 11)⟩,
      ⟨some 20, none, .bin .add (.t 19) (.c (.int .i64 1))⟩,
      ⟨some 21, none, .mov (.t 2)⟩,
      ⟨some 22, none, .bin .lss (.t 20) (.t 21)⟩,
      ⟨some 23, none, .mov (.t 22)⟩,
      ⟨some 24, some (23, true), .mov (.t 4)⟩,
      ⟨some 25, some (23, true), .mov (.t 0)⟩,
      ⟨some 26, some (23, true), .mov (.t 3)⟩,
      ⟨some 27, some (23, true), .mov (.t 11)⟩,
      ⟨some 28, some (23, true), .bin .add (.t 26) (.t 27)⟩,
      ⟨some 29, some (23, true), .idxS 2 (.t 25) (.t 28)⟩,
      ⟨some 30, some (23, true), .load true 2 (.t 29)⟩,
      ⟨some 31, some (23, true), .mov (.t 0)⟩,
      ⟨some 32, some (23, true), .mov (.t 3)⟩,
      ⟨some 33, some (23, true), .mov (.t 11)⟩,
      ⟨some 34, some (23, true), .bin .add (.t 32) (.t 33)⟩,
      ⟨some 35, some (23, true), .bin .add (.t 34) (.c (.int .i64 1))⟩,
      ⟨some 36, some (23, true), .idxS 2 (.t 31) (.t 35)⟩,
      ⟨some 37, some (23, true), .load true 2 (.t 36)⟩,
      ⟨some 38, some (23, true), .callv (.t 24) [.t 30, .t 37]⟩,
      ⟨some 39, some (23, true), .bin .lss (.t 38) (.c (.int .i64 0))⟩,
      ⟨some 40, none, .pick (.t 23) (.t 39) (.c (.bool false))⟩]
      [[], [0], [], [1, 2], [3], [4], [4], [4], [4], [7, 8, 4], [6, 9, 4], [10, 4], [4], [4], [4], [13, 14, 4], [15, 4], [12, 16, 4], [17, 4], [5, 11, 18, 4, 4], [19, 4], [4, 20]]
      [(0, []), (1, []), (2, []), (3, []), (4, []), (5, []), (6, []), (7, []), (8, []), (9, []), (10, []), (12, []), (13, []), (14, []), (15, []), (16, []), (17, []), (11, []), (18, []), (19, []), (20, []), (21, [])]
      [[], [0], [], [0, 1, 2], [0, 1, 2, 3], [0, 1, 2, 3, 4], [0, 1, 2, 3, 4], [0, 1, 2, 3, 4], [0, 1, 2, 3, 4], [0, 1, 2, 3, 4, 7, 8], [0, 1, 2, 3, 4, 6, 7, 8, 9], [0, 1, 2, 3, 4, 6, 7, 8, 9, 10], [0, 1, 2, 3, 4], [0, 1, 2, 3, 4], [0, 1, 2, 3, 4], [0, 1, 2, 3, 4, 13, 14], [0, 1, 2, 3, 4, 13, 14, 15], [0, 1, 2, 3, 4, 12, 13, 14, 15, 16], [0, 1, 2, 3, 4, 12, 13, 14, 15, 16, 17], [0, 1, 2, 3, 4, 5, 6, 7, 8, 9, 10, 11, 12, 13, 14, 15, 16, 17, 18], [0, 1, 2, 3, 4, 5, 6, 7, 8, 9, 10, 11, 12, 13, 14, 15, 16, 17, 18, 19], [0, 1, 2, 3, 4, 5, 6, 7, 8, 9, 10, 11, 12, 13, 14, 15, 16, 17, 18, 19, 20]]
      [0, 2, 3, 4, 10, 11, 40])
    (.cond (.t 40)
      (.region [⟨some 41, none, .mov (.t 11)⟩,
        ⟨some 42, none, .bin .add (.t 41) (.c (.int .i64 1))⟩,
        ⟨some 11, none, .mov (.t 42)⟩]
        [0, 2, 3, 4, 10, 11])
      .skip))
    (.seq (.seq (.drawn [⟨some 43, none, .mov (.t 4)⟩,
      ⟨some 44, none, .mov (.t 0)⟩,
      ⟨some 45, none, .mov (.t 3)⟩,
      ⟨some 46, none, .mov (.t 10)⟩,
      ⟨some 47, none, .bin .add (.t 45) (.t 46)⟩,
      ⟨some 48, none, .idxS 2 (.t 44) (.t 47)⟩,
      ⟨some 49, none, .load true 2 (.t 48)⟩,
      ⟨some 50, none, .mov (.t 0)⟩,
      ⟨some 51, none, .mov (.t 3)⟩,
      ⟨some 52, none, .mov (.t 11)⟩,
      ⟨some 53, none, .bin .add (.t 51) (.t 52)⟩,
      ⟨some 54, none, .idxS 2 (.t 50) (.t 53)⟩,
      ⟨some 55, none, .load true 2 (.t 54)⟩,
      ⟨some 56, none, .callv (.t 43) [.t 49, .t 55]⟩,
      ⟨some 57, none, .bin .lss (.t 56) (.c (.int .i64 0))⟩,
      ⟨some 58, none, .un .not (.t 57)⟩]
      [[], [], [], [], [2, 3], [1, 4], [5], [], [], [], [8, 9], [7, 10], [11], [0, 6, 12], [13], [14]]
      [(0, []), (1, []), (2, []), (3, []), (4, []), (5, []), (7, []), (8, []), (9, []), (10, []), (11, []), (6, []), (12, []), (13, []), (14, []), (15, [])]
      [[], [], [], [], [2, 3], [1, 2, 3, 4], [1, 2, 3, 4, 5], [], [], [], [8, 9], [7, 8, 9, 10], [7, 8, 9, 10, 11], [0, 1, 2, 3, 4, 5, 6, 7, 8, 9, 10, 11, 12], [0, 1, 2, 3, 4, 5, 6, 7, 8, 9, 10, 11, 12, 13], [0, 1, 2, 3, 4, 5, 6, 7, 8, 9, 10, 11, 12, 13, 14]]
      [0, 2, 3, 4, 10, 11, 58])
    (.cond (.t 58)
      .ret
      .skip))
    (.seq (.drawn [⟨some 59, none, .mov (.t 0)⟩,
      ⟨some 60, none, .mov (.t 3)⟩,
      ⟨some 61, none, .mov (.t 10)⟩,
      ⟨some 62, none, .bin .add (.t 60) (.t 61)⟩,
      ⟨some 63, none, .mov (.t 0)⟩,
      ⟨some 64, none, .mov (.t 3)⟩,
      ⟨some 65, none, .mov (.t 11)⟩,
      ⟨some 66, none, .bin .add (.t 64) (.t 65)⟩,
      ⟨some 67, none, .mov (.t 0)⟩,
      ⟨some 68, none, .mov (.t 3)⟩,
      ⟨some 69, none, .mov (.t 11)⟩,
      ⟨some 70, none, .bin .add (.t 68) (.t 69)⟩,
      ⟨some 71, none, .idxS 2 (.t 67) (.t 70)⟩,
      ⟨some 72, none, .load true 2 (.t 71)⟩,
      ⟨some 73, none, .mov (.t 0)⟩,
      ⟨some 74, none, .mov (.t 3)⟩,
      ⟨some 75, none, .mov (.t 10)⟩,
      ⟨some 76, none, .bin .add (.t 74) (.t 75)⟩,
      ⟨some 77, none, .idxS 2 (.t 73) (.t 76)⟩,
      ⟨some 78, none, .load true 2 (.t 77)⟩,
      ⟨some 79, none, .idxS 2 (.t 59) (.t 62)⟩,
      ⟨none, none, .store 2 (.t 79) (.t 72)⟩,
      ⟨some 80, none, .idxS 2 (.t 63) (.t 66)⟩,
      ⟨none, none, .store 2 (.t 80) (.t 78)⟩]
      [[], [], [], [1, 2], [], [], [], [5, 6], [], [], [], [9, 10], [8, 11], [12], [], [], [], [15, 16], [14, 17], [18], [0, 3, 0, 1, 2, 3, 8, 9, 10, 11, 12, 13, 19], [20, 13, 0, 1, 2, 3, 8, 9, 10, 11, 12, 13, 19], [4, 7, 0, 1, 2, 3, 4, 5, 6, 7, 8, 9, 10, 11, 12, 13, 14, 15, 16, 17, 18, 19, 20, 21], [22, 19, 21, 0, 1, 2, 3, 4, 5, 6, 7, 8, 9, 10, 11, 12, 13, 14, 15, 16, 17, 18, 19, 20, 21]]
      [(0, []), (1, []), (2, []), (3, []), (4, []), (5, []), (6, []), (7, []), (8, []), (9, []), (10, []), (11, []), (12, []), (14, []), (15, []), (16, []), (17, []), (18, []), (13, []), (19, []), (20, []), (21, []), (22, []), (23, [])]
      [[], [], [], [1, 2], [], [], [], [5, 6], [], [], [], [9, 10], [8, 9, 10, 11], [8, 9, 10, 11, 12], [], [], [], [15, 16], [14, 15, 16, 17], [14, 15, 16, 17, 18], [0, 1, 2, 3, 8, 9, 10, 11, 12, 13, 14, 15, 16, 17, 18, 19], [0, 1, 2, 3, 8, 9, 10, 11, 12, 13, 14, 15, 16, 17, 18, 19, 20], [0, 1, 2, 3, 4, 5, 6, 7, 8, 9, 10, 11, 12, 13, 14, 15, 16, 17, 18, 19, 20, 21], [0, 1, 2, 3, 4, 5, 6, 7, 8, 9, 10, 11, 12, 13, 14, 15, 16, 17, 18, 19, 20, 21, 22]]
      [0, 2, 3, 4, 11])
    (.region [⟨some 81, none, .mov (.t 11)⟩,
      ⟨some 10, none, .mov (.t 81)⟩]
      [0, 2, 3, 4, 10])))))) [0, 2, 3, 4, 10])
def RC.slices_siftDownCmpFunc_spans_Span : RFn := ⟨5, [],
  (.seq (.region [⟨some 12, none, .mov (.t 1)⟩,
    ⟨some 10, none, .mov (.t 12)⟩]
    [0, 2, 3, 4, 10])
  (.block 0
    (.loop [0, 2, 3, 4, 10] RB.slices_siftDownCmpFunc_spans_Span_1) []))⟩

def RC.slices_nextPowerOfTwo : RFn := ⟨1, [.slot 2],
  (.seq (.region [⟨some 2, none, .mov (.c (u64 0#64))⟩]
    [0])
  (.seq (.region [⟨some 3, none, .mov (.t 0)⟩,
    ⟨some 4, none, .conv .u64 (.t 3)⟩,
    ⟨some 5, none, .call F.math_bits_Len [.t 4]⟩,
    ⟨some 6, none, .bin .shl (.c (u64 1#64)) (.t 5)⟩,
    ⟨some 2, none, .mov (.t 6)⟩]
    [2])
  .ret))⟩

def RC.slices_xorshift_Next : RFn := ⟨1, [.slot 2],
  (.seq (.region [⟨some 2, none, .mov (.c (u64 0#64))⟩]
    [0])
  (.seq (.drawn [⟨some 3, none, .mov (.t 0)⟩,
    ⟨some 4, none, .nilchk (.t 3)⟩,
    ⟨some 5, none, .load false 1 (.t 4)⟩,
    ⟨some 6, none, .mov (.t 0)⟩,
    ⟨some 7, none, .nilchk (.t 6)⟩,
    ⟨some 8, none, .load false 1 (.t 7)⟩,
    ⟨some 9, none, .bin .shl (.t 8) (.c (u64 13#64))⟩,
    ⟨some 10, none, .bin .xor (.t 5) (.t 9)⟩,
    ⟨some 11, none, .nilchk (.t 3)⟩,
    ⟨none, none, .store 1 (.t 11) (.t 10)⟩]
    [[], [0], [1], [], [3], [4], [5], [2, 6], [0, 0, 1, 2, 3, 4, 5, 6, 7], [8, 7, 0, 1, 2, 3, 4, 5, 6, 7]]
    [(0, []), (1, []), (3, []), (4, []), (2, []), (5, []), (6, []), (7, []), (8, []), (9, [])]
    [[], [0], [0, 1], [], [3], [3, 4], [3, 4, 5], [0, 1, 2, 3, 4, 5, 6], [0, 1, 2, 3, 4, 5, 6, 7], [0, 1, 2, 3, 4, 5, 6, 7, 8]]
    [0])
  (.seq (.drawn [⟨some 12, none, .mov (.t 0)⟩,
    ⟨some 13, none, .nilchk (.t 12)⟩,
    ⟨some 14, none, .load false 1 (.t 13)⟩,
    ⟨some 15, none, .mov (.t 0)⟩,
    ⟨some 16, none, .nilchk (.t 15)⟩,
    ⟨some 17, none, .load false 1 (.t 16)⟩,
    ⟨some 18, none, .bin .shr (.t 17) (.c (u64 7#64))⟩,
    ⟨some 19, none, .bin .xor (.t 14) (.t 18)⟩,
    ⟨some 20, none, .nilchk (.t 12)⟩,
    ⟨none, none, .store 1 (.t 20) (.t 19)⟩]
    [[], [0], [1], [], [3], [4], [5], [2, 6], [0, 0, 1, 2, 3, 4, 5, 6, 7], [8, 7, 0, 1, 2, 3, 4, 5, 6, 7]]
    [(0, []), (1, []), (3, []), (4, []), (2, []), (5, []), (6, []), (7, []), (8, []), (9, [])]
    [[], [0], [0, 1], [], [3], [3, 4], [3, 4, 5], [0, 1, 2, 3, 4, 5, 6], [0, 1, 2, 3, 4, 5, 6, 7], [0, 1, 2, 3, 4, 5, 6, 7, 8]]
    [0])
  (.seq (.drawn [⟨some 21, none, .mov (.t 0)⟩,
    ⟨some 22, none, .nilchk (.t 21)⟩,
    ⟨some 23, none, .load false 1 (.t 22)⟩,
    ⟨some 24, none, .mov (.t 0)⟩,
    ⟨some 25, none, .nilchk (.t 24)⟩,
    ⟨some 26, none, .load false 1 (.t 25)⟩,
    ⟨some 27, none, .bin .shl (.t 26) (.c (u64 17#64))⟩,
    ⟨some 28, none, .bin .xor (.t 23) (.t 27)⟩,
    ⟨some 29, none, .nilchk (.t 21)⟩,
    ⟨none, none, .store 1 (.t 29) (.t 28)⟩]
    [[], [0], [1], [], [3], [4], [5], [2, 6], [0, 0, 1, 2, 3, 4, 5, 6, 7], [8, 7, 0, 1, 2, 3, 4, 5, 6, 7]]
    [(0, []), (1, []), (3, []), (4, []), (2, []), (5, []), (6, []), (7, []), (8, []), (9, [])]
    [[], [0], [0, 1], [], [3], [3, 4], [3, 4, 5], [0, 1, 2, 3, 4, 5, 6], [0, 1, 2, 3, 4, 5, 6, 7], [0, 1, 2, 3, 4, 5, 6, 7, 8]]
    [0])
  (.seq (.region [⟨some 30, none, .mov (.t 0)⟩,
    ⟨some 31, none, .nilchk (.t 30)⟩,
    ⟨some 32, none, .load false 1 (.t 31)⟩,
    ⟨some 2, none, .mov (.t 32)⟩]
    [2])
  .ret)))))⟩

def RC.slices_medianAdjacentCmpFunc_spans_Span : RFn := ⟨4, [.slot 8],
  (.seq (.region [⟨some 8, none, .mov (.c (.int .i64 0))⟩]
    [0, 1, 2, 3])
  (.seq (.region [⟨some 9, none, .mov (.t 0)⟩,
    ⟨some 10, none, .mov (.t 1)⟩,
    ⟨some 11, none, .bin .sub (.t 10) (.c (.int .i64 1))⟩,
    ⟨some 12, none, .mov (.t 1)⟩,
    ⟨some 13, none, .mov (.t 1)⟩,
    ⟨some 14, none, .bin .add (.t 13) (.c (.int .i64 1))⟩,
    ⟨some 15, none, .mov (.t 2)⟩,
    ⟨some 16, none, .mov (.t 3)⟩,
    ⟨some 17, none, .call F.slices_medianCmpFunc_spans_Span [.t 9, .t 11, .t 12, .t 14, .t 15, .t 16]⟩,
    ⟨some 8, none, .mov (.t 17)⟩]
    [8])
  .ret))⟩

def RC.slices_medianCmpFunc_spans_Span : RFn := ⟨6, [.slot 12],
  (.seq (.region [⟨some 12, none, .mov (.c (.int .i64 0))⟩]
    [0, 1, 2, 3, 4, 5])
  (.seq (.region [⟨some 14, none, .mov (.t 0)⟩,
    ⟨some 15, none, .mov (.t 1)⟩,
    ⟨some 16, none, .mov (.t 2)⟩,
    ⟨some 17, none, .mov (.t 4)⟩,
    ⟨some 18, none, .mov (.t 5)⟩,
    ⟨some 19, none, .call F.slices_order2CmpFunc_spans_Span [.t 14, .t 15, .t 16, .t 17, .t 18]⟩,
    ⟨some 13, none, .mov (.t 19)⟩,
    ⟨some 20, none, .ext 0 (.t 13)⟩,
    ⟨some 21, none, .ext 1 (.t 13)⟩,
    ⟨some 1, none, .mov (.t 20)⟩,
    ⟨some 2, none, .mov (.t 21)⟩]
    [0, 1, 2, 3, 4, 5])
  (.seq (.region [⟨some 23, none, .mov (.t 0)⟩,
    ⟨some 24, none, .mov (.t 2)⟩,
    ⟨some 25, none, .mov (.t 3)⟩,
    ⟨some 26, none, .mov (.t 4)⟩,
    ⟨some 27, none, .mov (.t 5)⟩,
    ⟨some 28, none, .call F.slices_order2CmpFunc_spans_Span [.t 23, .t 24, .t 25, .t 26, .t 27]⟩,
    ⟨some 22, none, .mov (.t 28)⟩,
    ⟨some 29, none, .ext 0 (.t 22)⟩,
    ⟨some 30, none, .ext 1 (.t 22)⟩,
    ⟨some 2, none, .mov (.t 29)⟩,
    ⟨some 3, none, .mov (.t 30)⟩]
    [0, 1, 2, 4, 5])
  (.seq (.region [⟨some 32, none, .mov (.t 0)⟩,
    ⟨some 33, none, .mov (.t 1)⟩,
    ⟨some 34, none, .mov (.t 2)⟩,
    ⟨some 35, none, .mov (.t 4)⟩,
    ⟨some 36, none, .mov (.t 5)⟩,
    ⟨some 37, none, .call F.slices_order2CmpFunc_spans_Span [.t 32, .t 33, .t 34, .t 35, .t 36]⟩,
    ⟨some 31, none, .mov (.t 37)⟩,
    ⟨some 38, none, .ext 0 (.t 31)⟩,
    ⟨some 39, none, .ext 1 (.t 31)⟩,
    ⟨some 1, none, .mov (.t 38)⟩,
    ⟨some 2, none, .mov (.t 39)⟩]
    [2])
  (.seq (.region [⟨some 40, none, .mov (.t 2)⟩,
    ⟨some 12, none, .mov (.t 40)⟩]
    [12])
  .ret)))))⟩

def RC.slices_order2CmpFunc_spans_Span : RFn := ⟨5, [.slot 10, .slot 11],
  (.seq (.region [⟨some 10, none, .mov (.c (.int .i64 0))⟩,
    ⟨some 11, none, .mov (.c (.int .i64 0))⟩]
    [0, 1, 2, 3, 4])
  (.seq (.seq (.drawn [⟨some 12, none, .mov (.t 4)⟩,
    ⟨some 13, none, .mov (.t 0)⟩,
    ⟨some 14, none, .mov (.t 2)⟩,
    ⟨some 15, none, .idxS 2 (.t 13) (.t 14)⟩,
    ⟨some 16, none, .load true 2 (.t 15)⟩,
    ⟨some 17, none, .mov (.t 0)⟩,
    ⟨some 18, none, .mov (.t 1)⟩,
    ⟨some 19, none, .idxS 2 (.t 17) (.t 18)⟩,
    ⟨some 20, none, .load true 2 (.t 19)⟩,
    ⟨some 21, none, .callv (.t 12) [.t 16, .t 20]⟩,
    ⟨some 22, none, .bin .lss (.t 21) (.c (.int .i64 0))⟩]
    [[], [], [], [1, 2], [3], [], [], [5, 6], [7], [0, 4, 8], [9]]
    [(0, []), (1, []), (2, []), (3, []), (5, []), (6, []), (7, []), (4, []), (8, []), (9, []), (10, [])]
    [[], [], [], [1, 2], [1, 2, 3], [], [], [5, 6], [5, 6, 7], [0, 1, 2, 3, 4, 5, 6, 7, 8], [0, 1, 2, 3, 4, 5, 6, 7, 8, 9]]
    [1, 2, 3, 22])
  (.cond (.t 22)
    (.seq (.region [⟨some 23, none, .mov (.t 3)⟩,
      ⟨some 24, none, .nilchk (.t 23)⟩,
      ⟨some 25, none, .load false 1 (.t 24)⟩,
      ⟨some 26, none, .bin .add (.t 25) (.c (.int .i64 1))⟩,
      ⟨some 27, none, .nilchk (.t 23)⟩,
      ⟨none, none, .store 1 (.t 27) (.t 26)⟩]
      [1, 2])
    (.seq (.region [⟨some 28, none, .mov (.t 2)⟩,
      ⟨some 29, none, .mov (.t 1)⟩,
      ⟨some 10, none, .mov (.t 28)⟩,
      ⟨some 11, none, .mov (.t 29)⟩]
      [10, 11])
    .ret))
    .skip))
  (.seq (.region [⟨some 30, none, .mov (.t 1)⟩,
    ⟨some 31, none, .mov (.t 2)⟩,
    ⟨some 10, none, .mov (.t 30)⟩,
    ⟨some 11, none, .mov (.t 31)⟩]
    [10, 11])
  .ret)))⟩

def tab0 : List (Nat × FEnt) := [(F.law05_SpansGaps, .rc RC.law05_SpansGaps),
  (F.law05_SpansNorm, .rc RC.law05_SpansNorm),
  (F.law05_SpansBoth, .rc RC.law05_SpansBoth),
  (F.law05_SpansParts, .rc RC.law05_SpansParts),
  (F.law05_few, .rc RC.law05_few),
  (F.law05_same, .rc RC.law05_same),
  (F.spans_Gaps, .rc RC.spans_Gaps),
  (F.law05_of, .rc RC.law05_of),
  (F.ref05_Op, .rc RC.ref05_Op),
  (F.law05_awake, .rc RC.law05_awake),
  (F.spans_Norm, .rc RC.spans_Norm),
  (F.spans_Check, .rc RC.spans_Check),
  (F.ref05_Right, .rc RC.ref05_Right),
  (F.spans_Has, .rc RC.spans_Has),
  (F.ref05_Has, .rc RC.ref05_Has),
  (F.spans_Total, .rc RC.spans_Total),
  (F.ref05_Total, .rc RC.ref05_Total),
  (F.spans_Union, .rc RC.spans_Union),
  (F.spans_Meet, .rc RC.spans_Meet),
  (F.spans_Less, .rc RC.spans_Less),
  (F.ref05_ends, .rc RC.ref05_ends),
  (F.slices_DeleteFunc_spans_Span_spans_Span, .rc RC.slices_DeleteFunc_spans_Span_spans_Span),
  (F.slices_Clone_spans_Span_spans_Span, .rc RC.slices_Clone_spans_Span_spans_Span),
  (F.spans_Span_empty, .rc RC.spans_Span_empty),
  (F.slices_SortFunc_spans_Span_spans_Span, .rc RC.slices_SortFunc_spans_Span_spans_Span),
  (F.spans_Norm_1, .rc RC.spans_Norm_1),
  (F.cmp_Compare_int, .rc RC.cmp_Compare_int),
  (F.slices_ContainsFunc_spans_Span_spans_Span, .rc RC.slices_ContainsFunc_spans_Span_spans_Span),
  (F.spans_Has_1, .rc RC.spans_Has_1),
  (F.slices_Concat_spans_Span_spans_Span, .rc RC.slices_Concat_spans_Span_spans_Span),
  (F.ref05_with, .rc RC.ref05_with),
  (F.slices_IndexFunc_spans_Span_spans_Span, .rc RC.slices_IndexFunc_spans_Span_spans_Span),
  (F.slices_pdqsortCmpFunc_spans_Span, .rc RC.slices_pdqsortCmpFunc_spans_Span),
  (F.math_bits_Len, .rc RC.math_bits_Len),
  (F.cmp_isNaN_int, .rc RC.cmp_isNaN_int),
  (F.slices_Grow_spans_Span_spans_Span, .rc RC.slices_Grow_spans_Span_spans_Span),
  (F.slices_insertionSortCmpFunc_spans_Span, .rc RC.slices_insertionSortCmpFunc_spans_Span),
  (F.slices_heapSortCmpFunc_spans_Span, .rc RC.slices_heapSortCmpFunc_spans_Span),
  (F.slices_breakPatternsCmpFunc_spans_Span, .rc RC.slices_breakPatternsCmpFunc_spans_Span),
  (F.slices_choosePivotCmpFunc_spans_Span, .rc RC.slices_choosePivotCmpFunc_spans_Span),
  (F.slices_reverseRangeCmpFunc_spans_Span, .rc RC.slices_reverseRangeCmpFunc_spans_Span),
  (F.slices_partialInsertionSortCmpFunc_spans_Span, .rc RC.slices_partialInsertionSortCmpFunc_spans_Span),
  (F.slices_partitionEqualCmpFunc_spans_Span, .rc RC.slices_partitionEqualCmpFunc_spans_Span),
  (F.slices_partitionCmpFunc_spans_Span, .rc RC.slices_partitionCmpFunc_spans_Span),
  (F.math_bits_Len32, .rc RC.math_bits_Len32),
  (F.math_bits_Len64, .rc RC.math_bits_Len64),
  (F.slices_siftDownCmpFunc_spans_Span, .rc RC.slices_siftDownCmpFunc_spans_Span),
  (F.slices_nextPowerOfTwo, .rc RC.slices_nextPowerOfTwo),
  (F.slices_xorshift_Next, .rc RC.slices_xorshift_Next),
  (F.slices_medianAdjacentCmpFunc_spans_Span, .rc RC.slices_medianAdjacentCmpFunc_spans_Span),
  (F.slices_medianCmpFunc_spans_Span, .rc RC.slices_medianCmpFunc_spans_Span),
  (F.slices_order2CmpFunc_spans_Span, .rc RC.slices_order2CmpFunc_spans_Span)]
/-- What each number stands for. -/
def R0 : Nat → Option FEnt := lookF tab0
/-- The same, with the examples as known. -/
def tab : List (Nat × FEnt) := (F.law05_awake, .ext X.ok) :: tab0
def R : Nat → Option FEnt := lookF tab
theorem R.law05_awake : R F.law05_awake = some (.ext X.ok) := by with_unfolding_all rfl
theorem R.law05_SpansGaps : R F.law05_SpansGaps = some (.rc RC.law05_SpansGaps) := by with_unfolding_all rfl
theorem R.law05_SpansNorm : R F.law05_SpansNorm = some (.rc RC.law05_SpansNorm) := by with_unfolding_all rfl
theorem R.law05_SpansBoth : R F.law05_SpansBoth = some (.rc RC.law05_SpansBoth) := by with_unfolding_all rfl
theorem R.law05_SpansParts : R F.law05_SpansParts = some (.rc RC.law05_SpansParts) := by with_unfolding_all rfl
theorem R.law05_few : R F.law05_few = some (.rc RC.law05_few) := by with_unfolding_all rfl
theorem R.law05_same : R F.law05_same = some (.rc RC.law05_same) := by with_unfolding_all rfl
theorem R.spans_Gaps : R F.spans_Gaps = some (.rc RC.spans_Gaps) := by with_unfolding_all rfl
theorem R.law05_of : R F.law05_of = some (.rc RC.law05_of) := by with_unfolding_all rfl
theorem R.ref05_Op : R F.ref05_Op = some (.rc RC.ref05_Op) := by with_unfolding_all rfl
theorem R.spans_Norm : R F.spans_Norm = some (.rc RC.spans_Norm) := by with_unfolding_all rfl
theorem R.spans_Check : R F.spans_Check = some (.rc RC.spans_Check) := by with_unfolding_all rfl
theorem R.ref05_Right : R F.ref05_Right = some (.rc RC.ref05_Right) := by with_unfolding_all rfl
theorem R.spans_Has : R F.spans_Has = some (.rc RC.spans_Has) := by with_unfolding_all rfl
theorem R.ref05_Has : R F.ref05_Has = some (.rc RC.ref05_Has) := by with_unfolding_all rfl
theorem R.spans_Total : R F.spans_Total = some (.rc RC.spans_Total) := by with_unfolding_all rfl
theorem R.ref05_Total : R F.ref05_Total = some (.rc RC.ref05_Total) := by with_unfolding_all rfl
theorem R.spans_Union : R F.spans_Union = some (.rc RC.spans_Union) := by with_unfolding_all rfl
theorem R.spans_Meet : R F.spans_Meet = some (.rc RC.spans_Meet) := by with_unfolding_all rfl
theorem R.spans_Less : R F.spans_Less = some (.rc RC.spans_Less) := by with_unfolding_all rfl
theorem R.ref05_ends : R F.ref05_ends = some (.rc RC.ref05_ends) := by with_unfolding_all rfl
theorem R.slices_DeleteFunc_spans_Span_spans_Span : R F.slices_DeleteFunc_spans_Span_spans_Span = some (.rc RC.slices_DeleteFunc_spans_Span_spans_Span) := by with_unfolding_all rfl
theorem R.slices_Clone_spans_Span_spans_Span : R F.slices_Clone_spans_Span_spans_Span = some (.rc RC.slices_Clone_spans_Span_spans_Span) := by with_unfolding_all rfl
theorem R.spans_Span_empty : R F.spans_Span_empty = some (.rc RC.spans_Span_empty) := by with_unfolding_all rfl
theorem R.slices_SortFunc_spans_Span_spans_Span : R F.slices_SortFunc_spans_Span_spans_Span = some (.rc RC.slices_SortFunc_spans_Span_spans_Span) := by with_unfolding_all rfl
theorem R.spans_Norm_1 : R F.spans_Norm_1 = some (.rc RC.spans_Norm_1) := by with_unfolding_all rfl
theorem R.cmp_Compare_int : R F.cmp_Compare_int = some (.rc RC.cmp_Compare_int) := by with_unfolding_all rfl
theorem R.slices_ContainsFunc_spans_Span_spans_Span : R F.slices_ContainsFunc_spans_Span_spans_Span = some (.rc RC.slices_ContainsFunc_spans_Span_spans_Span) := by with_unfolding_all rfl
theorem R.spans_Has_1 : R F.spans_Has_1 = some (.rc RC.spans_Has_1) := by with_unfolding_all rfl
theorem R.slices_Concat_spans_Span_spans_Span : R F.slices_Concat_spans_Span_spans_Span = some (.rc RC.slices_Concat_spans_Span_spans_Span) := by with_unfolding_all rfl
theorem R.ref05_with : R F.ref05_with = some (.rc RC.ref05_with) := by with_unfolding_all rfl
theorem R.slices_IndexFunc_spans_Span_spans_Span : R F.slices_IndexFunc_spans_Span_spans_Span = some (.rc RC.slices_IndexFunc_spans_Span_spans_Span) := by with_unfolding_all rfl
theorem R.slices_pdqsortCmpFunc_spans_Span : R F.slices_pdqsortCmpFunc_spans_Span = some (.rc RC.slices_pdqsortCmpFunc_spans_Span) := by with_unfolding_all rfl
theorem R.math_bits_Len : R F.math_bits_Len = some (.rc RC.math_bits_Len) := by with_unfolding_all rfl
theorem R.cmp_isNaN_int : R F.cmp_isNaN_int = some (.rc RC.cmp_isNaN_int) := by with_unfolding_all rfl
theorem R.slices_Grow_spans_Span_spans_Span : R F.slices_Grow_spans_Span_spans_Span = some (.rc RC.slices_Grow_spans_Span_spans_Span) := by with_unfolding_all rfl
theorem R.slices_insertionSortCmpFunc_spans_Span : R F.slices_insertionSortCmpFunc_spans_Span = some (.rc RC.slices_insertionSortCmpFunc_spans_Span) := by with_unfolding_all rfl
theorem R.slices_heapSortCmpFunc_spans_Span : R F.slices_heapSortCmpFunc_spans_Span = some (.rc RC.slices_heapSortCmpFunc_spans_Span) := by with_unfolding_all rfl
theorem R.slices_breakPatternsCmpFunc_spans_Span : R F.slices_breakPatternsCmpFunc_spans_Span = some (.rc RC.slices_breakPatternsCmpFunc_spans_Span) := by with_unfolding_all rfl
theorem R.slices_choosePivotCmpFunc_spans_Span : R F.slices_choosePivotCmpFunc_spans_Span = some (.rc RC.slices_choosePivotCmpFunc_spans_Span) := by with_unfolding_all rfl
theorem R.slices_reverseRangeCmpFunc_spans_Span : R F.slices_reverseRangeCmpFunc_spans_Span = some (.rc RC.slices_reverseRangeCmpFunc_spans_Span) := by with_unfolding_all rfl
theorem R.slices_partialInsertionSortCmpFunc_spans_Span : R F.slices_partialInsertionSortCmpFunc_spans_Span = some (.rc RC.slices_partialInsertionSortCmpFunc_spans_Span) := by with_unfolding_all rfl
theorem R.slices_partitionEqualCmpFunc_spans_Span : R F.slices_partitionEqualCmpFunc_spans_Span = some (.rc RC.slices_partitionEqualCmpFunc_spans_Span) := by with_unfolding_all rfl
theorem R.slices_partitionCmpFunc_spans_Span : R F.slices_partitionCmpFunc_spans_Span = some (.rc RC.slices_partitionCmpFunc_spans_Span) := by with_unfolding_all rfl
theorem R.math_bits_Len32 : R F.math_bits_Len32 = some (.rc RC.math_bits_Len32) := by with_unfolding_all rfl
theorem R.math_bits_Len64 : R F.math_bits_Len64 = some (.rc RC.math_bits_Len64) := by with_unfolding_all rfl
theorem R.slices_siftDownCmpFunc_spans_Span : R F.slices_siftDownCmpFunc_spans_Span = some (.rc RC.slices_siftDownCmpFunc_spans_Span) := by with_unfolding_all rfl
theorem R.slices_nextPowerOfTwo : R F.slices_nextPowerOfTwo = some (.rc RC.slices_nextPowerOfTwo) := by with_unfolding_all rfl
theorem R.slices_xorshift_Next : R F.slices_xorshift_Next = some (.rc RC.slices_xorshift_Next) := by with_unfolding_all rfl
theorem R.slices_medianAdjacentCmpFunc_spans_Span : R F.slices_medianAdjacentCmpFunc_spans_Span = some (.rc RC.slices_medianAdjacentCmpFunc_spans_Span) := by with_unfolding_all rfl
theorem R.slices_medianCmpFunc_spans_Span : R F.slices_medianCmpFunc_spans_Span = some (.rc RC.slices_medianCmpFunc_spans_Span) := by with_unfolding_all rfl
theorem R.slices_order2CmpFunc_spans_Span : R F.slices_order2CmpFunc_spans_Span = some (.rc RC.slices_order2CmpFunc_spans_Span) := by with_unfolding_all rfl
end Go.Am
