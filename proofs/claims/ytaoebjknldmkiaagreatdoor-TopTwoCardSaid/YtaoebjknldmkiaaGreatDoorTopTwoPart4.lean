/- Parts of the proofs of the statements of this seat: AmTabTt~1. No conditions. -/
import Derived.Test.YtaoebjknldmkiaaGreatDoorTopTwoPart3
set_option linter.unusedVariables false
set_option linter.unusedSimpArgs false

/- The functions of the layer tt in the form of the abstract machine. Printed by amgen.py. -/
set_option linter.unusedVariables false
namespace Go.Am

@[irreducible] def F.top_TopTwo : Nat := 3
@[irreducible] def F.local_New : Nat := 4
@[irreducible] def F.ring_New : Nat := 5
@[irreducible] def F.top_begins20 : Nat := 6
@[irreducible] def F.ring_Ring_Join : Nat := 7
@[irreducible] def F.local_Local_Total : Nat := 8
@[irreducible] def F.local_Local_Pick : Nat := 9
@[irreducible] def F.ring_Ring_Pick : Nat := 10
@[irreducible] def F.local_Local_Got : Nat := 11
@[irreducible] def F.order_Check : Nat := 12
@[irreducible] def F.order_Total : Nat := 13
@[irreducible] def F.slices_SortFunc_local_entry_local_entry : Nat := 14
@[irreducible] def F.local_New_1 : Nat := 15
@[irreducible] def F.cmp_Compare_int : Nat := 16
@[irreducible] def F.pack_Full : Nat := 17
@[irreducible] def F.table_Of : Nat := 18
@[irreducible] def F.ffd_Fit : Nat := 19
@[irreducible] def F.chain_Rooms : Nat := 20
@[irreducible] def F.ring_Ring_none : Nat := 21
@[irreducible] def F.ring_weight : Nat := 22
@[irreducible] def F.ring_Ring_find : Nat := 23
@[irreducible] def F.ring_low : Nat := 24
@[irreducible] def F.ring_Ring_floor : Nat := 25
@[irreducible] def F.slices_Insert_ring_member_ring_member : Nat := 26
@[irreducible] def F.local_Local_Wants : Nat := 27
@[irreducible] def F.slices_Contains_int_int : Nat := 28
@[irreducible] def F.local_ahead : Nat := 29
@[irreducible] def F.ring_Ring_least : Nat := 30
@[irreducible] def F.ring_Ring_rebase : Nat := 31
@[irreducible] def F.local_Local_find : Nat := 32
@[irreducible] def F.order_Kind : Nat := 33
@[irreducible] def F.fixq_Add : Nat := 34
@[irreducible] def F.slices_pdqsortCmpFunc_local_entry : Nat := 35
@[irreducible] def F.math_bits_Len : Nat := 36
@[irreducible] def F.cmp_isNaN_int : Nat := 37
@[irreducible] def F.pack_why : Nat := 38
@[irreducible] def F.chain_Split : Nat := 39
@[irreducible] def F.plan_Check : Nat := 40
@[irreducible] def F.plan_Cores : Nat := 41
@[irreducible] def F.plan_Wholes : Nat := 42
@[irreducible] def F.mask_Ticks : Nat := 43
@[irreducible] def F.plan_Find : Nat := 44
@[irreducible] def F.plan_Drop : Nat := 45
@[irreducible] def F.order_Sort : Nat := 46
@[irreducible] def F.ffd_first : Nat := 47
@[irreducible] def F.plan_Put : Nat := 48
@[irreducible] def F.plan_Room : Nat := 49
@[irreducible] def F.slices_BinarySearchFunc_ring_member_ring_member_int : Nat := 50
@[irreducible] def F.ring_Ring_find_1 : Nat := 51
@[irreducible] def F.fixq_Ceil : Nat := 52
@[irreducible] def F.slices_Index_int_int : Nat := 55
@[irreducible] def F.fixq_Compare : Nat := 56
@[irreducible] def F.slices_IndexFunc_local_entry_local_entry : Nat := 57
@[irreducible] def F.local_Local_find_1 : Nat := 58
@[irreducible] def F.slices_insertionSortCmpFunc_local_entry : Nat := 59
@[irreducible] def F.slices_heapSortCmpFunc_local_entry : Nat := 60
@[irreducible] def F.slices_breakPatternsCmpFunc_local_entry : Nat := 61
@[irreducible] def F.slices_choosePivotCmpFunc_local_entry : Nat := 62
@[irreducible] def F.slices_reverseRangeCmpFunc_local_entry : Nat := 63
@[irreducible] def F.slices_partialInsertionSortCmpFunc_local_entry : Nat := 64
@[irreducible] def F.slices_partitionEqualCmpFunc_local_entry : Nat := 65
@[irreducible] def F.slices_partitionCmpFunc_local_entry : Nat := 66
@[irreducible] def F.math_bits_Len32 : Nat := 67
@[irreducible] def F.math_bits_Len64 : Nat := 68
@[irreducible] def F.chain_why : Nat := 69
@[irreducible] def F.chain_chain_place : Nat := 70
@[irreducible] def F.plan_place : Nat := 71
@[irreducible] def F.plan_apart : Nat := 72
@[irreducible] def F.plan_Splits : Nat := 73
@[irreducible] def F.plan_left : Nat := 74
@[irreducible] def F.plan_has : Nat := 75
@[irreducible] def F.plan_split : Nat := 76
@[irreducible] def F.math_bits_TrailingZeros64 : Nat := 77
@[irreducible] def F.plan_find : Nat := 78
@[irreducible] def F.slices_Clone_api_Piece_api_Piece : Nat := 79
@[irreducible] def F.plan_clone : Nat := 80
@[irreducible] def F.slices_Delete_api_Place_api_Place : Nat := 81
@[irreducible] def F.slices_Clone_api_Want_api_Want : Nat := 82
@[irreducible] def F.slices_SortFunc_api_Want_api_Want : Nat := 83
@[irreducible] def F.order_compare : Nat := 84
@[irreducible] def F.slices_Insert_api_Place_api_Place : Nat := 85
@[irreducible] def F.fixq_MulDiv : Nat := 86
@[irreducible] def F.math_bits_Add64 : Nat := 87
@[irreducible] def F.math_bits_Mul64 : Nat := 89
@[irreducible] def F.slices_siftDownCmpFunc_local_entry : Nat := 90
@[irreducible] def F.slices_nextPowerOfTwo : Nat := 91
@[irreducible] def F.slices_xorshift_Next : Nat := 92
@[irreducible] def F.slices_medianAdjacentCmpFunc_local_entry : Nat := 93
@[irreducible] def F.slices_medianCmpFunc_local_entry : Nat := 94
@[irreducible] def F.plan_Free : Nat := 95
@[irreducible] def F.chain_chain_on : Nat := 96
@[irreducible] def F.chain_chain_take : Nat := 97
@[irreducible] def F.plan_pieces : Nat := 98
@[irreducible] def F.mask_Count : Nat := 99
@[irreducible] def F.plan_Windows : Nat := 100
@[irreducible] def F.slices_BinarySearchFunc_api_Place_api_Place_int : Nat := 101
@[irreducible] def F.plan_find_1 : Nat := 102
@[irreducible] def F.slices_pdqsortCmpFunc_api_Want : Nat := 103
@[irreducible] def F.cmp_Or_int : Nat := 104
@[irreducible] def F.math_bits_Div64 : Nat := 107
@[irreducible] def F.slices_order2CmpFunc_local_entry : Nat := 109
@[irreducible] def F.mask_Round : Nat := 110
@[irreducible] def F.mask_All : Nat := 111
@[irreducible] def F.math_bits_OnesCount64 : Nat := 112
@[irreducible] def F.slices_insertionSortCmpFunc_api_Want : Nat := 113
@[irreducible] def F.slices_heapSortCmpFunc_api_Want : Nat := 114
@[irreducible] def F.slices_breakPatternsCmpFunc_api_Want : Nat := 115
@[irreducible] def F.slices_choosePivotCmpFunc_api_Want : Nat := 116
@[irreducible] def F.slices_reverseRangeCmpFunc_api_Want : Nat := 117
@[irreducible] def F.slices_partialInsertionSortCmpFunc_api_Want : Nat := 118
@[irreducible] def F.slices_partitionEqualCmpFunc_api_Want : Nat := 119
@[irreducible] def F.slices_partitionCmpFunc_api_Want : Nat := 120
@[irreducible] def F.math_bits_LeadingZeros64 : Nat := 122
@[irreducible] def F.mask_frame : Nat := 123
@[irreducible] def F.mask_Turn : Nat := 124
@[irreducible] def F.slices_siftDownCmpFunc_api_Want : Nat := 125
@[irreducible] def F.slices_medianAdjacentCmpFunc_api_Want : Nat := 126
@[irreducible] def F.slices_medianCmpFunc_api_Want : Nat := 127
@[irreducible] def F.mask_place : Nat := 129
@[irreducible] def F.slices_order2CmpFunc_api_Want : Nat := 130

def RB.top_TopTwo_1 : RCode :=
  (.seq (.seq (.region [oM 98 13, oM 99 0, oA 100 (.len (.t 99)), oA 101 (aB .lss 98 100)] [0, 3, 8, 13, 101])
(.cond (.t 101)
  .skip
  (.exit 4)))
(.seq (.block 5
  (.seq (.region [oM 105 3, oM 106 0, oM 107 13, oA 108 (aX 2 106 107), oA 109 (.fieldAddr 0 (.t 108)), oA 110 (aL 109), oA 111 (.call F.local_Local_Got [.t 105, .t 110]), oM 104 111, oA 112 (.ext 0 (.t 104)), oA 113 (.ext 1 (.t 104)), oM 14 112, oM 15 113] [0, 3, 8, 13, 14])
(.seq (.drawn [oM 114 14, oM 115 0, oM 116 13, oA 117 (aX 2 115 116), oA 118 (.fieldAddr 1 (.t 117)), oA 119 (aL 118), oA 120 (aB .neq 114 119), oM 121 120, oF 122 121 (aM 8), oF 123 121 (aM 13), oF 124 121 (aC .add 123 1), oF 125 121 (aX 1 122 124), oF 126 121 (aL 125), oF 127 121 (aM 0), oF 128 121 (aM 13), oF 129 121 (aX 2 127 128), oF 130 121 (.fieldAddr 1 (.t 129)), oF 131 121 (aL 130), oF 132 121 (aB .neq 126 131), oA 133 (.pick (.t 121) (.c (.bool true)) (.t 132))] [[], [], [], [1, 2], [3], [4], [0, 5], [6], [7], [7], [9, 7], [8, 10, 7], [11, 7], [7], [7], [13, 14, 7], [15, 7], [16, 7], [12, 17, 7], [7, 18]] [(0, []), (1, []), (2, []), (3, []), (4, []), (5, []), (6, []), (7, []), (8, []), (9, []), (10, []), (11, []), (13, []), (14, []), (15, []), (16, []), (12, []), (17, []), (18, []), (19, [])] (ancs [[],[],[],[1,2],[3],[4],[0,5],[6],[7],[7],[9,7],[8,10,7],[11,7],[7],[7],[13,14,7],[15,7],[16,7],[12,17,7],[7,18]]) [0, 3, 8, 13, 133])
(.cond (.t 133)
  (.seq (.region [oA 2 (.mov (.c (.bool false)))] [2])
.ret)
  .skip))) [0, 3, 8, 13])
(.region [oM 102 13, oA 103 (aC .add 102 1), oM 13 103] [0, 3, 8, 13])))
def RB.top_TopTwo_2 : RCode :=
  (.seq (.region [oA 66 (aB .lss 65 64)] [0, 3, 5, 8, 64, 65, 66])
(.seq (.cond (.t 66)
  .skip
  (.exit 2))
(.seq (.block 3
  (.seq (.seq (.region [oM 68 3, oA 69 (.call F.local_Local_Pick [.t 68, .c nS]), oM 67 69, oA 70 (.ext 0 (.t 67)), oA 71 (.ext 1 (.t 67)), oM 9 70, oM 10 71] [0, 3, 5, 8, 10, 64, 65])
(.seq (.region [oM 72 10, oA 73 (.un .not (.t 72))] [0, 3, 5, 8, 64, 65, 73])
(.cond (.t 73)
  (.seq (.region [oA 2 (.mov (.c (.bool false)))] [2])
.ret)
  .skip)))
(.seq (.region [oM 75 5, oA 76 (.call F.ring_Ring_Pick [.t 75]), oM 74 76, oA 77 (.ext 0 (.t 74)), oA 78 (.ext 1 (.t 74)), oM 11 77, oM 12 78] [0, 3, 5, 8, 11, 12, 64, 65])
(.seq (.seq (.region [oM 79 12, oA 80 (.un .not (.t 79)), oM 81 80, oF 82 81 (aM 11), oF 83 81 (aC .lss 82 1), oA 84 (.pick (.t 81) (.c (.bool true)) (.t 83)), oM 85 84, oF 86 85 (aM 11), oF 87 85 (aM 0), oF 88 85 (.len (.t 87)), oF 89 85 (aB .gtr 86 88), oA 90 (.pick (.t 85) (.c (.bool true)) (.t 89))] [0, 3, 5, 8, 11, 64, 65, 90])
(.cond (.t 90)
  (.seq (.region [oA 2 (.mov (.c (.bool false)))] [2])
.ret)
  .skip))
(.region [oM 91 8, oM 92 11, oA 93 (aX 1 91 92), oA 94 (aL 93), oA 95 (aC .add 94 1), oA 96 (aX 1 91 92), oN (.store 1 (.t 96) (.t 95))] [0, 3, 5, 8, 64, 65])))) [0, 3, 5, 8, 64, 65])
(.region [oA 97 (aC .add 65 1), oM 65 97] [0, 3, 5, 8, 64, 65]))))
def RB.top_TopTwo_3 : RCode :=
  (.seq (.seq (.region [oM 43 7, oM 44 0, oA 45 (.len (.t 44)), oA 46 (aB .lss 43 45)] [0, 3, 5, 7, 46])
(.cond (.t 46)
  .skip
  (.exit 0)))
(.seq (.block 1
  (.seq (.region [oM 49 5, oM 50 7, oA 51 (aC .add 50 1), oM 52 0, oM 53 7, oA 54 (aX 2 52 53), oA 55 (.fieldAddr 1 (.t 54)), oA 56 (aL 55), oA 57 (.call F.ring_Ring_Join [.t 49, .t 51, .t 56]), oA 58 (aC .neq 57 0)] [0, 3, 5, 7, 58])
(.cond (.t 58)
  (.seq (.region [oA 2 (.mov (.c (.bool false)))] [2])
.ret)
  .skip)) [0, 3, 5, 7])
(.region [oM 47 7, oA 48 (aC .add 47 1), oM 7 48] [0, 3, 5, 7])))
def RC.top_TopTwo : RFn := ⟨1, [.slot 2],
  (.seq (.region [oA 2 (.mov (.c (.bool false)))] [0])
(.seq (.region [oM 16 0, oM 17 0, oA 18 (.len (.t 17)), oA 19 (.minmax false [.t 18, .c (.int .i64 30)]), oA 20 (.sub 2 (.t 16) none (some (.t 19)) none), oM 0 20] [0])
(.seq (.region [oM 22 0, oA 23 (.call F.local_New [.c (.int .i64 64), .t 22]), oM 21 23, oA 24 (.ext 0 (.t 21)), oA 25 (.ext 1 (.t 21)), oM 3 24, oM 4 25] [0, 3, 4])
(.seq (.region [oA 27 (.call F.ring_New [.c (.int .i64 2048)]), oM 26 27, oA 28 (.ext 0 (.t 26)), oA 29 (.ext 1 (.t 26)), oM 5 28, oM 6 29] [0, 3, 4, 5, 6])
(.seq (.seq (.region [oM 30 4, oA 31 (aC .neq 30 0), oM 32 31, oF 33 32 (aM 3), oF 34 32 (.eq false .ptr (.t 33) (.c (.pointer none))), oA 35 (.pick (.t 32) (.c (.bool true)) (.t 34))] [0, 3, 5, 6, 35])
(.cond (.t 35)
  (.seq (.region [oA 36 (.call F.top_begins20 []), oM 2 36] [2])
.ret)
  .skip))
(.seq (.seq (.region [oM 37 6, oA 38 (aC .neq 37 0), oM 39 38, oF 40 39 (aM 5), oF 41 39 (.eq false .ptr (.t 40) (.c (.pointer none))), oA 42 (.pick (.t 39) (.c (.bool true)) (.t 41))] [0, 3, 5, 42])
(.cond (.t 42)
  (.seq (.region [oA 2 (.mov (.c (.bool false)))] [2])
.ret)
  .skip))
(.seq (.seq (.region [oI 7 0] [0, 3, 5, 7])
(.block 0
  (.loop [0, 3, 5, 7] RB.top_TopTwo_3) [0, 3, 5]))
(.seq (.region [oM 59 0, oA 60 (.len (.t 59)), oA 61 (aC .add 60 1), oA 62 (.mkslice 1 8 [i0] (.t 61) (.t 61)), oM 8 62] [0, 3, 5, 8])
(.seq (.seq (.region [oM 63 3, oA 64 (.call F.local_Local_Total [.t 63]), oI 65 0] [0, 3, 5, 8, 64, 65])
(.block 2
  (.loop [0, 3, 5, 8, 64, 65] RB.top_TopTwo_2) [0, 3, 8]))
(.seq (.seq (.region [oI 13 0] [0, 3, 8, 13])
(.block 4
  (.loop [0, 3, 8, 13] RB.top_TopTwo_1) []))
(.seq (.region [oA 134 (.call F.top_begins20 []), oM 2 134] [2])
.ret)))))))))))⟩

def RB.local_New_1 : RCode :=
  (.seq (.region [oA 35 (aB .lss 34 33)] [9, 32, 33, 34, 35])
(.seq (.cond (.t 35)
  .skip
  (.exit 0))
(.seq (.block 1
  (.seq (.region [oA 36 (aX 2 32 34), oA 37 (.load true 2 (.t 36)), oA 11 (.alloc [i0, i0]), oN (.store 2 (.t 11) (.t 37))] [9, 11, 32, 33, 34])
(.drawn [oM 38 9, oM 39 9, oA 40 (.nilchk (.t 39)), oA 41 (.fieldAddr 0 (.t 40)), oA 42 (aL 41), oA 43 (.load true 2 (.t 11)), oA 44 (.build [i0, i0, i0] [(0, 2, .t 43)]), oA 45 (.bslice [i0, i0, i0] [(0, 3, .t 44)] 1 3), oA 46 (.app 3 24 (.t 42) (.t 45)), oA 47 (.nilchk (.t 38)), oA 48 (.fieldAddr 0 (.t 47)), oN (.store 1 (.t 48) (.t 46))] [[], [], [1], [2], [3], [], [5], [6], [4, 7], [0, 0, 1, 2, 3, 4, 5, 6, 7, 8], [9, 0, 1, 2, 3, 4, 5, 6, 7, 8], [10, 8, 8, 0, 1, 2, 3, 4, 5, 6, 7, 8]] [(0, []), (1, []), (2, []), (3, []), (4, []), (5, []), (6, []), (7, []), (8, []), (9, []), (10, []), (11, [])] (ancs [[],[],[1],[2],[3],[],[5],[6],[4,7],[0,0,1,2,3,4,5,6,7,8],[9,0,1,2,3,4,5,6,7,8],[10,8,8,0,1,2,3,4,5,6,7,8]]) [9, 32, 33, 34])) [9, 32, 33, 34])
(.region [oA 49 (aC .add 34 1), oM 34 49] [9, 32, 33, 34]))))
def RC.local_New : RFn := ⟨2, [.slot 4, .slot 5],
  (.seq (.region [oA 4 (.mov (.c (.pointer none))), oI 5 0] [0, 1])
(.seq (.seq (.region [oM 12 0, oM 13 1, oA 14 (.call F.order_Check [.t 12, .t 13]), oM 6 14] [0, 1, 6])
(.seq (.region [oM 15 6, oA 16 (aC .neq 15 0)] [0, 1, 6, 16])
(.cond (.t 16)
  (.seq (.region [oM 17 6, oA 4 (.mov (.c (.pointer none))), oM 5 17] [4, 5])
.ret)
  .skip)))
(.seq (.seq (.region [oM 19 1, oA 20 (.call F.order_Total [.t 19]), oM 18 20, oA 21 (.ext 0 (.t 18)), oA 22 (.ext 1 (.t 18)), oM 7 21, oM 8 22] [0, 1, 7, 8])
(.seq (.region [oM 23 8, oA 24 (aC .neq 23 0), oM 25 24, oF 26 25 (aM 7), oF 27 25 (aM 0), oF 28 25 (aB .gtr 26 27), oA 29 (.pick (.t 25) (.c (.bool true)) (.t 28))] [1, 29])
(.cond (.t 29)
  (.seq (.region [oA 4 (.mov (.c (.pointer none))), oI 5 12] [4, 5])
.ret)
  .skip)))
(.seq (.region [oA 30 (.build [nS] []), oA 31 (.box (.t 30)), oM 9 31] [1, 9])
(.seq (.seq (.region [oM 32 1, oA 33 (.len (.t 32)), oI 34 0] [9, 32, 33, 34])
(.block 0
  (.loop [9, 32, 33, 34] RB.local_New_1) [9]))
(.seq (.region [oM 50 9, oA 51 (.nilchk (.t 50)), oA 52 (.fieldAddr 0 (.t 51)), oA 53 (aL 52), oA 54 (.call F.slices_SortFunc_local_entry_local_entry [.t 53, .f F.local_New_1])] [9])
(.seq (.region [oM 55 9, oM 4 55, oI 5 0] [4, 5])
.ret)))))))⟩

def RC.ring_New : RFn := ⟨1, [.slot 2, .slot 3],
  (.seq (.region [oA 2 (.mov (.c (.pointer none))), oI 3 0] [0])
(.seq (.seq (.region [oM 4 0, oA 5 (aC .lss 4 2048), oM 6 5, oF 7 6 (aM 0), oF 8 6 (aC .gtr 7 1099511627776), oA 9 (.pick (.t 6) (.c (.bool true)) (.t 8))] [0, 9])
(.cond (.t 9)
  (.seq (.region [oA 2 (.mov (.c (.pointer none))), oI 3 1] [2, 3])
.ret)
  .skip))
(.seq (.region [oM 10 0, oA 11 (.conv .u64 (.t 10)), oA 12 (.build [(u64 0#64), (u64 0#64)] [(0, 1, .c (u64 0#64)), (1, 1, .c (u64 1#64))]), oA 13 (.build [(u64 0#64), nS, (u64 0#64), (u64 0#64)] [(0, 1, .t 11), (2, 2, .t 12)]), oA 14 (.box (.t 13)), oM 2 14, oI 3 0] [2, 3])
.ret)))⟩

def RC.top_begins20 : RFn := ⟨0, [.slot 0],
  (.seq (.region [oA 0 (.mov (.c (.bool false)))] [])
(.seq (.region [oA 11 (.build [i0, i0] [(0, 1, .c (.int .i64 1)), (1, 1, .c (.int .i64 3))]), oA 12 (.build [i0, i0] [(0, 1, .c (.int .i64 2)), (1, 1, .c (.int .i64 3))]), oA 13 (.build [i0, i0] [(0, 1, .c (.int .i64 3)), (1, 1, .c (.int .i64 2))]), oA 14 (.bslice [i0, i0, i0, i0, i0, i0] [(0, 2, .t 11), (2, 2, .t 12), (4, 2, .t 13)] 3 2), oA 15 (.call F.pack_Full [.c (.int .i64 4), .c (u32 3#32), .t 14]), oM 10 15, oA 16 (.ext 0 (.t 10)), oA 17 (.ext 1 (.t 10)), oA 1 (.alloc [i0, (u32 0#32), nS]), oN (.store 3 (.t 1) (.t 16)), oM 2 17] [1, 2])
(.seq (.region [oA 19 (.load true 3 (.t 1)), oA 20 (.call F.table_Of [.t 19]), oM 18 20, oA 21 (.ext 0 (.t 18)), oA 22 (.ext 1 (.t 18)), oM 3 21, oM 4 22] [1, 2, 3, 4])
(.seq (.region [oA 24 (.build [i0, (u32 0#32), nS] [(0, 1, .c (.int .i64 4)), (1, 1, .c (u32 1#32))]), oA 25 (.build [i0, i0] [(0, 1, .c (.int .i64 1)), (1, 1, .c (.int .i64 3))]), oA 26 (.bslice [i0, i0] [(0, 2, .t 25)] 1 2), oA 27 (.call F.ffd_Fit [.t 24, .t 26]), oM 23 27, oA 28 (.ext 0 (.t 23)), oA 29 (.ext 1 (.t 23)), oA 30 (.ext 2 (.t 23)), oA 5 (.alloc [i0, (u32 0#32), nS]), oN (.store 3 (.t 5) (.t 28)), oM 6 29, oM 7 30] [1, 2, 3, 4, 6, 7])
(.seq (.region [oA 32 (.build [i0, i0] [(0, 1, .c (.int .i64 1)), (1, 1, .c (.int .i64 3))]), oA 33 (.bslice [i0, i0] [(0, 2, .t 32)] 1 2), oA 34 (.call F.local_New [.c (.int .i64 4), .t 33]), oM 31 34, oA 35 (.ext 0 (.t 31)), oA 36 (.ext 1 (.t 31)), oM 8 35, oM 9 36] [1, 2, 3, 4, 6, 7, 8, 9])
(.seq (.seq (.region [oM 37 9, oA 38 (aC .neq 37 0), oM 39 38, oF 40 39 (aM 8), oF 41 39 (.eq false .ptr (.t 40) (.c (.pointer none))), oA 42 (.pick (.t 39) (.c (.bool true)) (.t 41))] [1, 2, 3, 4, 6, 7, 8, 42])
(.cond (.t 42)
  (.seq (.region [oA 0 (.mov (.c (.bool false)))] [0])
.ret)
  .skip))
(.seq (.region [oM 43 2, oA 44 (aC .eql 43 0), oM 45 44, oT 46 45 (aM 4), oT 47 45 (aC .eql 46 0), oA 48 (.pick (.t 45) (.t 47) (.c (.bool false))), oM 49 48, oT 50 49 (aM 3), oT 51 49 (.len (.t 50)), oT 52 49 (aC .eql 51 2), oA 53 (.pick (.t 49) (.t 52) (.c (.bool false))), oM 54 53, oT 55 54 (aM 6), oT 56 54 (.len (.t 55)), oT 57 54 (aC .eql 56 0), oA 58 (.pick (.t 54) (.t 57) (.c (.bool false))), oM 59 58, oT 60 59 (aM 7), oT 61 59 (aC .eql 60 0), oA 62 (.pick (.t 59) (.t 61) (.c (.bool false))), oM 63 62, oT 64 63 (aM 8), oT 65 63 (.call F.local_Local_Total [.t 64]), oT 66 63 (aC .eql 65 3), oA 67 (.pick (.t 63) (.t 66) (.c (.bool false))), oM 68 67, oT 69 68 (.load true 3 (.t 1)), oT 70 68 (.call F.chain_Rooms [.t 69]), oT 71 68 (.len (.t 70)), oT 72 68 (aC .eql 71 16), oA 73 (.pick (.t 68) (.t 72) (.c (.bool false))), oM 0 73] [0])
.ret)))))))⟩

def RC.ring_Ring_Join : RFn := ⟨3, [.slot 6],
  (.seq (.region [oI 6 0] [0, 1, 2])
(.seq (.block 0
  (.seq (.region [oM 11 0, oA 12 (.call F.ring_Ring_none [.t 11]), oM 10 12] [0, 1, 2, 10])
(.cond (.t 10)
  (.seq (.region [oI 6 2] [6])
.ret)
  (.seq (.region [oM 14 1, oA 15 (aC .lss 14 1), oM 16 15, oF 17 16 (aM 1), oF 18 16 (aC .gtr 17 200), oA 19 (.pick (.t 16) (.c (.bool true)) (.t 18)), oM 13 19] [0, 1, 2, 13])
(.cond (.t 13)
  (.seq (.region [oI 6 20] [6])
.ret)
  (.seq (.region [oM 21 2, oA 22 (.call F.ring_weight [.t 21]), oA 23 (.un .not (.t 22)), oM 20 23] [0, 1, 2, 20])
(.cond (.t 20)
  (.seq (.region [oI 6 22] [6])
.ret)
  .skip)))))) [0, 1, 2])
(.seq (.region [oM 25 0, oM 26 1, oA 27 (.call F.ring_Ring_find [.t 25, .t 26]), oM 24 27, oA 28 (.ext 0 (.t 24)), oA 29 (.ext 1 (.t 24)), oM 7 28, oM 8 29] [0, 1, 2, 7, 8])
(.seq (.block 1
  (.seq (.region [oM 31 8, oM 30 31] [0, 1, 2, 7, 30])
(.cond (.t 30)
  (.seq (.region [oI 6 11] [6])
.ret)
  (.seq (.region [oM 33 0, oA 34 (.nilchk (.t 33)), oA 35 (.fieldAddr 1 (.t 34)), oA 36 (aL 35), oA 37 (.len (.t 36)), oA 38 (aC .geq 37 32), oM 32 38] [0, 1, 2, 7, 32])
(.cond (.t 32)
  (.seq (.region [oI 6 13] [6])
.ret)
  .skip)))) [0, 1, 2, 7])
(.seq (.region [oM 39 1, oM 40 2, oA 41 (.conv .u64 (.t 40)), oM 42 0, oA 43 (.call F.ring_Ring_floor [.t 42]), oM 44 2, oA 45 (.conv .u64 (.t 44)), oA 46 (.call F.ring_low [.t 43, .t 45]), oA 47 (.build [i0, (u64 0#64), (u64 0#64), (.bool false)] [(0, 1, .t 39), (1, 1, .t 41), (2, 1, .t 46), (3, 1, .c (.bool true))]), oA 9 (.alloc [i0, (u64 0#64), (u64 0#64), (.bool false)]), oN (.store 4 (.t 9) (.t 47))] [0, 7, 9])
(.seq (.drawn [oM 48 0, oM 49 0, oA 50 (.nilchk (.t 49)), oA 51 (.fieldAddr 1 (.t 50)), oA 52 (aL 51), oM 53 7, oA 54 (.load true 4 (.t 9)), oA 55 (.bslice [i0, (u64 0#64), (u64 0#64), (.bool false)] [(0, 4, .t 54)] 1 4), oA 56 (.call F.slices_Insert_ring_member_ring_member [.t 52, .t 53, .t 55]), oA 57 (.nilchk (.t 48)), oA 58 (.fieldAddr 1 (.t 57)), oN (.store 1 (.t 58) (.t 56))] [[], [], [1], [2], [3], [], [], [6], [4, 5, 7], [0, 0, 1, 2, 3, 4, 5, 6, 7, 8], [9, 0, 1, 2, 3, 4, 5, 6, 7, 8], [10, 8, 8, 0, 1, 2, 3, 4, 5, 6, 7, 8]] [(0, []), (1, []), (2, []), (3, []), (5, []), (4, []), (6, []), (7, []), (8, []), (9, []), (10, []), (11, [])] (ancs [[],[],[1],[2],[3],[],[],[6],[4,5,7],[0,0,1,2,3,4,5,6,7,8],[9,0,1,2,3,4,5,6,7,8],[10,8,8,0,1,2,3,4,5,6,7,8]]) [])
(.seq (.region [oI 6 0] [6])
.ret)))))))⟩

def RC.local_Local_Total : RFn := ⟨1, [.slot 2],
  (.seq (.region [oI 2 0] [0])
(.seq (.region [oM 6 0, oA 7 (.call F.local_Local_Wants [.t 6]), oA 8 (.call F.order_Total [.t 7]), oM 5 8, oA 9 (.ext 0 (.t 5)), oA 10 (.ext 1 (.t 5)), oM 3 9, oM 4 10] [3])
(.seq (.region [oM 11 3, oM 2 11] [2])
.ret)))⟩

def RB.local_Local_Pick_1 : RCode :=
  (.seq (.region [oA 17 (aB .lss 16 15)] [0, 1, 6, 14, 15, 16, 17])
(.seq (.cond (.t 17)
  .skip
  (.exit 0))
(.seq (.block 1
  (.seq (.region [oM 18 16, oA 19 (aX 3 14 16), oA 20 (.load true 3 (.t 19)), oA 8 (.alloc [i0, i0, i0]), oM 7 18, oN (.store 3 (.t 8) (.t 20))] [0, 1, 6, 7, 8, 14, 15, 16])
(.seq (.seq (.region [oM 21 1, oA 22 (.fieldAddr 0 (.t 8)), oA 23 (.fieldAddr 0 (.t 22)), oA 24 (aL 23), oA 25 (.call F.slices_Contains_int_int [.t 21, .t 24])] [0, 1, 6, 7, 8, 14, 15, 16, 25])
(.cond (.t 25)
  (.exit 1)
  .skip))
(.seq (.drawn [oM 26 6, oA 27 (aC .lss 26 0), oM 28 27, oF 29 28 (.load true 3 (.t 8)), oF 30 28 (aM 0), oF 31 28 (.nilchk (.t 30)), oF 32 28 (.fieldAddr 0 (.t 31)), oF 33 28 (aL 32), oF 34 28 (aM 6), oF 35 28 (aX 3 33 34), oF 36 28 (.load true 3 (.t 35)), oF 37 28 (.call F.local_ahead [.t 29, .t 36]), oA 38 (.pick (.t 28) (.c (.bool true)) (.t 37))] [[], [0], [1], [2], [2], [4, 2], [5, 2], [6, 2], [2], [7, 8, 2], [9, 2], [3, 10, 2, 2], [2, 11]] [(0, []), (1, []), (2, []), (4, []), (5, []), (6, []), (8, []), (3, []), (7, []), (9, []), (10, []), (11, []), (12, [])] (ancs [[],[0],[1],[2],[2],[4,2],[5,2],[6,2],[2],[7,8,2],[9,2],[3,10,2,2],[2,11]]) [0, 1, 6, 7, 14, 15, 16, 38])
(.cond (.t 38)
  (.region [oM 39 7, oM 6 39] [0, 1, 6, 14, 15, 16])
  .skip)))) [0, 1, 6, 14, 15, 16])
(.region [oA 40 (aC .add 16 1), oM 16 40] [0, 1, 6, 14, 15, 16]))))
def RC.local_Local_Pick : RFn := ⟨2, [.slot 4, .slot 5],
  (.seq (.region [oI 4 0, oA 5 (.mov (.c (.bool false)))] [0, 1])
(.seq (.seq (.region [oM 9 0, oA 10 (.eq false .ptr (.t 9) (.c (.pointer none)))] [0, 1, 10])
(.cond (.t 10)
  (.seq (.region [oI 4 0, oA 5 (.mov (.c (.bool false)))] [4, 5])
.ret)
  .skip))
(.seq (.region [oI 6 (-1)] [0, 1, 6])
(.seq (.seq (.region [oM 11 0, oA 12 (.nilchk (.t 11)), oA 13 (.fieldAddr 0 (.t 12)), oA 14 (aL 13), oA 15 (.len (.t 14)), oI 16 0] [0, 1, 6, 14, 15, 16])
(.block 0
  (.loop [0, 1, 6, 14, 15, 16] RB.local_Local_Pick_1) [0, 6]))
(.seq (.seq (.region [oM 41 6, oA 42 (aC .lss 41 0)] [0, 6, 42])
(.cond (.t 42)
  (.seq (.region [oI 4 0, oA 5 (.mov (.c (.bool false)))] [4, 5])
.ret)
  .skip))
(.seq (.region [oM 43 0, oA 44 (.nilchk (.t 43)), oA 45 (.fieldAddr 0 (.t 44)), oA 46 (aL 45), oM 47 6, oA 48 (aX 3 46 47), oA 49 (.fieldAddr 2 (.t 48)), oA 50 (aL 49), oA 51 (aC .add 50 1), oA 52 (aX 3 46 47), oA 53 (.fieldAddr 2 (.t 52)), oN (.store 1 (.t 53) (.t 51))] [0, 6])
(.seq (.region [oM 54 0, oA 55 (.nilchk (.t 54)), oA 56 (.fieldAddr 0 (.t 55)), oA 57 (aL 56), oM 58 6, oA 59 (aX 3 57 58), oA 60 (.fieldAddr 0 (.t 59)), oA 61 (.fieldAddr 0 (.t 60)), oA 62 (aL 61), oM 4 62, oA 5 (.mov (.c (.bool true)))] [4, 5])
.ret)))))))⟩

def RC.ring_Ring_Pick : RFn := ⟨1, [.slot 2, .slot 3],
  (.seq (.region [oI 2 0, oA 3 (.mov (.c (.bool false)))] [0])
(.seq (.seq (.region [oM 7 0, oA 8 (.call F.ring_Ring_none [.t 7])] [0, 8])
(.cond (.t 8)
  (.seq (.region [oI 2 0, oA 3 (.mov (.c (.bool false)))] [2, 3])
.ret)
  .skip))
(.seq (.region [oM 10 0, oA 11 (.call F.ring_Ring_least [.t 10]), oM 9 11, oA 12 (.ext 0 (.t 9)), oA 13 (.ext 1 (.t 9)), oM 4 12, oM 5 13] [0, 4, 5])
(.seq (.seq (.region [oM 14 5, oA 15 (.un .not (.t 14))] [0, 4, 15])
(.cond (.t 15)
  (.seq (.region [oI 2 0, oA 3 (.mov (.c (.bool false)))] [2, 3])
.ret)
  .skip))
(.seq (.region [oM 16 0, oA 17 (.nilchk (.t 16)), oA 18 (.fieldAddr 1 (.t 17)), oA 19 (aL 18), oM 20 4, oA 21 (aX 4 19 20), oA 22 (.fieldAddr 0 (.t 21)), oA 23 (aL 22), oM 6 23] [0, 4, 6])
(.seq (.region [oM 24 0, oA 25 (.nilchk (.t 24)), oA 26 (.fieldAddr 1 (.t 25)), oA 27 (aL 26), oM 28 4, oA 29 (aX 4 27 28), oA 30 (.fieldAddr 2 (.t 29)), oA 31 (aL 30), oA 32 (.bin .add (.t 31) (.c (u64 1#64))), oA 33 (aX 4 27 28), oA 34 (.fieldAddr 2 (.t 33)), oN (.store 1 (.t 34) (.t 32))] [0, 4, 6])
(.seq (.seq (.drawn [oM 35 0, oA 36 (.nilchk (.t 35)), oA 37 (.fieldAddr 1 (.t 36)), oA 38 (aL 37), oM 39 4, oA 40 (aX 4 38 39), oA 41 (.fieldAddr 2 (.t 40)), oA 42 (aL 41), oM 43 0, oA 44 (.nilchk (.t 43)), oA 45 (.fieldAddr 0 (.t 44)), oA 46 (aL 45), oA 47 (aB .geq 42 46)] [[], [0], [1], [2], [], [3, 4], [5], [6], [], [8], [9], [10], [7, 11]] [(0, []), (1, []), (2, []), (4, []), (8, []), (9, []), (10, []), (3, []), (5, []), (6, []), (7, []), (11, []), (12, [])] (ancs [[],[0],[1],[2],[],[3,4],[5],[6],[],[8],[9],[10],[7,11]]) [0, 6, 47])
(.cond (.t 47)
  (.region [oM 48 0, oA 49 (.call F.ring_Ring_rebase [.t 48])] [6])
  .skip))
(.seq (.region [oM 50 6, oM 2 50, oA 3 (.mov (.c (.bool true)))] [2, 3])
.ret))))))))⟩

def RC.local_Local_Got : RFn := ⟨2, [.slot 4, .slot 5],
  (.seq (.region [oI 4 0, oA 5 (.mov (.c (.bool false)))] [0, 1])
(.seq (.region [oM 7 0, oM 8 1, oA 9 (.call F.local_Local_find [.t 7, .t 8]), oM 6 9] [0, 6])
(.seq (.seq (.region [oM 10 6, oA 11 (aC .lss 10 0)] [0, 6, 11])
(.cond (.t 11)
  (.seq (.region [oI 4 0, oA 5 (.mov (.c (.bool false)))] [4, 5])
.ret)
  .skip))
(.seq (.region [oM 12 0, oA 13 (.nilchk (.t 12)), oA 14 (.fieldAddr 0 (.t 13)), oA 15 (aL 14), oM 16 6, oA 17 (aX 3 15 16), oA 18 (.fieldAddr 2 (.t 17)), oA 19 (aL 18), oM 4 19, oA 5 (.mov (.c (.bool true)))] [4, 5])
.ret))))⟩

def RB.order_Check_1 : RCode :=
  (.seq (.region [oA 23 (aB .lss 22 21)] [0, 5, 20, 21, 22, 23])
(.seq (.cond (.t 23)
  .skip
  (.exit 0))
(.seq (.block 1
  (.seq (.region [oA 24 (aX 2 20 22), oA 25 (.load true 2 (.t 24)), oA 7 (.alloc [i0, i0]), oN (.store 2 (.t 7) (.t 25))] [0, 5, 7, 20, 21, 22])
(.seq (.seq (.region [oA 27 (.fieldAddr 0 (.t 7)), oA 28 (aL 27), oA 29 (.call F.order_Kind [.t 28]), oM 26 29, oA 30 (.ext 0 (.t 26)), oA 31 (.ext 1 (.t 26)), oA 32 (.ext 2 (.t 26)), oM 8 30, oM 9 31, oM 10 32] [0, 5, 7, 10, 20, 21, 22])
(.seq (.region [oM 33 10, oA 34 (.un .not (.t 33))] [0, 5, 7, 20, 21, 22, 34])
(.cond (.t 34)
  (.seq (.region [oI 4 20] [4])
.ret)
  .skip)))
(.seq (.seq (.region [oA 35 (.fieldAddr 1 (.t 7)), oA 36 (aL 35), oA 37 (aC .lss 36 1), oM 38 37, oF 39 38 (.fieldAddr 1 (.t 7)), oF 40 38 (aL 39), oF 41 38 (aM 0), oF 42 38 (aB .gtr 40 41), oA 43 (.pick (.t 38) (.c (.bool true)) (.t 42))] [0, 5, 7, 20, 21, 22, 43])
(.cond (.t 43)
  (.seq (.region [oI 4 21] [4])
.ret)
  .skip))
(.seq (.seq (.region [oM 45 5, oA 46 (.fieldAddr 0 (.t 7)), oA 47 (aL 46), oA 48 (.look .int (.agg #[]) true (.t 45) (.t 47)), oM 44 48, oA 49 (.ext 0 (.t 44)), oA 50 (.ext 1 (.t 44)), oA 11 (.alloc []), oN (.store 0 (.t 11) (.t 49)), oM 12 50] [0, 5, 7, 12, 20, 21, 22])
(.seq (.region [oM 51 12] [0, 5, 7, 20, 21, 22, 51])
(.cond (.t 51)
  (.seq (.region [oI 4 11] [4])
.ret)
  .skip)))
(.region [oM 52 5, oA 53 (.fieldAddr 0 (.t 7)), oA 54 (aL 53), oA 55 (.build [] []), oN (.upd .int (.t 52) (.t 54) (.t 55))] [0, 5, 20, 21, 22]))))) [0, 5, 20, 21, 22])
(.region [oA 56 (aC .add 22 1), oM 22 56] [0, 5, 20, 21, 22]))))
def RC.order_Check : RFn := ⟨2, [.slot 4],
  (.seq (.region [oI 4 0] [0, 1])
(.seq (.seq (.region [oM 13 0, oA 14 (aC .lss 13 2), oM 15 14, oF 16 15 (aM 0), oF 17 15 (aC .gtr 16 64), oA 18 (.pick (.t 15) (.c (.bool true)) (.t 17))] [0, 1, 18])
(.cond (.t 18)
  (.seq (.region [oI 4 1] [4])
.ret)
  .skip))
(.seq (.region [oA 19 (.mkmap), oM 5 19] [0, 1, 5])
(.seq (.seq (.region [oM 20 1, oA 21 (.len (.t 20)), oI 22 0] [0, 5, 20, 21, 22])
(.block 0
  (.loop [0, 5, 20, 21, 22] RB.order_Check_1) []))
(.seq (.region [oI 4 0] [4])
.ret)))))⟩

def RB.order_Total_1 : RCode :=
  (.seq (.region [oA 12 (aB .lss 11 10)] [4, 9, 10, 11, 12])
(.seq (.cond (.t 12)
  .skip
  (.exit 0))
(.seq (.block 1
  (.seq (.region [oA 13 (aX 2 9 11), oA 14 (.load true 2 (.t 13)), oA 6 (.alloc [i0, i0]), oN (.store 2 (.t 6) (.t 14))] [4, 6, 9, 10, 11])
(.seq (.region [oM 16 4, oA 17 (.fieldAddr 1 (.t 6)), oA 18 (aL 17), oA 19 (.call F.fixq_Add [.t 16, .t 18]), oM 15 19, oA 20 (.ext 0 (.t 15)), oA 21 (.ext 1 (.t 15)), oM 7 20, oM 8 21] [7, 8, 9, 10, 11])
(.seq (.seq (.region [oM 22 8, oA 23 (aC .neq 22 0)] [7, 8, 9, 10, 11, 23])
(.cond (.t 23)
  (.seq (.region [oM 24 8, oI 2 0, oM 3 24] [2, 3])
.ret)
  .skip))
(.region [oM 25 7, oM 4 25] [4, 9, 10, 11])))) [4, 9, 10, 11])
(.region [oA 26 (aC .add 11 1), oM 11 26] [4, 9, 10, 11]))))
def RC.order_Total : RFn := ⟨1, [.slot 2, .slot 3],
  (.seq (.region [oI 2 0, oI 3 0] [0])
(.seq (.region [oI 4 0] [0, 4])
(.seq (.seq (.region [oM 9 0, oA 10 (.len (.t 9)), oI 11 0] [4, 9, 10, 11])
(.block 0
  (.loop [4, 9, 10, 11] RB.order_Total_1) [4]))
(.seq (.region [oM 27 4, oM 2 27, oI 3 0] [2, 3])
.ret))))⟩

def RC.slices_SortFunc_local_entry_local_entry : RFn := ⟨2, [],
  (.seq (.region [oM 5 0, oA 6 (.len (.t 5)), oM 4 6] [0, 1, 4])
(.region [oM 7 0, oM 8 4, oM 9 4, oA 10 (.conv .u64 (.t 9)), oA 11 (.call F.math_bits_Len [.t 10]), oM 12 1, oA 13 (.call F.slices_pdqsortCmpFunc_local_entry [.t 7, .c i0, .t 8, .t 11, .t 12])] []))⟩

def RC.local_New_1 : RFn := ⟨2, [.slot 4],
  (.seq (.region [oA 2 (.box (.t 0)), oA 3 (.box (.t 1)), oI 4 0] [2, 3])
(.seq (.region [oA 5 (.fieldAddr 0 (.t 2)), oA 6 (.fieldAddr 0 (.t 5)), oA 7 (aL 6), oA 8 (.fieldAddr 0 (.t 3)), oA 9 (.fieldAddr 0 (.t 8)), oA 10 (aL 9), oA 11 (.call F.cmp_Compare_int [.t 7, .t 10]), oM 4 11] [4])
.ret))⟩

def RC.cmp_Compare_int : RFn := ⟨2, [.slot 4],
  (.seq (.region [oI 4 0] [0, 1])
(.seq (.region [oM 7 0, oA 8 (.call F.cmp_isNaN_int [.t 7]), oM 5 8] [0, 1, 5])
(.seq (.region [oM 9 1, oA 10 (.call F.cmp_isNaN_int [.t 9]), oM 6 10] [0, 1, 5, 6])
(.seq (.seq (.region [oM 11 5] [0, 1, 6, 11])
(.cond (.t 11)
  (.seq (.seq (.region [oM 12 6] [12])
(.cond (.t 12)
  (.seq (.region [oI 4 0] [4])
.ret)
  .skip))
(.seq (.region [oI 4 (-1)] [4])
.ret))
  .skip))
(.seq (.seq (.region [oM 13 6] [0, 1, 13])
(.cond (.t 13)
  (.seq (.region [oI 4 1] [4])
.ret)
  .skip))
(.seq (.seq (.region [oM 14 0, oM 15 1, oA 16 (aB .lss 14 15)] [0, 1, 16])
(.cond (.t 16)
  (.seq (.region [oI 4 (-1)] [4])
.ret)
  .skip))
(.seq (.seq (.region [oM 17 0, oM 18 1, oA 19 (aB .gtr 17 18)] [19])
(.cond (.t 19)
  (.seq (.region [oI 4 1] [4])
.ret)
  .skip))
(.seq (.region [oI 4 0] [4])
.ret))))))))⟩

def RC.pack_Full : RFn := ⟨3, [.cell 6 true 3, .slot 7],
  (.seq (.region [oA 6 (.alloc [i0, (u32 0#32), nS]), oI 7 0] [0, 1, 2, 6])
(.seq (.seq (.region [oM 12 0, oM 13 1, oM 14 2, oA 15 (.call F.pack_why [.t 12, .t 13, .t 14]), oM 8 15] [0, 1, 2, 6, 8])
(.seq (.region [oM 16 8, oA 17 (aC .neq 16 0)] [0, 1, 2, 6, 8, 17])
(.cond (.t 17)
  (.seq (.region [oA 18 (.build [i0, (u32 0#32), nS] []), oM 19 8, oN (.store 3 (.t 6) (.t 18)), oM 7 19] [6, 7])
.ret)
  .skip)))
(.seq (.region [oM 21 0, oM 22 1, oA 23 (.build [i0, (u32 0#32), nS] [(0, 1, .t 21), (1, 1, .t 22)]), oM 24 2, oA 25 (.call F.ffd_Fit [.t 23, .t 24]), oM 20 25, oA 26 (.ext 0 (.t 20)), oA 27 (.ext 1 (.t 20)), oA 28 (.ext 2 (.t 20)), oA 9 (.alloc [i0, (u32 0#32), nS]), oN (.store 3 (.t 9) (.t 26)), oM 10 27, oM 11 28] [6, 9, 10, 11])
(.seq (.seq (.region [oM 29 11, oA 30 (aC .neq 29 0)] [6, 9, 10, 11, 30])
(.cond (.t 30)
  (.seq (.region [oA 31 (.build [i0, (u32 0#32), nS] []), oM 32 11, oN (.store 3 (.t 6) (.t 31)), oM 7 32] [6, 7])
.ret)
  .skip))
(.seq (.region [oA 33 (.load true 3 (.t 9)), oM 34 10, oA 35 (.call F.chain_Split [.t 33, .t 34]), oA 36 (.ext 0 (.t 35)), oA 37 (.ext 1 (.t 35)), oN (.store 3 (.t 6) (.t 36)), oM 7 37] [6, 7])
.ret)))))⟩

def RB.table_Of_1 : RCode :=
  (.seq (.region [oA 58 (aB .lss 57 56)] [1, 5, 7, 8, 10, 21, 22, 23, 36, 37, 38, 43, 44, 45, 55, 56, 57, 58])
(.seq (.cond (.t 58)
  .skip
  (.exit 6))
(.seq (.block 7
  (.seq (.region [oA 59 (aX 1 55 57), oA 60 (aL 59), oM 14 60] [1, 5, 7, 8, 10, 14, 21, 22, 23, 36, 37, 38, 43, 44, 45, 55, 56, 57])
(.region [oA 61 (.fieldAddr 1 (.t 8)), oA 62 (aL 61), oM 63 14, oA 64 (.fieldAddr 0 (.t 10)), oA 65 (aL 64), oA 66 (aX 1 62 63), oN (.store 1 (.t 66) (.t 65))] [1, 5, 7, 8, 10, 21, 22, 23, 36, 37, 38, 43, 44, 45, 55, 56, 57])) [1, 5, 7, 8, 10, 21, 22, 23, 36, 37, 38, 43, 44, 45, 55, 56, 57])
(.region [oA 67 (aC .add 57 1), oM 57 67] [1, 5, 7, 8, 10, 21, 22, 23, 36, 37, 38, 43, 44, 45, 55, 56, 57]))))
def RB.table_Of_2 : RCode :=
  (.seq (.region [oA 46 (aB .lss 45 44)] [1, 5, 7, 8, 10, 21, 22, 23, 36, 37, 38, 43, 44, 45, 46])
(.seq (.cond (.t 46)
  .skip
  (.exit 4))
(.seq (.block 5
  (.seq (.region [oA 47 (aX 2 43 45), oA 48 (.load true 2 (.t 47)), oA 12 (.alloc [i0, (u64 0#64)]), oN (.store 2 (.t 12) (.t 48))] [1, 5, 7, 8, 10, 12, 21, 22, 23, 36, 37, 38, 43, 44, 45])
(.seq (.seq (.region [oA 49 (.fieldAddr 0 (.t 12)), oA 50 (aL 49), oM 51 7, oA 52 (aB .neq 50 51)] [1, 5, 7, 8, 10, 12, 21, 22, 23, 36, 37, 38, 43, 44, 45, 52])
(.cond (.t 52)
  (.exit 5)
  .skip))
(.seq (.region [oA 53 (.fieldAddr 1 (.t 12)), oA 54 (aL 53), oA 55 (.call F.mask_Ticks [.t 54]), oA 56 (.len (.t 55)), oI 57 0] [1, 5, 7, 8, 10, 21, 22, 23, 36, 37, 38, 43, 44, 45, 55, 56, 57])
(.block 6
  (.loop [1, 5, 7, 8, 10, 21, 22, 23, 36, 37, 38, 43, 44, 45, 55, 56, 57] RB.table_Of_1) [1, 5, 7, 8, 10, 21, 22, 23, 36, 37, 38, 43, 44, 45])))) [1, 5, 7, 8, 10, 21, 22, 23, 36, 37, 38, 43, 44, 45])
(.region [oA 68 (aC .add 45 1), oM 45 68] [1, 5, 7, 8, 10, 21, 22, 23, 36, 37, 38, 43, 44, 45]))))
def RB.table_Of_3 : RCode :=
  (.seq (.region [oA 39 (aB .lss 38 37)] [1, 5, 7, 8, 21, 22, 23, 36, 37, 38, 39])
(.seq (.cond (.t 39)
  .skip
  (.exit 2))
(.seq (.block 3
  (.seq (.region [oA 40 (aX 4 36 38), oA 41 (.load true 4 (.t 40)), oA 10 (.alloc [i0, i0, i0, nS]), oN (.store 4 (.t 10) (.t 41))] [1, 5, 7, 8, 10, 21, 22, 23, 36, 37, 38])
(.seq (.region [oA 42 (.fieldAddr 3 (.t 10)), oA 43 (aL 42), oA 44 (.len (.t 43)), oI 45 0] [1, 5, 7, 8, 10, 21, 22, 23, 36, 37, 38, 43, 44, 45])
(.block 4
  (.loop [1, 5, 7, 8, 10, 21, 22, 23, 36, 37, 38, 43, 44, 45] RB.table_Of_2) [1, 5, 7, 8, 21, 22, 23, 36, 37, 38]))) [1, 5, 7, 8, 21, 22, 23, 36, 37, 38])
(.region [oA 69 (aC .add 38 1), oM 38 69] [1, 5, 7, 8, 21, 22, 23, 36, 37, 38]))))
def RB.table_Of_4 : RCode :=
  (.seq (.region [oA 24 (aB .lss 23 22)] [1, 5, 21, 22, 23, 24])
(.seq (.cond (.t 24)
  .skip
  (.exit 0))
(.seq (.block 1
  (.seq (.region [oA 25 (aX 1 21 23), oA 26 (aL 25), oM 7 26] [1, 5, 7, 21, 22, 23])
(.seq (.drawn [oM 27 7, oA 28 (.fieldAddr 0 (.t 1)), oA 29 (aL 28), oA 30 (.mkslice 1 8 [i0] (.t 29) (.t 29)), oA 31 (.load true 3 (.t 1)), oM 32 7, oA 33 (.call F.plan_Wholes [.t 31, .t 32]), oA 34 (.build [i0, nS, nS] [(0, 1, .t 27), (1, 1, .t 30), (2, 1, .t 33)]), oA 8 (.alloc [i0, nS, nS]), oN (.store 3 (.t 8) (.t 34))] [[], [], [1], [2, 2], [], [], [4, 5], [0, 3, 6], [], [8, 7, 6, 0, 1, 2, 3, 4, 5, 6, 7, 8]] [(0, []), (1, []), (5, []), (2, []), (4, []), (6, [28]), (3, []), (7, []), (8, []), (9, [])] (ancs [[],[],[1],[2,2],[],[],[4,5],[0,3,6],[],[8,7,6,0,1,2,3,4,5,6,7,8]]) [1, 5, 7, 8, 21, 22, 23])
(.seq (.seq (.region [oA 35 (.fieldAddr 2 (.t 1)), oA 36 (aL 35), oA 37 (.len (.t 36)), oI 38 0] [1, 5, 7, 8, 21, 22, 23, 36, 37, 38])
(.block 2
  (.loop [1, 5, 7, 8, 21, 22, 23, 36, 37, 38] RB.table_Of_3) [1, 5, 8, 21, 22, 23]))
(.region [oM 70 5, oA 71 (.load true 3 (.t 8)), oA 72 (.bslice [i0, nS, nS] [(0, 3, .t 71)] 1 3), oA 73 (.app 3 56 (.t 70) (.t 72)), oM 5 73] [1, 5, 21, 22, 23])))) [1, 5, 21, 22, 23])
(.region [oA 74 (aC .add 23 1), oM 23 74] [1, 5, 21, 22, 23]))))
def RC.table_Of : RFn := ⟨1, [.slot 2, .slot 3],
  (.seq (.region [oA 1 (.box (.t 0)), oA 2 (.mov (.c nS)), oI 3 0] [1])
(.seq (.seq (.region [oA 15 (.load true 3 (.t 1)), oA 16 (.call F.plan_Check [.t 15]), oM 4 16] [1, 4])
(.seq (.region [oM 17 4, oA 18 (aC .neq 17 0)] [1, 4, 18])
(.cond (.t 18)
  (.seq (.region [oM 19 4, oA 2 (.mov (.c nS)), oM 3 19] [2, 3])
.ret)
  .skip)))
(.seq (.region [oA 5 (.mov (.c nS))] [1, 5])
(.seq (.seq (.region [oA 20 (.load true 3 (.t 1)), oA 21 (.call F.plan_Cores [.t 20]), oA 22 (.len (.t 21)), oI 23 0] [1, 5, 21, 22, 23])
(.block 0
  (.loop [1, 5, 21, 22, 23] RB.table_Of_4) [5]))
(.seq (.region [oM 75 5, oM 2 75, oI 3 0] [2, 3])
.ret)))))⟩

def RB.ffd_Fit_1 : RCode :=
  (.seq (.region [oA 54 (aB .lss 53 52)] [2, 4, 13, 51, 52, 53, 54])
(.seq (.cond (.t 54)
  .skip
  (.exit 2))
(.seq (.block 3
  (.seq (.region [oA 55 (aX 2 51 53), oA 56 (.load true 2 (.t 55)), oA 15 (.alloc [i0, i0]), oN (.store 2 (.t 15) (.t 56))] [2, 4, 13, 15, 51, 52, 53])
(.seq (.region [oA 58 (.load true 3 (.t 2)), oA 59 (.fieldAddr 1 (.t 15)), oA 60 (aL 59), oA 61 (.call F.ffd_first [.t 58, .t 60]), oM 57 61, oA 62 (.ext 0 (.t 57)), oA 63 (.ext 1 (.t 57)), oM 16 62, oM 17 63] [2, 4, 13, 15, 16, 17, 51, 52, 53])
(.seq (.seq (.region [oM 64 17, oA 65 (.un .not (.t 64))] [2, 4, 13, 15, 16, 51, 52, 53, 65])
(.cond (.t 65)
  (.seq (.region [oM 66 13, oA 67 (.load true 2 (.t 15)), oA 68 (.bslice [i0, i0] [(0, 2, .t 67)] 1 2), oA 69 (.app 2 16 (.t 66) (.t 68)), oM 13 69] [2, 4, 13, 51, 52, 53])
(.exit 3))
  .skip))
(.region [oA 70 (.load true 3 (.t 2)), oA 71 (.fieldAddr 0 (.t 15)), oA 72 (aL 71), oA 73 (.fieldAddr 1 (.t 15)), oA 74 (aL 73), oM 75 16, oA 76 (.build [i0, i0, i0, nS] [(0, 1, .t 72), (1, 1, .t 74), (2, 1, .t 75)]), oA 77 (.call F.plan_Put [.t 70, .t 76]), oN (.store 3 (.t 2) (.t 77))] [2, 4, 13, 51, 52, 53])))) [2, 4, 13, 51, 52, 53])
(.region [oA 78 (aC .add 53 1), oM 53 78] [2, 4, 13, 51, 52, 53]))))
def RB.ffd_Fit_2 : RCode :=
  (.seq (.region [oA 35 (aB .lss 34 33)] [1, 2, 4, 32, 33, 34, 35])
(.seq (.cond (.t 35)
  .skip
  (.exit 0))
(.seq (.block 1
  (.seq (.region [oA 36 (aX 2 32 34), oA 37 (.load true 2 (.t 36)), oA 10 (.alloc [i0, i0]), oN (.store 2 (.t 10) (.t 37))] [1, 2, 4, 10, 32, 33, 34])
(.seq (.region [oA 39 (.load true 3 (.t 2)), oA 40 (.fieldAddr 0 (.t 10)), oA 41 (aL 40), oA 42 (.call F.plan_Find [.t 39, .t 41]), oM 38 42, oA 43 (.ext 0 (.t 38)), oA 44 (.ext 1 (.t 38)), oA 11 (.alloc [i0, i0, i0, nS]), oN (.store 4 (.t 11) (.t 43)), oM 12 44] [1, 2, 4, 12, 32, 33, 34])
(.seq (.region [oM 45 12] [1, 2, 4, 32, 33, 34, 45])
(.cond (.t 45)
  (.seq (.region [oA 46 (.build [i0, (u32 0#32), nS] []), oN (.store 3 (.t 4) (.t 46)), oA 5 (.mov (.c nS)), oI 6 11] [4, 5, 6])
.ret)
  .skip)))) [1, 2, 4, 32, 33, 34])
(.region [oA 47 (aC .add 34 1), oM 34 47] [1, 2, 4, 32, 33, 34]))))
def RC.ffd_Fit : RFn := ⟨2, [.cell 4 true 3, .slot 5, .slot 6],
  (.seq (.region [oA 2 (.box (.t 0)), oA 4 (.alloc [i0, (u32 0#32), nS]), oA 5 (.mov (.c nS)), oI 6 0] [1, 2, 4])
(.seq (.seq (.region [oA 18 (.load true 3 (.t 2)), oA 19 (.call F.plan_Check [.t 18]), oM 7 19] [1, 2, 4, 7])
(.seq (.region [oM 20 7, oA 21 (aC .neq 20 0)] [1, 2, 4, 7, 21])
(.cond (.t 21)
  (.seq (.region [oA 22 (.build [i0, (u32 0#32), nS] []), oM 23 7, oN (.store 3 (.t 4) (.t 22)), oA 5 (.mov (.c nS)), oM 6 23] [4, 5, 6])
.ret)
  .skip)))
(.seq (.seq (.region [oA 24 (.fieldAddr 0 (.t 2)), oA 25 (aL 24), oM 26 1, oA 27 (.call F.order_Check [.t 25, .t 26]), oM 8 27] [1, 2, 4, 8])
(.seq (.region [oM 28 8, oA 29 (aC .neq 28 0)] [1, 2, 4, 8, 29])
(.cond (.t 29)
  (.seq (.region [oA 30 (.build [i0, (u32 0#32), nS] []), oM 31 8, oN (.store 3 (.t 4) (.t 30)), oA 5 (.mov (.c nS)), oM 6 31] [4, 5, 6])
.ret)
  .skip)))
(.seq (.seq (.region [oM 32 1, oA 33 (.len (.t 32)), oI 34 0] [1, 2, 4, 32, 33, 34])
(.block 0
  (.loop [1, 2, 4, 32, 33, 34] RB.ffd_Fit_2) [1, 2, 4]))
(.seq (.region [oA 48 (.load true 3 (.t 2)), oA 49 (.call F.plan_Drop [.t 48, .c i0]), oN (.store 3 (.t 2) (.t 49))] [1, 2, 4])
(.seq (.region [oA 13 (.mov (.c nS))] [1, 2, 4, 13])
(.seq (.seq (.region [oM 50 1, oA 51 (.call F.order_Sort [.t 50]), oA 52 (.len (.t 51)), oI 53 0] [2, 4, 13, 51, 52, 53])
(.block 2
  (.loop [2, 4, 13, 51, 52, 53] RB.ffd_Fit_1) [2, 4, 13]))
(.seq (.region [oA 79 (.load true 3 (.t 2)), oM 80 13, oN (.store 3 (.t 4) (.t 79)), oM 5 80, oI 6 0] [4, 5, 6])
.ret))))))))⟩

def RB.chain_Rooms_1 : RCode :=
  (.seq (.region [oA 14 (aB .lss 13 12)] [1, 3, 11, 12, 13, 14])
(.seq (.cond (.t 14)
  .skip
  (.exit 0))
(.seq (.block 1
  (.seq (.region [oA 15 (aX 1 11 13), oA 16 (aL 15), oM 5 16] [1, 3, 5, 11, 12, 13])
(.region [oM 17 3, oM 18 5, oA 19 (.load true 3 (.t 1)), oM 20 5, oA 21 (.call F.plan_Room [.t 19, .t 20]), oA 22 (aX 1 17 18), oN (.store 1 (.t 22) (.t 21))] [1, 3, 11, 12, 13])) [1, 3, 11, 12, 13])
(.region [oA 23 (aC .add 13 1), oM 13 23] [1, 3, 11, 12, 13]))))
def RC.chain_Rooms : RFn := ⟨1, [.slot 2],
  (.seq (.region [oA 1 (.box (.t 0)), oA 2 (.mov (.c nS))] [1])
(.seq (.seq (.region [oA 6 (.load true 3 (.t 1)), oA 7 (.call F.plan_Check [.t 6]), oA 8 (aC .neq 7 0)] [1, 8])
(.cond (.t 8)
  (.seq (.region [oA 2 (.mov (.c nS))] [2])
.ret)
  .skip))
(.seq (.region [oA 9 (.mkslice 1 8 [i0] (.c (.int .i64 16)) (.c (.int .i64 16))), oM 3 9] [1, 3])
(.seq (.seq (.region [oA 10 (.load true 3 (.t 1)), oA 11 (.call F.plan_Cores [.t 10]), oA 12 (.len (.t 11)), oI 13 0] [1, 3, 11, 12, 13])
(.block 0
  (.loop [1, 3, 11, 12, 13] RB.chain_Rooms_1) [3]))
(.seq (.region [oM 24 3, oM 2 24] [2])
.ret)))))⟩

def RC.ring_Ring_none : RFn := ⟨1, [.slot 2],
  (.seq (.region [oA 2 (.mov (.c (.bool false)))] [0])
(.seq (.region [oM 3 0, oA 4 (.eq false .ptr (.t 3) (.c (.pointer none))), oM 5 4, oF 6 5 (aM 0), oF 7 5 (.nilchk (.t 6)), oF 8 5 (.fieldAddr 0 (.t 7)), oF 9 5 (aL 8), oF 10 5 (.bin .eql (.t 9) (.c (u64 0#64))), oA 11 (.pick (.t 5) (.c (.bool true)) (.t 10)), oM 2 11] [2])
.ret))⟩

def RC.ring_weight : RFn := ⟨1, [.slot 2],
  (.seq (.region [oA 2 (.mov (.c (.bool false)))] [0])
(.seq (.region [oM 3 0, oA 4 (aC .geq 3 1), oM 5 4, oT 6 5 (aM 0), oT 7 5 (aC .leq 6 1000), oA 8 (.pick (.t 5) (.t 7) (.c (.bool false))), oM 2 8] [2])
.ret))⟩

def RC.ring_Ring_find : RFn := ⟨2, [.slot 4, .slot 5],
  (.seq (.region [oI 4 0, oA 5 (.mov (.c (.bool false)))] [0, 1])
(.seq (.region [oM 6 0, oA 7 (.nilchk (.t 6)), oA 8 (.fieldAddr 1 (.t 7)), oA 9 (aL 8), oM 10 1, oA 11 (.call F.slices_BinarySearchFunc_ring_member_ring_member_int [.t 9, .t 10, .f F.ring_Ring_find_1]), oA 12 (.ext 0 (.t 11)), oA 13 (.ext 1 (.t 11)), oM 4 12, oM 5 13] [4, 5])
.ret))⟩

def RC.ring_low : RFn := ⟨2, [.slot 4],
  (.seq (.region [oA 2 (.box (.t 0)), oA 4 (.mov (.c (u64 0#64)))] [1, 2])
(.seq (.region [oA 8 (.fieldAddr 0 (.t 2)), oA 9 (aL 8), oM 10 1, oA 11 (.fieldAddr 1 (.t 2)), oA 12 (aL 11), oA 13 (.call F.fixq_Ceil [.t 9, .t 10, .t 12]), oM 7 13, oA 14 (.ext 0 (.t 7)), oA 15 (.ext 1 (.t 7)), oM 5 14, oM 6 15] [5])
(.seq (.region [oM 16 5, oM 4 16] [4])
.ret)))⟩

def RC.ring_Ring_floor : RFn := ⟨1, [.cell 2 true 2],
  (.seq (.region [oA 2 (.alloc [(u64 0#64), (u64 0#64)])] [0, 2])
(.seq (.seq (.region [oM 6 0, oA 7 (.call F.ring_Ring_least [.t 6]), oM 5 7, oA 8 (.ext 0 (.t 5)), oA 9 (.ext 1 (.t 5)), oM 3 8, oM 4 9] [0, 2, 3, 4])
(.seq (.region [oM 10 4] [0, 2, 3, 10])
(.cond (.t 10)
  (.seq (.drawn [oM 11 0, oA 12 (.nilchk (.t 11)), oA 13 (.fieldAddr 1 (.t 12)), oA 14 (aL 13), oM 15 3, oA 16 (aX 4 14 15), oA 17 (.fieldAddr 2 (.t 16)), oA 18 (aL 17), oM 19 0, oA 20 (.nilchk (.t 19)), oA 21 (.fieldAddr 1 (.t 20)), oA 22 (aL 21), oM 23 3, oA 24 (aX 4 22 23), oA 25 (.fieldAddr 1 (.t 24)), oA 26 (aL 25), oA 27 (.build [(u64 0#64), (u64 0#64)] [(0, 1, .t 18), (1, 1, .t 26)]), oN (.store 2 (.t 2) (.t 27))] [[], [0], [1], [2], [], [3, 4], [5], [6], [], [8], [9], [10], [], [11, 12], [13], [14], [7, 15], [16, 0, 1, 2, 3, 4, 5, 6, 7, 8, 9, 10, 11, 12, 13, 14, 15, 16]] [(0, []), (1, []), (2, []), (4, []), (8, []), (9, []), (10, []), (12, []), (3, []), (5, []), (6, []), (7, []), (11, []), (13, []), (14, []), (15, []), (16, []), (17, [])] (ancs [[],[0],[1],[2],[],[3,4],[5],[6],[],[8],[9],[10],[],[11,12],[13],[14],[7,15],[16,0,1,2,3,4,5,6,7,8,9,10,11,12,13,14,15,16]]) [2])
.ret)
  .skip)))
(.seq (.region [oM 28 0, oA 29 (.nilchk (.t 28)), oA 30 (.fieldAddr 2 (.t 29)), oA 31 (.load true 2 (.t 30)), oN (.store 2 (.t 2) (.t 31))] [2])
.ret)))⟩

def RB.local_Local_Wants_1 : RCode :=
  (.seq (.region [oA 14 (aB .lss 13 12)] [3, 11, 12, 13, 14])
(.seq (.cond (.t 14)
  .skip
  (.exit 0))
(.seq (.block 1
  (.seq (.region [oA 15 (aX 3 11 13), oA 16 (.load true 3 (.t 15)), oA 5 (.alloc [i0, i0, i0]), oN (.store 3 (.t 5) (.t 16))] [3, 5, 11, 12, 13])
(.region [oM 17 3, oA 18 (.fieldAddr 0 (.t 5)), oA 19 (.load true 2 (.t 18)), oA 20 (.bslice [i0, i0] [(0, 2, .t 19)] 1 2), oA 21 (.app 2 16 (.t 17) (.t 20)), oM 3 21] [3, 11, 12, 13])) [3, 11, 12, 13])
(.region [oA 22 (aC .add 13 1), oM 13 22] [3, 11, 12, 13]))))
def RC.local_Local_Wants : RFn := ⟨1, [.slot 2],
  (.seq (.region [oA 2 (.mov (.c nS))] [0])
(.seq (.seq (.region [oM 6 0, oA 7 (.eq false .ptr (.t 6) (.c (.pointer none)))] [0, 7])
(.cond (.t 7)
  (.seq (.region [oA 2 (.mov (.c nS))] [2])
.ret)
  .skip))
(.seq (.region [oA 3 (.mov (.c nS))] [0, 3])
(.seq (.seq (.region [oM 8 0, oA 9 (.nilchk (.t 8)), oA 10 (.fieldAddr 0 (.t 9)), oA 11 (aL 10), oA 12 (.len (.t 11)), oI 13 0] [3, 11, 12, 13])
(.block 0
  (.loop [3, 11, 12, 13] RB.local_Local_Wants_1) [3]))
(.seq (.region [oM 23 3, oM 2 23] [2])
.ret)))))⟩

def RC.slices_Contains_int_int : RFn := ⟨2, [.slot 4],
  (.seq (.region [oA 4 (.mov (.c (.bool false)))] [0, 1])
(.seq (.region [oM 5 0, oM 6 1, oA 7 (.call F.slices_Index_int_int [.t 5, .t 6]), oA 8 (aC .geq 7 0), oM 4 8] [4])
.ret))⟩

def RC.local_ahead : RFn := ⟨2, [.slot 4],
  (.seq (.region [oA 2 (.box (.t 0)), oA 3 (.box (.t 1)), oA 4 (.mov (.c (.bool false)))] [2, 3])
(.seq (.region [oA 8 (.fieldAddr 2 (.t 2)), oA 9 (aL 8), oA 10 (aC .add 9 1), oA 11 (.conv .u64 (.t 10)), oA 12 (.fieldAddr 0 (.t 2)), oA 13 (.fieldAddr 1 (.t 12)), oA 14 (aL 13), oA 15 (.conv .u64 (.t 14)), oA 16 (.fieldAddr 2 (.t 3)), oA 17 (aL 16), oA 18 (aC .add 17 1), oA 19 (.conv .u64 (.t 18)), oA 20 (.fieldAddr 0 (.t 3)), oA 21 (.fieldAddr 1 (.t 20)), oA 22 (aL 21), oA 23 (.conv .u64 (.t 22)), oA 24 (.call F.fixq_Compare [.t 11, .t 15, .t 19, .t 23]), oM 7 24, oA 25 (.ext 0 (.t 7)), oA 26 (.ext 1 (.t 7)), oM 5 25, oM 6 26] [5])
(.seq (.region [oM 27 5, oA 28 (aC .lss 27 0), oM 4 28] [4])
.ret)))⟩

def RB.ring_Ring_least_1 : RCode :=
  (.seq (.region [oA 16 (aB .lss 15 14)] [0, 4, 5, 13, 14, 15, 16])
(.seq (.cond (.t 16)
  .skip
  (.exit 0))
(.seq (.block 1
  (.seq (.region [oM 17 15, oA 18 (aX 4 13 15), oA 19 (.load true 4 (.t 18)), oA 7 (.alloc [i0, (u64 0#64), (u64 0#64), (.bool false)]), oM 6 17, oN (.store 4 (.t 7) (.t 19))] [0, 4, 5, 6, 7, 13, 14, 15])
(.seq (.seq (.region [oA 20 (.fieldAddr 3 (.t 7)), oA 21 (aL 20), oA 22 (.un .not (.t 21))] [0, 4, 5, 6, 7, 13, 14, 15, 22])
(.cond (.t 22)
  (.exit 1)
  .skip))
(.seq (.drawn [oA 24 (.fieldAddr 2 (.t 7)), oA 25 (aL 24), oA 26 (.fieldAddr 1 (.t 7)), oA 27 (aL 26), oM 28 0, oA 29 (.nilchk (.t 28)), oA 30 (.fieldAddr 1 (.t 29)), oA 31 (aL 30), oM 32 4, oA 33 (aX 4 31 32), oA 34 (.fieldAddr 2 (.t 33)), oA 35 (aL 34), oM 36 0, oA 37 (.nilchk (.t 36)), oA 38 (.fieldAddr 1 (.t 37)), oA 39 (aL 38), oM 40 4, oA 41 (aX 4 39 40), oA 42 (.fieldAddr 1 (.t 41)), oA 43 (aL 42), oA 44 (.call F.fixq_Compare [.t 25, .t 27, .t 35, .t 43]), oM 23 44, oA 45 (.ext 0 (.t 23)), oA 46 (.ext 1 (.t 23)), oM 8 45, oM 9 46] [[], [0], [], [2], [], [4], [5], [6], [], [7, 8], [9], [10], [], [12], [13], [14], [], [15, 16], [17], [18], [1, 3, 11, 19], [20], [21], [21], [22, 20, 0, 1, 2, 3, 4, 5, 6, 7, 8, 9, 10, 11, 12, 13, 14, 15, 16, 17, 18, 19, 20, 21, 22], [23, 24, 0, 1, 2, 3, 4, 5, 6, 7, 8, 9, 10, 11, 12, 13, 14, 15, 16, 17, 18, 19, 20, 21, 22, 23, 24]] [(0, []), (2, []), (4, []), (5, []), (6, []), (8, []), (12, []), (13, []), (14, []), (16, []), (1, []), (3, []), (7, []), (9, []), (10, []), (11, []), (15, []), (17, []), (18, []), (19, []), (20, []), (21, []), (22, []), (23, []), (24, []), (25, [])] (ancs [[],[0],[],[2],[],[4],[5],[6],[],[7,8],[9],[10],[],[12],[13],[14],[],[15,16],[17],[18],[1,3,11,19],[20],[21],[21],[22,20,0,1,2,3,4,5,6,7,8,9,10,11,12,13,14,15,16,17,18,19,20,21,22],[23,24,0,1,2,3,4,5,6,7,8,9,10,11,12,13,14,15,16,17,18,19,20,21,22,23,24]]) [0, 4, 5, 6, 8, 13, 14, 15])
(.seq (.region [oM 47 5, oA 48 (.un .not (.t 47)), oM 49 48, oF 50 49 (aM 8), oF 51 49 (aC .lss 50 0), oA 52 (.pick (.t 49) (.c (.bool true)) (.t 51))] [0, 4, 5, 6, 13, 14, 15, 52])
(.cond (.t 52)
  (.region [oM 53 6, oM 4 53, oA 5 (.mov (.c (.bool true)))] [0, 4, 5, 13, 14, 15])
  .skip))))) [0, 4, 5, 13, 14, 15])
(.region [oA 54 (aC .add 15 1), oM 15 54] [0, 4, 5, 13, 14, 15]))))
def RC.ring_Ring_least : RFn := ⟨1, [.slot 2, .slot 3],
  (.seq (.region [oI 2 0, oA 3 (.mov (.c (.bool false)))] [0])
(.seq (.region [oI 4 0, oA 5 (.mov (.c (.bool false)))] [0, 4, 5])
(.seq (.seq (.region [oM 10 0, oA 11 (.nilchk (.t 10)), oA 12 (.fieldAddr 1 (.t 11)), oA 13 (aL 12), oA 14 (.len (.t 13)), oI 15 0] [0, 4, 5, 13, 14, 15])
(.block 0
  (.loop [0, 4, 5, 13, 14, 15] RB.ring_Ring_least_1) [4, 5]))
(.seq (.region [oM 55 4, oM 56 5, oM 2 55, oM 3 56] [2, 3])
.ret))))⟩

def RB.ring_Ring_rebase_1 : RCode :=
  (.seq (.region [oA 19 (aB .lss 18 17)] [0, 3, 16, 17, 18, 19])
(.seq (.cond (.t 19)
  .skip
  (.exit 0))
(.seq (.block 1
  (.seq (.region [oM 20 18, oA 21 (aX 4 16 18), oA 22 (.load true 4 (.t 21)), oA 5 (.alloc [i0, (u64 0#64), (u64 0#64), (.bool false)]), oM 4 20, oN (.store 4 (.t 5) (.t 22))] [0, 3, 4, 5, 16, 17, 18])
(.drawn [oM 23 0, oA 24 (.nilchk (.t 23)), oA 25 (.fieldAddr 1 (.t 24)), oA 26 (aL 25), oM 27 4, oA 28 (aX 4 26 27), oA 29 (.fieldAddr 2 (.t 28)), oA 30 (aL 29), oA 31 (.fieldAddr 2 (.t 5)), oA 32 (aL 31), oM 33 3, oA 34 (.fieldAddr 1 (.t 5)), oA 35 (aL 34), oA 36 (aB .mul 33 35), oA 37 (.minmax false [.t 32, .t 36]), oA 38 (aB .sub 30 37), oA 39 (aX 4 26 27), oA 40 (.fieldAddr 2 (.t 39)), oN (.store 1 (.t 40) (.t 38))] [[], [0], [1], [2], [], [3, 4], [5], [6], [], [8], [], [], [11], [10, 12], [9, 13], [7, 14], [3, 4, 0, 1, 2, 3, 4, 5, 6, 7, 8, 9, 10, 11, 12, 13, 14, 15], [16, 0, 1, 2, 3, 4, 5, 6, 7, 8, 9, 10, 11, 12, 13, 14, 15], [17, 15, 0, 1, 2, 3, 4, 5, 6, 7, 8, 9, 10, 11, 12, 13, 14, 15]] [(0, []), (1, []), (2, []), (4, []), (8, []), (10, []), (11, []), (3, []), (5, []), (6, []), (7, []), (9, []), (12, []), (13, []), (14, []), (15, []), (16, []), (17, []), (18, [])] (ancs [[],[0],[1],[2],[],[3,4],[5],[6],[],[8],[],[],[11],[10,12],[9,13],[7,14],[3,4,0,1,2,3,4,5,6,7,8,9,10,11,12,13,14,15],[16,0,1,2,3,4,5,6,7,8,9,10,11,12,13,14,15],[17,15,0,1,2,3,4,5,6,7,8,9,10,11,12,13,14,15]]) [0, 3, 16, 17, 18])) [0, 3, 16, 17, 18])
(.region [oA 41 (aC .add 18 1), oM 18 41] [0, 3, 16, 17, 18]))))
def RC.ring_Ring_rebase : RFn := ⟨1, [],
  (.seq (.region [oM 6 0, oA 7 (.call F.ring_Ring_floor [.t 6]), oA 2 (.alloc [(u64 0#64), (u64 0#64)]), oN (.store 2 (.t 2) (.t 7))] [0, 2])
(.seq (.region [oA 8 (.fieldAddr 0 (.t 2)), oA 9 (aL 8), oA 10 (.fieldAddr 1 (.t 2)), oA 11 (aL 10), oA 12 (aB .quo 9 11), oM 3 12] [0, 3])
(.seq (.region [oM 13 0, oA 14 (.nilchk (.t 13)), oA 15 (.fieldAddr 1 (.t 14)), oA 16 (aL 15), oA 17 (.len (.t 16)), oI 18 0] [0, 3, 16, 17, 18])
(.block 0
  (.loop [0, 3, 16, 17, 18] RB.ring_Ring_rebase_1) []))))⟩

def RC.local_Local_find : RFn := ⟨2, [.slot 4],
  (.seq (.region [oA 3 (.box (.t 1)), oI 4 0] [0, 3])
(.seq (.seq (.region [oM 5 0, oA 6 (.eq false .ptr (.t 5) (.c (.pointer none)))] [0, 3, 6])
(.cond (.t 6)
  (.seq (.region [oI 4 (-1)] [4])
.ret)
  .skip))
(.seq (.region [oM 7 0, oA 8 (.nilchk (.t 7)), oA 9 (.fieldAddr 0 (.t 8)), oA 10 (aL 9), oA 11 (.mkfn (.func F.local_Local_find_1) [] [.t 3]), oA 12 (.call F.slices_IndexFunc_local_entry_local_entry [.t 10, .t 11]), oM 4 12] [4])
.ret)))⟩

def RC.order_Kind : RFn := ⟨1, [.slot 2, .slot 3, .slot 4],
  (.seq (.region [oI 2 0, oA 3 (.mov (.c (.bool false))), oA 4 (.mov (.c (.bool false)))] [0])
(.seq (.block 0
  (.seq (.region [oM 6 0, oA 7 (aC .geq 6 1), oM 8 7, oT 9 8 (aM 0), oT 10 8 (aC .leq 9 200), oA 11 (.pick (.t 8) (.t 10) (.c (.bool false))), oM 5 11] [0, 5])
(.cond (.t 5)
  (.seq (.region [oM 12 0, oM 2 12, oA 3 (.mov (.c (.bool false))), oA 4 (.mov (.c (.bool true)))] [2, 3, 4])
.ret)
  (.seq (.region [oM 14 0, oA 15 (aC .gtr 14 1000), oM 16 15, oT 17 16 (aM 0), oT 18 16 (aC .leq 17 1040), oA 19 (.pick (.t 16) (.t 18) (.c (.bool false))), oM 13 19] [0, 13])
(.cond (.t 13)
  (.seq (.region [oM 20 0, oA 21 (aC .sub 20 1000), oM 2 21, oA 3 (.mov (.c (.bool true))), oA 4 (.mov (.c (.bool true)))] [2, 3, 4])
.ret)
  .skip)))) [])
(.seq (.region [oI 2 0, oA 3 (.mov (.c (.bool false))), oA 4 (.mov (.c (.bool false)))] [2, 3, 4])
.ret)))⟩

def RC.fixq_Add : RFn := ⟨2, [.slot 4, .slot 5],
  (.seq (.region [oI 4 0, oI 5 0] [0, 1])
(.seq (.region [oM 7 0, oM 8 1, oA 9 (aB .add 7 8), oM 6 9] [0, 1, 6])
(.seq (.seq (.region [oM 10 0, oA 11 (aC .geq 10 0), oM 12 1, oA 13 (aC .geq 12 0), oA 14 (.eq false .bool (.t 11) (.t 13)), oM 15 14, oT 16 15 (aM 6), oT 17 15 (aC .geq 16 0), oT 18 15 (aM 0), oT 19 15 (aC .geq 18 0), oT 20 15 (.eq true .bool (.t 17) (.t 19)), oA 21 (.pick (.t 15) (.t 20) (.c (.bool false)))] [6, 21])
(.cond (.t 21)
  (.seq (.region [oI 4 0, oI 5 5] [4, 5])
.ret)
  .skip))
(.seq (.region [oM 22 6, oM 4 22, oI 5 0] [4, 5])
.ret))))⟩

def RB.slices_pdqsortCmpFunc_local_entry_1 : RCode :=
  (.block 1
  (.seq (.region [oM 21 2, oM 22 1, oA 23 (aB .sub 21 22), oM 12 23] [0, 1, 2, 3, 4, 10, 11, 12])
(.seq (.seq (.region [oM 24 12, oA 25 (aC .leq 24 12)] [0, 1, 2, 3, 4, 10, 11, 12, 25])
(.cond (.t 25)
  (.seq (.region [oM 26 0, oM 27 1, oM 28 2, oM 29 4, oA 30 (.call F.slices_insertionSortCmpFunc_local_entry [.t 26, .t 27, .t 28, .t 29])] [])
.ret)
  .skip))
(.seq (.seq (.region [oM 31 3, oA 32 (aC .eql 31 0)] [0, 1, 2, 3, 4, 10, 11, 12, 32])
(.cond (.t 32)
  (.seq (.region [oM 33 0, oM 34 1, oM 35 2, oM 36 4, oA 37 (.call F.slices_heapSortCmpFunc_local_entry [.t 33, .t 34, .t 35, .t 36])] [])
.ret)
  .skip))
(.seq (.seq (.region [oM 38 10, oA 39 (.un .not (.t 38))] [0, 1, 2, 3, 4, 10, 11, 12, 39])
(.cond (.t 39)
  (.seq (.region [oM 40 0, oM 41 1, oM 42 2, oM 43 4, oA 44 (.call F.slices_breakPatternsCmpFunc_local_entry [.t 40, .t 41, .t 42, .t 43])] [0, 1, 2, 3, 4, 10, 11, 12])
(.region [oM 45 3, oA 46 (aC .sub 45 1), oM 3 46] [0, 1, 2, 3, 4, 10, 11, 12]))
  .skip))
(.seq (.region [oM 48 0, oM 49 1, oM 50 2, oM 51 4, oA 52 (.call F.slices_choosePivotCmpFunc_local_entry [.t 48, .t 49, .t 50, .t 51]), oM 47 52, oA 53 (.ext 0 (.t 47)), oA 54 (.ext 1 (.t 47)), oM 13 53, oM 14 54] [0, 1, 2, 3, 4, 10, 11, 12, 13, 14])
(.seq (.seq (.region [oM 55 14, oA 56 (aC .eql 55 2)] [0, 1, 2, 3, 4, 10, 11, 12, 13, 14, 56])
(.cond (.t 56)
  (.seq (.region [oM 57 0, oM 58 1, oM 59 2, oM 60 4, oA 61 (.call F.slices_reverseRangeCmpFunc_local_entry [.t 57, .t 58, .t 59, .t 60])] [0, 1, 2, 3, 4, 10, 11, 12, 13])
(.seq (.region [oM 62 2, oA 63 (aC .sub 62 1), oM 64 13, oM 65 1, oA 66 (aB .sub 64 65), oA 67 (aB .sub 63 66), oM 13 67] [0, 1, 2, 3, 4, 10, 11, 12, 13])
(.region [oI 14 1] [0, 1, 2, 3, 4, 10, 11, 12, 13, 14])))
  .skip))
(.seq (.seq (.region [oM 68 10, oM 69 68, oT 70 69 (aM 11), oA 71 (.pick (.t 69) (.t 70) (.c (.bool false))), oM 72 71, oT 73 72 (aM 14), oT 74 72 (aC .eql 73 1), oA 75 (.pick (.t 72) (.t 74) (.c (.bool false)))] [0, 1, 2, 3, 4, 10, 11, 12, 13, 75])
(.cond (.t 75)
  (.seq (.region [oM 76 0, oM 77 1, oM 78 2, oM 79 4, oA 80 (.call F.slices_partialInsertionSortCmpFunc_local_entry [.t 76, .t 77, .t 78, .t 79])] [0, 1, 2, 3, 4, 10, 11, 12, 13, 80])
(.cond (.t 80)
  .ret
  .skip))
  .skip))
(.seq (.seq (.drawn [oM 81 1, oA 82 (aC .gtr 81 0), oM 83 82, oT 84 83 (aM 4), oT 85 83 (aM 0), oT 86 83 (aM 1), oT 87 83 (aC .sub 86 1), oT 88 83 (aX 3 85 87), oT 89 83 (.load true 3 (.t 88)), oT 90 83 (aM 0), oT 91 83 (aM 13), oT 92 83 (aX 3 90 91), oT 93 83 (.load true 3 (.t 92)), oT 94 83 (.callv (.t 84) [.t 89, .t 93]), oT 95 83 (aC .lss 94 0), oT 96 83 (.un .not (.t 95)), oA 97 (.pick (.t 83) (.t 96) (.c (.bool false)))] [[], [0], [1], [2], [2], [2], [5, 2], [4, 6, 2], [7, 2], [2], [2], [9, 10, 2], [11, 2], [3, 8, 12, 2, 2], [13, 2], [14, 2], [2, 15]] [(0, []), (1, []), (2, []), (3, []), (4, []), (5, []), (6, []), (7, []), (9, []), (10, []), (11, []), (8, []), (12, []), (13, []), (14, []), (15, []), (16, [])] (ancs [[],[0],[1],[2],[2],[2],[5,2],[4,6,2],[7,2],[2],[2],[9,10,2],[11,2],[3,8,12,2,2],[13,2],[14,2],[2,15]]) [0, 1, 2, 3, 4, 10, 11, 12, 13, 97])
(.cond (.t 97)
  (.seq (.region [oM 98 0, oM 99 1, oM 100 2, oM 101 13, oM 102 4, oA 103 (.call F.slices_partitionEqualCmpFunc_local_entry [.t 98, .t 99, .t 100, .t 101, .t 102]), oM 15 103] [0, 2, 3, 4, 10, 11, 15])
(.seq (.region [oM 104 15, oM 1 104] [0, 1, 2, 3, 4, 10, 11])
(.exit 1)))
  .skip))
(.seq (.region [oM 106 0, oM 107 1, oM 108 2, oM 109 13, oM 110 4, oA 111 (.call F.slices_partitionCmpFunc_local_entry [.t 106, .t 107, .t 108, .t 109, .t 110]), oM 105 111, oA 112 (.ext 0 (.t 105)), oA 113 (.ext 1 (.t 105)), oM 16 112, oM 17 113] [0, 1, 2, 3, 4, 12, 16, 17])
(.seq (.region [oM 114 17, oM 11 114] [0, 1, 2, 3, 4, 11, 12, 16])
(.seq (.region [oM 115 16, oM 116 1, oA 117 (aB .sub 115 116), oM 118 2, oM 119 16, oA 120 (aB .sub 118 119), oM 18 117, oM 19 120] [0, 1, 2, 3, 4, 11, 12, 16, 18, 19])
(.seq (.region [oM 121 12, oA 122 (aC .quo 121 8), oM 20 122] [0, 1, 2, 3, 4, 11, 16, 18, 19, 20])
(.seq (.region [oM 123 18, oM 124 19, oA 125 (aB .lss 123 124)] [0, 1, 2, 3, 4, 11, 16, 18, 19, 20, 125])
(.cond (.t 125)
  (.seq (.region [oM 126 18, oM 127 20, oA 128 (aB .geq 126 127), oM 10 128] [0, 1, 2, 3, 4, 10, 11, 16])
(.seq (.region [oM 129 0, oM 130 1, oM 131 16, oM 132 3, oM 133 4, oA 134 (.call F.slices_pdqsortCmpFunc_local_entry [.t 129, .t 130, .t 131, .t 132, .t 133])] [0, 2, 3, 4, 10, 11, 16])
(.region [oM 135 16, oA 136 (aC .add 135 1), oM 1 136] [0, 1, 2, 3, 4, 10, 11])))
  (.seq (.region [oM 137 19, oM 138 20, oA 139 (aB .geq 137 138), oM 10 139] [0, 1, 2, 3, 4, 10, 11, 16])
(.seq (.region [oM 140 0, oM 141 16, oA 142 (aC .add 141 1), oM 143 2, oM 144 3, oM 145 4, oA 146 (.call F.slices_pdqsortCmpFunc_local_entry [.t 140, .t 142, .t 143, .t 144, .t 145])] [0, 1, 3, 4, 10, 11, 16])
(.region [oM 147 16, oM 2 147] [0, 1, 2, 3, 4, 10, 11]))))))))))))))))) [0, 1, 2, 3, 4, 10, 11])
def RC.slices_pdqsortCmpFunc_local_entry : RFn := ⟨5, [],
  (.seq (.region [oA 10 (.mov (.c (.bool true)))] [0, 1, 2, 3, 4, 10])
(.seq (.region [oA 11 (.mov (.c (.bool true)))] [0, 1, 2, 3, 4, 10, 11])
(.block 0
  (.loop [0, 1, 2, 3, 4, 10, 11] RB.slices_pdqsortCmpFunc_local_entry_1) [])))⟩

def RC.math_bits_Len : RFn := ⟨1, [.slot 2],
  (.seq (.region [oI 2 0] [0])
(.seq (.cond (.c (.bool false))
  (.seq (.region [oM 3 0, oA 4 (.conv .u32 (.t 3)), oA 5 (.call F.math_bits_Len32 [.t 4]), oM 2 5] [2])
.ret)
  .skip)
(.seq (.region [oM 6 0, oA 7 (.call F.math_bits_Len64 [.t 6]), oM 2 7] [2])
.ret)))⟩

def RC.cmp_isNaN_int : RFn := ⟨1, [.slot 2],
  (.seq (.region [oA 2 (.mov (.c (.bool false)))] [0])
(.seq (.region [oM 3 0, oM 4 0, oA 5 (aB .neq 3 4), oM 2 5] [2])
.ret))⟩

def RC.pack_why : RFn := ⟨3, [.slot 6],
  (.seq (.region [oI 6 0] [0, 1, 2])
(.seq (.region [oM 12 0, oM 13 1, oA 14 (.build [i0, (u32 0#32), nS] [(0, 1, .t 12), (1, 1, .t 13)]), oA 7 (.alloc [i0, (u32 0#32), nS]), oN (.store 3 (.t 7) (.t 14))] [0, 2, 7])
(.seq (.seq (.region [oA 15 (.load true 3 (.t 7)), oA 16 (.call F.plan_Check [.t 15]), oM 8 16] [0, 2, 7, 8])
(.seq (.region [oM 17 8, oA 18 (aC .neq 17 0)] [0, 2, 7, 8, 18])
(.cond (.t 18)
  (.seq (.region [oM 19 8, oM 6 19] [6])
.ret)
  .skip)))
(.seq (.seq (.region [oM 20 0, oM 21 2, oA 22 (.call F.order_Check [.t 20, .t 21]), oM 9 22] [0, 2, 7, 9])
(.seq (.region [oM 23 9, oA 24 (aC .neq 23 0)] [0, 2, 7, 9, 24])
(.cond (.t 24)
  (.seq (.region [oM 25 9, oM 6 25] [6])
.ret)
  .skip)))
(.seq (.seq (.region [oM 27 2, oA 28 (.call F.order_Total [.t 27]), oM 26 28, oA 29 (.ext 0 (.t 26)), oA 30 (.ext 1 (.t 26)), oM 10 29, oM 11 30] [0, 7, 10])
(.seq (.region [oM 31 10, oM 32 0, oA 33 (.load true 3 (.t 7)), oA 34 (.call F.plan_Cores [.t 33]), oA 35 (.len (.t 34)), oA 36 (aB .mul 32 35), oA 37 (aB .gtr 31 36)] [37])
(.cond (.t 37)
  (.seq (.region [oI 6 12] [6])
.ret)
  .skip)))
(.seq (.region [oI 6 0] [6])
.ret))))))⟩

def RB.chain_Split_1 : RCode :=
  (.seq (.region [oA 28 (aB .lss 27 26)] [2, 4, 7, 25, 26, 27, 28])
(.seq (.cond (.t 28)
  .skip
  (.exit 0))
(.seq (.block 1
  (.seq (.region [oA 29 (aX 2 25 27), oA 30 (.load true 2 (.t 29)), oA 9 (.alloc [i0, i0]), oN (.store 2 (.t 9) (.t 30))] [2, 4, 7, 9, 25, 26, 27])
(.drawn [oA 31 (.load true 3 (.t 2)), oM 32 7, oA 33 (.load true 2 (.t 9)), oA 34 (.call F.chain_chain_place [.t 32, .t 33]), oA 35 (.call F.plan_Put [.t 31, .t 34]), oN (.store 3 (.t 2) (.t 35))] [[], [], [], [1, 2], [0, 3, 3], [4, 4, 0, 1, 2, 3, 4]] [(1, []), (0, []), (2, []), (3, [2]), (4, []), (5, [])] (ancs [[],[],[],[1,2],[0,3,3],[4,4,0,1,2,3,4]]) [2, 4, 7, 25, 26, 27])) [2, 4, 7, 25, 26, 27])
(.region [oA 36 (aC .add 27 1), oM 27 36] [2, 4, 7, 25, 26, 27]))))
def RC.chain_Split : RFn := ⟨2, [.cell 4 true 3, .slot 5],
  (.seq (.region [oA 2 (.box (.t 0)), oA 4 (.alloc [i0, (u32 0#32), nS]), oI 5 0] [1, 2, 4])
(.seq (.seq (.region [oA 10 (.load true 3 (.t 2)), oM 11 1, oA 12 (.call F.chain_why [.t 10, .t 11]), oM 6 12] [1, 2, 4, 6])
(.seq (.region [oM 13 6, oA 14 (aC .neq 13 0)] [1, 2, 4, 6, 14])
(.cond (.t 14)
  (.seq (.region [oA 15 (.build [i0, (u32 0#32), nS] []), oM 16 6, oN (.store 3 (.t 4) (.t 15)), oM 5 16] [4, 5])
.ret)
  .skip)))
(.seq (.drawn [oA 17 (.fieldAddr 0 (.t 2)), oA 18 (aL 17), oA 19 (.load true 3 (.t 2)), oA 20 (.call F.chain_Rooms [.t 19]), oA 21 (.build [i0, nS, i0, i0] [(0, 1, .t 18), (1, 1, .t 20)]), oA 22 (.box (.t 21)), oM 7 22] [[], [0], [], [2], [1, 3], [4], [5, 3, 0, 1, 2, 3, 4, 5]] [(0, []), (1, []), (2, []), (3, [17]), (4, []), (5, []), (6, [])] (ancs [[],[0],[],[2],[1,3],[4],[5,3,0,1,2,3,4,5]]) [1, 2, 4, 7])
(.seq (.region [oA 23 (.load true 3 (.t 2)), oA 24 (.call F.plan_Drop [.t 23, .c i0]), oN (.store 3 (.t 2) (.t 24))] [1, 2, 4, 7])
(.seq (.seq (.region [oM 25 1, oA 26 (.len (.t 25)), oI 27 0] [2, 4, 7, 25, 26, 27])
(.block 0
  (.loop [2, 4, 7, 25, 26, 27] RB.chain_Split_1) [2, 4]))
(.seq (.region [oA 37 (.load true 3 (.t 2)), oN (.store 3 (.t 4) (.t 37)), oI 5 0] [4, 5])
.ret))))))⟩

def RB.plan_Check_1 : RCode :=
  (.seq (.region [oA 70 (aB .lss 69 68)] [1, 67, 68, 69, 70])
(.seq (.cond (.t 70)
  .skip
  (.exit 2))
(.seq (.block 3
  (.seq (.region [oA 71 (aX 1 67 69), oA 72 (aL 71), oM 6 72] [1, 6, 67, 68, 69])
(.seq (.region [oA 73 (.load true 3 (.t 1)), oM 74 6, oA 75 (.call F.plan_left [.t 73, .t 74]), oA 76 (aC .lss 75 0)] [1, 67, 68, 69, 76])
(.cond (.t 76)
  (.seq (.region [oI 2 30] [2])
.ret)
  .skip))) [1, 67, 68, 69])
(.region [oA 77 (aC .add 69 1), oM 69 77] [1, 67, 68, 69]))))
def RB.plan_Check_2 : RCode :=
  (.seq (.region [oA 30 (aB .lss 29 28)] [1, 27, 28, 29, 30])
(.seq (.cond (.t 30)
  .skip
  (.exit 0))
(.seq (.block 1
  (.seq (.region [oM 31 29, oA 32 (aX 4 27 29), oA 33 (.load true 4 (.t 32)), oA 4 (.alloc [i0, i0, i0, nS]), oM 3 31, oN (.store 4 (.t 4) (.t 33))] [1, 3, 4, 27, 28, 29])
(.seq (.drawn [oA 34 (.load true 3 (.t 1)), oA 35 (.load true 4 (.t 4)), oA 36 (.call F.plan_place [.t 34, .t 35]), oA 37 (.un .not (.t 36)), oM 38 37, oF 39 38 (aM 3), oF 40 38 (aC .gtr 39 0), oF 41 38 (aM 40), oT 42 41 (.fieldAddr 2 (.t 1)), oT 43 41 (aL 42), oT 44 41 (aM 3), oT 45 41 (aC .sub 44 1), oT 46 41 (aX 4 43 45), oT 47 41 (.fieldAddr 0 (.t 46)), oT 48 41 (aL 47), oT 49 41 (.fieldAddr 0 (.t 4)), oT 50 41 (aL 49), oT 51 41 (aB .geq 48 50), oF 52 38 (.pick (.t 41) (.t 51) (.c (.bool false))), oA 53 (.pick (.t 38) (.c (.bool true)) (.t 52))] [[], [], [0, 1], [2], [3, 2], [4], [5, 4], [6, 4, 4], [7], [8, 7], [7], [10, 7], [9, 11, 7], [12, 7], [13, 7], [7], [15, 7], [14, 16, 7], [7, 17, 4], [4, 18]] [(0, []), (1, []), (2, []), (3, []), (4, []), (5, []), (6, []), (7, []), (8, []), (10, []), (11, []), (15, []), (9, []), (12, []), (13, []), (14, []), (16, []), (17, []), (18, []), (19, [])] (ancs [[],[],[0,1],[2],[3,2],[4],[5,4],[6,4,4],[7],[8,7],[7],[10,7],[9,11,7],[12,7],[13,7],[7],[15,7],[14,16,7],[7,17,4],[4,18]]) [1, 27, 28, 29, 53])
(.cond (.t 53)
  (.seq (.region [oI 2 30] [2])
.ret)
  .skip))) [1, 27, 28, 29])
(.region [oA 54 (aC .add 29 1), oM 29 54] [1, 27, 28, 29]))))
def RC.plan_Check : RFn := ⟨1, [.slot 2],
  (.seq (.region [oA 1 (.box (.t 0)), oI 2 0] [1])
(.seq (.seq (.region [oA 7 (.fieldAddr 0 (.t 1)), oA 8 (aL 7), oA 9 (aC .lss 8 2), oM 10 9, oF 11 10 (.fieldAddr 0 (.t 1)), oF 12 10 (aL 11), oF 13 10 (aC .gtr 12 64), oA 14 (.pick (.t 10) (.c (.bool true)) (.t 13)), oM 15 14, oF 16 15 (.fieldAddr 1 (.t 1)), oF 17 15 (aL 16), oF 18 15 (.bin .eql (.t 17) (.c (u32 0#32))), oA 19 (.pick (.t 15) (.c (.bool true)) (.t 18)), oM 20 19, oF 21 20 (.fieldAddr 1 (.t 1)), oF 22 20 (aL 21), oF 23 20 (.bin .shr (.t 22) (.c (u64 16#64))), oF 24 20 (.bin .neq (.t 23) (.c (u32 0#32))), oA 25 (.pick (.t 20) (.c (.bool true)) (.t 24))] [1, 25])
(.cond (.t 25)
  (.seq (.region [oI 2 30] [2])
.ret)
  .skip))
(.seq (.seq (.region [oA 26 (.fieldAddr 2 (.t 1)), oA 27 (aL 26), oA 28 (.len (.t 27)), oI 29 0] [1, 27, 28, 29])
(.block 0
  (.loop [1, 27, 28, 29] RB.plan_Check_2) [1]))
(.seq (.seq (.drawn [oA 55 (.load true 3 (.t 1)), oA 56 (.call F.plan_apart [.t 55]), oA 57 (.un .not (.t 56)), oM 58 57, oF 59 58 (.load true 3 (.t 1)), oF 60 58 (.call F.plan_Splits [.t 59]), oF 61 58 (.load true 3 (.t 1)), oF 62 58 (.call F.plan_Cores [.t 61]), oF 63 58 (.len (.t 62)), oF 64 58 (aB .geq 60 63), oA 65 (.pick (.t 58) (.c (.bool true)) (.t 64))] [[], [0], [1], [2, 1], [3], [4, 3, 3], [3], [6, 5, 3], [7, 3], [5, 8, 3], [3, 9]] [(0, []), (1, []), (2, []), (3, []), (4, []), (6, []), (5, [1]), (7, []), (8, []), (9, []), (10, [])] (ancs [[],[0],[1],[2,1],[3],[4,3,3],[3],[6,5,3],[7,3],[5,8,3],[3,9]]) [1, 65])
(.cond (.t 65)
  (.seq (.region [oI 2 30] [2])
.ret)
  .skip))
(.seq (.seq (.region [oA 66 (.load true 3 (.t 1)), oA 67 (.call F.plan_Cores [.t 66]), oA 68 (.len (.t 67)), oI 69 0] [1, 67, 68, 69])
(.block 2
  (.loop [1, 67, 68, 69] RB.plan_Check_1) []))
(.seq (.region [oI 2 0] [2])
.ret))))))⟩

def RB.plan_Cores_1 : RCode :=
  (.seq (.region [oA 6 (aC .lss 5 16)] [1, 3, 5, 6])
(.seq (.cond (.t 6)
  .skip
  (.exit 0))
(.seq (.block 1
  (.seq (.region [oM 7 5, oM 4 7] [1, 3, 4, 5])
(.seq (.region [oA 8 (.load true 3 (.t 1)), oM 9 4, oA 10 (.call F.plan_has [.t 8, .t 9])] [1, 3, 4, 5, 10])
(.cond (.t 10)
  (.region [oM 11 3, oM 12 4, oA 13 (.bslice [i0] [(0, 1, .t 12)] 1 1), oA 14 (.app 1 8 (.t 11) (.t 13)), oM 3 14] [1, 3, 5])
  .skip))) [1, 3, 5])
(.region [oA 15 (aC .add 5 1), oM 5 15] [1, 3, 5]))))
def RC.plan_Cores : RFn := ⟨1, [.slot 2],
  (.seq (.region [oA 1 (.box (.t 0)), oA 2 (.mov (.c nS))] [1])
(.seq (.region [oA 3 (.mov (.c nS))] [1, 3])
(.seq (.seq (.region [oI 5 0] [1, 3, 5])
(.block 0
  (.loop [1, 3, 5] RB.plan_Cores_1) [3]))
(.seq (.region [oM 16 3, oM 2 16] [2])
.ret))))⟩

def RB.plan_Wholes_1 : RCode :=
  (.seq (.region [oA 12 (aB .lss 11 10)] [1, 5, 9, 10, 11, 12])
(.seq (.cond (.t 12)
  .skip
  (.exit 0))
(.seq (.block 1
  (.seq (.region [oA 13 (aX 4 9 11), oA 14 (.load true 4 (.t 13)), oA 7 (.alloc [i0, i0, i0, nS]), oN (.store 4 (.t 7) (.t 14))] [1, 5, 7, 9, 10, 11])
(.seq (.region [oA 15 (.load true 4 (.t 7)), oA 16 (.call F.plan_split [.t 15]), oA 17 (.un .not (.t 16)), oM 18 17, oT 19 18 (.fieldAddr 2 (.t 7)), oT 20 18 (aL 19), oT 21 18 (aM 1), oT 22 18 (aB .eql 20 21), oA 23 (.pick (.t 18) (.t 22) (.c (.bool false)))] [1, 5, 7, 9, 10, 11, 23])
(.cond (.t 23)
  (.region [oM 24 5, oA 25 (.fieldAddr 0 (.t 7)), oA 26 (aL 25), oA 27 (.fieldAddr 1 (.t 7)), oA 28 (aL 27), oA 29 (.build [i0, i0] [(0, 1, .t 26), (1, 1, .t 28)]), oA 30 (.bslice [i0, i0] [(0, 2, .t 29)] 1 2), oA 31 (.app 2 16 (.t 24) (.t 30)), oM 5 31] [1, 5, 9, 10, 11])
  .skip))) [1, 5, 9, 10, 11])
(.region [oA 32 (aC .add 11 1), oM 11 32] [1, 5, 9, 10, 11]))))
def RC.plan_Wholes : RFn := ⟨2, [.slot 4],
  (.seq (.region [oA 2 (.box (.t 0)), oA 4 (.mov (.c nS))] [1, 2])
(.seq (.region [oA 5 (.mov (.c nS))] [1, 2, 5])
(.seq (.seq (.region [oA 8 (.fieldAddr 2 (.t 2)), oA 9 (aL 8), oA 10 (.len (.t 9)), oI 11 0] [1, 5, 9, 10, 11])
(.block 0
  (.loop [1, 5, 9, 10, 11] RB.plan_Wholes_1) [5]))
(.seq (.region [oM 33 5, oM 4 33] [4])
.ret))))⟩

def RB.mask_Ticks_1 : RCode :=
  (.seq (.seq (.region [oM 4 0, oA 5 (.bin .neq (.t 4) (.c (u64 0#64)))] [0, 3, 5])
(.cond (.t 5)
  .skip
  (.exit 0)))
(.seq (.block 1
  (.region [oM 10 3, oM 11 0, oA 12 (.call F.math_bits_TrailingZeros64 [.t 11]), oA 13 (.bslice [i0] [(0, 1, .t 12)] 1 1), oA 14 (.app 1 8 (.t 10) (.t 13)), oM 3 14] [0, 3]) [0, 3])
(.region [oM 6 0, oM 7 0, oA 8 (.bin .sub (.t 7) (.c (u64 1#64))), oA 9 (aB .and 6 8), oM 0 9] [0, 3])))
def RC.mask_Ticks : RFn := ⟨1, [.slot 2],
  (.seq (.region [oA 2 (.mov (.c nS))] [0])
(.seq (.region [oA 3 (.mov (.c nS))] [0, 3])
(.seq (.block 0
  (.loop [0, 3] RB.mask_Ticks_1) [3])
(.seq (.region [oM 15 3, oM 2 15] [2])
.ret))))⟩

def RC.plan_Find : RFn := ⟨2, [.cell 4 true 4, .slot 5],
  (.seq (.region [oA 2 (.box (.t 0)), oA 4 (.alloc [i0, i0, i0, nS]), oA 5 (.mov (.c (.bool false)))] [1, 2, 4])
(.seq (.region [oA 10 (.load true 3 (.t 2)), oM 11 1, oA 12 (.call F.plan_find [.t 10, .t 11]), oM 9 12, oA 13 (.ext 0 (.t 9)), oA 14 (.ext 1 (.t 9)), oM 6 13, oM 7 14] [2, 4, 6, 7])
(.seq (.seq (.region [oM 15 7, oA 16 (.un .not (.t 15))] [2, 4, 6, 16])
(.cond (.t 16)
  (.seq (.region [oA 17 (.build [i0, i0, i0, nS] []), oN (.store 4 (.t 4) (.t 17)), oA 5 (.mov (.c (.bool false)))] [4, 5])
.ret)
  .skip))
(.seq (.region [oA 18 (.fieldAddr 2 (.t 2)), oA 19 (aL 18), oM 20 6, oA 21 (aX 4 19 20), oA 22 (.load true 4 (.t 21)), oA 8 (.alloc [i0, i0, i0, nS]), oN (.store 4 (.t 8) (.t 22))] [4, 8])
(.seq (.region [oA 23 (.fieldAddr 3 (.t 8)), oA 24 (aL 23), oA 25 (.call F.slices_Clone_api_Piece_api_Piece [.t 24]), oA 26 (.fieldAddr 3 (.t 8)), oN (.store 1 (.t 26) (.t 25))] [4, 8])
(.seq (.region [oA 27 (.load true 4 (.t 8)), oN (.store 4 (.t 4) (.t 27)), oA 5 (.mov (.c (.bool true)))] [4, 5])
.ret))))))⟩

def RC.plan_Drop : RFn := ⟨2, [.cell 4 true 3],
  (.seq (.region [oA 2 (.box (.t 0)), oA 4 (.alloc [i0, (u32 0#32), nS])] [1, 2, 4])
(.seq (.region [oA 8 (.load true 3 (.t 2)), oA 9 (.call F.plan_clone [.t 8]), oA 5 (.alloc [i0, (u32 0#32), nS]), oN (.store 3 (.t 5) (.t 9))] [1, 4, 5])
(.seq (.seq (.region [oA 11 (.load true 3 (.t 5)), oM 12 1, oA 13 (.call F.plan_find [.t 11, .t 12]), oM 10 13, oA 14 (.ext 0 (.t 10)), oA 15 (.ext 1 (.t 10)), oM 6 14, oM 7 15] [4, 5, 6, 7])
(.seq (.region [oM 16 7] [4, 5, 6, 16])
(.cond (.t 16)
  (.region [oA 17 (.fieldAddr 2 (.t 5)), oA 18 (aL 17), oM 19 6, oM 20 6, oA 21 (aC .add 20 1), oA 22 (.call F.slices_Delete_api_Place_api_Place [.t 18, .t 19, .t 21]), oA 23 (.fieldAddr 2 (.t 5)), oN (.store 1 (.t 23) (.t 22))] [4, 5])
  .skip)))
(.seq (.region [oA 24 (.load true 3 (.t 5)), oN (.store 3 (.t 4) (.t 24))] [4])
.ret))))⟩

def RC.order_Sort : RFn := ⟨1, [.slot 2],
  (.seq (.region [oA 2 (.mov (.c nS))] [0])
(.seq (.region [oM 4 0, oA 5 (.call F.slices_Clone_api_Want_api_Want [.t 4]), oM 3 5] [3])
(.seq (.region [oM 6 3, oA 7 (.call F.slices_SortFunc_api_Want_api_Want [.t 6, .f F.order_compare])] [3])
(.seq (.region [oM 8 3, oM 2 8] [2])
.ret))))⟩

def RB.ffd_first_1 : RCode :=
  (.seq (.region [oA 12 (aB .lss 11 10)] [1, 2, 9, 10, 11, 12])
(.seq (.cond (.t 12)
  .skip
  (.exit 0))
(.seq (.block 1
  (.seq (.region [oA 13 (aX 1 9 11), oA 14 (aL 13), oM 7 14] [1, 2, 7, 9, 10, 11])
(.seq (.region [oA 15 (.load true 3 (.t 2)), oM 16 7, oA 17 (.call F.plan_Room [.t 15, .t 16]), oM 18 1, oA 19 (aB .geq 17 18)] [1, 2, 7, 9, 10, 11, 19])
(.cond (.t 19)
  (.seq (.region [oM 20 7, oM 4 20, oA 5 (.mov (.c (.bool true)))] [4, 5])
.ret)
  .skip))) [1, 2, 9, 10, 11])
(.region [oA 21 (aC .add 11 1), oM 11 21] [1, 2, 9, 10, 11]))))
def RC.ffd_first : RFn := ⟨2, [.slot 4, .slot 5],
  (.seq (.region [oA 2 (.box (.t 0)), oI 4 0, oA 5 (.mov (.c (.bool false)))] [1, 2])
(.seq (.seq (.region [oA 8 (.load true 3 (.t 2)), oA 9 (.call F.plan_Cores [.t 8]), oA 10 (.len (.t 9)), oI 11 0] [1, 2, 9, 10, 11])
(.block 0
  (.loop [1, 2, 9, 10, 11] RB.ffd_first_1) []))
(.seq (.region [oI 4 0, oA 5 (.mov (.c (.bool false)))] [4, 5])
.ret)))⟩

def RC.plan_Put : RFn := ⟨2, [.cell 4 true 3],
  (.seq (.region [oA 2 (.box (.t 0)), oA 3 (.box (.t 1)), oA 4 (.alloc [i0, (u32 0#32), nS])] [2, 3, 4])
(.seq (.region [oA 8 (.load true 3 (.t 2)), oA 9 (.fieldAddr 0 (.t 3)), oA 10 (aL 9), oA 11 (.call F.plan_Drop [.t 8, .t 10]), oA 5 (.alloc [i0, (u32 0#32), nS]), oN (.store 3 (.t 5) (.t 11))] [3, 4, 5])
(.seq (.region [oA 13 (.load true 3 (.t 5)), oA 14 (.fieldAddr 0 (.t 3)), oA 15 (aL 14), oA 16 (.call F.plan_find [.t 13, .t 15]), oM 12 16, oA 17 (.ext 0 (.t 12)), oA 18 (.ext 1 (.t 12)), oM 6 17, oM 7 18] [3, 4, 5, 6])
(.seq (.region [oA 19 (.fieldAddr 3 (.t 3)), oA 20 (aL 19), oA 21 (.call F.slices_Clone_api_Piece_api_Piece [.t 20]), oA 22 (.fieldAddr 3 (.t 3)), oN (.store 1 (.t 22) (.t 21))] [3, 4, 5, 6])
(.seq (.region [oA 23 (.fieldAddr 2 (.t 5)), oA 24 (aL 23), oM 25 6, oA 26 (.load true 4 (.t 3)), oA 27 (.bslice [i0, i0, i0, nS] [(0, 4, .t 26)] 1 4), oA 28 (.call F.slices_Insert_api_Place_api_Place [.t 24, .t 25, .t 27]), oA 29 (.fieldAddr 2 (.t 5)), oN (.store 1 (.t 29) (.t 28))] [4, 5])
(.seq (.region [oA 30 (.load true 3 (.t 5)), oN (.store 3 (.t 4) (.t 30))] [4])
.ret))))))⟩

def RC.plan_Room : RFn := ⟨2, [.slot 4],
  (.seq (.region [oA 2 (.box (.t 0)), oI 4 0] [1, 2])
(.seq (.seq (.region [oA 5 (.load true 3 (.t 2)), oM 6 1, oA 7 (.call F.plan_has [.t 5, .t 6]), oA 8 (.un .not (.t 7))] [1, 2, 8])
(.cond (.t 8)
  (.seq (.region [oI 4 0] [4])
.ret)
  .skip))
(.seq (.region [oA 9 (.load true 3 (.t 2)), oM 10 1, oA 11 (.call F.plan_left [.t 9, .t 10]), oA 12 (.minmax true [.c i0, .t 11]), oM 4 12] [4])
.ret)))⟩

def RB.slices_BinarySearchFunc_ring_member_ring_member_int_1 : RCode :=
  (.seq (.seq (.region [oM 15 9, oM 16 10, oA 17 (aB .lss 15 16)] [0, 1, 2, 8, 9, 10, 17])
(.cond (.t 17)
  .skip
  (.exit 0)))
(.block 1
  (.seq (.region [oM 18 9, oM 19 10, oA 20 (aB .add 18 19), oA 21 (.conv .u64 (.t 20)), oA 22 (.bin .shr (.t 21) (.c (u64 1#64))), oA 23 (.conv .i64 (.t 22)), oM 11 23] [0, 1, 2, 8, 9, 10, 11])
(.seq (.region [oM 24 2, oM 25 0, oM 26 11, oA 27 (aX 4 25 26), oA 28 (.load true 4 (.t 27)), oM 29 1, oA 30 (.callv (.t 24) [.t 28, .t 29]), oA 31 (aC .lss 30 0)] [0, 1, 2, 8, 9, 10, 11, 31])
(.cond (.t 31)
  (.region [oM 32 11, oA 33 (aC .add 32 1), oM 9 33] [0, 1, 2, 8, 9, 10])
  (.region [oM 34 11, oM 10 34] [0, 1, 2, 8, 9, 10])))) [0, 1, 2, 8, 9, 10]))
def RC.slices_BinarySearchFunc_ring_member_ring_member_int : RFn := ⟨3, [.slot 6, .slot 7],
  (.seq (.region [oI 6 0, oA 7 (.mov (.c (.bool false)))] [0, 1, 2])
(.seq (.region [oM 12 0, oA 13 (.len (.t 12)), oM 8 13] [0, 1, 2, 8])
(.seq (.region [oM 14 8, oI 9 0, oM 10 14] [0, 1, 2, 8, 9, 10])
(.seq (.block 0
  (.loop [0, 1, 2, 8, 9, 10] RB.slices_BinarySearchFunc_ring_member_ring_member_int_1) [0, 1, 2, 8, 9])
(.seq (.region [oM 35 9, oM 36 9, oM 37 8, oA 38 (aB .lss 36 37), oM 39 38, oT 40 39 (aM 2), oT 41 39 (aM 0), oT 42 39 (aM 9), oT 43 39 (aX 4 41 42), oT 44 39 (.load true 4 (.t 43)), oT 45 39 (aM 1), oT 46 39 (.callv (.t 40) [.t 44, .t 45]), oT 47 39 (aC .eql 46 0), oA 48 (.pick (.t 39) (.t 47) (.c (.bool false))), oM 6 35, oM 7 48] [6, 7])
.ret)))))⟩

def RC.ring_Ring_find_1 : RFn := ⟨2, [.slot 4],
  (.seq (.region [oA 2 (.box (.t 0)), oI 4 0] [1, 2])
(.seq (.region [oA 5 (.fieldAddr 0 (.t 2)), oA 6 (aL 5), oM 7 1, oA 8 (.call F.cmp_Compare_int [.t 6, .t 7]), oM 4 8] [4])
.ret))⟩

def RC.fixq_Ceil : RFn := ⟨3, [.slot 6, .slot 7],
  (.seq (.region [oA 6 (.mov (.c (u64 0#64))), oI 7 0] [0, 1, 2])
(.seq (.region [oM 13 0, oM 14 1, oM 15 2, oA 16 (.call F.fixq_MulDiv [.t 13, .t 14, .t 15]), oM 12 16, oA 17 (.ext 0 (.t 12)), oA 18 (.ext 1 (.t 12)), oA 19 (.ext 2 (.t 12)), oM 8 17, oM 9 18, oM 10 19] [8, 9, 10])
(.seq (.seq (.region [oM 20 10, oA 21 (aC .neq 20 0), oM 22 21, oF 23 22 (aM 9), oF 24 22 (.bin .eql (.t 23) (.c (u64 0#64))), oA 25 (.pick (.t 22) (.c (.bool true)) (.t 24))] [8, 10, 25])
(.cond (.t 25)
  (.seq (.region [oM 26 8, oM 27 10, oM 6 26, oM 7 27] [6, 7])
.ret)
  .skip))
(.seq (.region [oM 29 8, oA 30 (.call F.math_bits_Add64 [.t 29, .c (u64 1#64), .c (u64 0#64)]), oM 28 30, oA 31 (.ext 0 (.t 28)), oA 32 (.ext 1 (.t 28)), oM 8 31, oM 11 32] [8, 11])
(.seq (.seq (.region [oM 33 11, oA 34 (.bin .neq (.t 33) (.c (u64 0#64)))] [8, 34])
(.cond (.t 34)
  (.seq (.region [oA 6 (.mov (.c (u64 0#64))), oI 7 5] [6, 7])
.ret)
  .skip))
(.seq (.region [oM 35 8, oM 6 35, oI 7 0] [6, 7])
.ret))))))⟩

def RB.slices_Index_int_int_1 : RCode :=
  (.seq (.region [oA 9 (aB .lss 8 7)] [0, 1, 7, 8, 9])
(.seq (.cond (.t 9)
  .skip
  (.exit 0))
(.seq (.block 1
  (.seq (.region [oM 10 8, oM 5 10] [0, 1, 5, 7, 8])
(.seq (.region [oM 11 1, oM 12 0, oM 13 5, oA 14 (aX 1 12 13), oA 15 (aL 14), oA 16 (aB .eql 11 15)] [0, 1, 5, 7, 8, 16])
(.cond (.t 16)
  (.seq (.region [oM 17 5, oM 4 17] [4])
.ret)
  .skip))) [0, 1, 7, 8])
(.region [oA 18 (aC .add 8 1), oM 8 18] [0, 1, 7, 8]))))
def RC.slices_Index_int_int : RFn := ⟨2, [.slot 4],
  (.seq (.region [oI 4 0] [0, 1])
(.seq (.seq (.region [oM 6 0, oA 7 (.len (.t 6)), oI 8 0] [0, 1, 7, 8])
(.block 0
  (.loop [0, 1, 7, 8] RB.slices_Index_int_int_1) []))
(.seq (.region [oI 4 (-1)] [4])
.ret)))⟩

def RC.fixq_Compare : RFn := ⟨4, [.slot 8, .slot 9],
  (.seq (.region [oI 8 0, oI 9 0] [0, 1, 2, 3])
(.seq (.seq (.region [oM 14 1, oA 15 (.bin .eql (.t 14) (.c (u64 0#64))), oM 16 15, oF 17 16 (aM 3), oF 18 16 (.bin .eql (.t 17) (.c (u64 0#64))), oA 19 (.pick (.t 16) (.c (.bool true)) (.t 18))] [0, 1, 2, 3, 19])
(.cond (.t 19)
  (.seq (.region [oI 8 0, oI 9 1] [8, 9])
.ret)
  .skip))
(.seq (.region [oM 21 0, oM 22 3, oA 23 (.call F.math_bits_Mul64 [.t 21, .t 22]), oM 20 23, oA 24 (.ext 0 (.t 20)), oA 25 (.ext 1 (.t 20)), oM 10 24, oM 11 25] [1, 2, 10, 11])
(.seq (.region [oM 27 2, oM 28 1, oA 29 (.call F.math_bits_Mul64 [.t 27, .t 28]), oM 26 29, oA 30 (.ext 0 (.t 26)), oA 31 (.ext 1 (.t 26)), oM 12 30, oM 13 31] [10, 11, 12, 13])
(.seq (.block 0
  (.seq (.region [oM 33 10, oM 34 12, oA 35 (aB .lss 33 34), oM 36 35, oF 37 36 (aM 10), oF 38 36 (aM 12), oF 39 36 (aB .eql 37 38), oF 40 36 (aM 39), oT 41 40 (aM 11), oT 42 40 (aM 13), oT 43 40 (aB .lss 41 42), oF 44 36 (.pick (.t 40) (.t 43) (.c (.bool false))), oA 45 (.pick (.t 36) (.c (.bool true)) (.t 44)), oM 32 45] [10, 11, 12, 13, 32])
(.cond (.t 32)
  (.seq (.region [oI 8 (-1), oI 9 0] [8, 9])
.ret)
  (.seq (.region [oM 47 10, oM 48 12, oA 49 (aB .eql 47 48), oM 50 49, oT 51 50 (aM 11), oT 52 50 (aM 13), oT 53 50 (aB .eql 51 52), oA 54 (.pick (.t 50) (.t 53) (.c (.bool false))), oM 46 54] [46])
(.cond (.t 46)
  (.seq (.region [oI 8 0, oI 9 0] [8, 9])
.ret)
  .skip)))) [])
(.seq (.region [oI 8 1, oI 9 0] [8, 9])
.ret))))))⟩

def RB.slices_IndexFunc_local_entry_local_entry_1 : RCode :=
  (.seq (.region [oA 9 (aB .lss 8 7)] [0, 1, 7, 8, 9])
(.seq (.cond (.t 9)
  .skip
  (.exit 0))
(.seq (.block 1
  (.seq (.region [oM 10 8, oM 5 10] [0, 1, 5, 7, 8])
(.seq (.region [oM 11 1, oM 12 0, oM 13 5, oA 14 (aX 3 12 13), oA 15 (.load true 3 (.t 14)), oA 16 (.callv (.t 11) [.t 15])] [0, 1, 5, 7, 8, 16])
(.cond (.t 16)
  (.seq (.region [oM 17 5, oM 4 17] [4])
.ret)
  .skip))) [0, 1, 7, 8])
(.region [oA 18 (aC .add 8 1), oM 8 18] [0, 1, 7, 8]))))
def RC.slices_IndexFunc_local_entry_local_entry : RFn := ⟨2, [.slot 4],
  (.seq (.region [oI 4 0] [0, 1])
(.seq (.seq (.region [oM 6 0, oA 7 (.len (.t 6)), oI 8 0] [0, 1, 7, 8])
(.block 0
  (.loop [0, 1, 7, 8] RB.slices_IndexFunc_local_entry_local_entry_1) []))
(.seq (.region [oI 4 (-1)] [4])
.ret)))⟩

def RC.local_Local_find_1 : RFn := ⟨2, [.slot 3],
  (.seq (.region [oA 2 (.box (.t 0)), oA 3 (.mov (.c (.bool false)))] [1, 2])
(.seq (.region [oA 4 (.fieldAddr 0 (.t 2)), oA 5 (.fieldAddr 0 (.t 4)), oA 6 (aL 5), oA 7 (aL 1), oA 8 (aB .eql 6 7), oM 3 8] [3])
.ret))⟩

def RB.slices_insertionSortCmpFunc_local_entry_1 : RCode :=
  (.seq (.seq (.drawn [oM 18 9, oM 19 1, oA 20 (aB .gtr 18 19), oM 21 20, oT 22 21 (aM 3), oT 23 21 (aM 0), oT 24 21 (aM 9), oT 25 21 (aX 3 23 24), oT 26 21 (.load true 3 (.t 25)), oT 27 21 (aM 0), oT 28 21 (aM 9), oT 29 21 (aC .sub 28 1), oT 30 21 (aX 3 27 29), oT 31 21 (.load true 3 (.t 30)), oT 32 21 (.callv (.t 22) [.t 26, .t 31]), oT 33 21 (aC .lss 32 0), oA 34 (.pick (.t 21) (.t 33) (.c (.bool false)))] [[], [], [0, 1], [2], [3], [3], [3], [5, 6, 3], [7, 3], [3], [3], [10, 3], [9, 11, 3], [12, 3], [4, 8, 13, 3, 3], [14, 3], [3, 15]] [(0, []), (1, []), (2, []), (3, []), (4, []), (5, []), (6, []), (7, []), (9, []), (10, []), (11, []), (12, []), (8, []), (13, []), (14, []), (15, []), (16, [])] (ancs [[],[],[0,1],[2],[3],[3],[3],[5,6,3],[7,3],[3],[3],[10,3],[9,11,3],[12,3],[4,8,13,3,3],[14,3],[3,15]]) [0, 1, 2, 3, 8, 9, 34])
(.cond (.t 34)
  .skip
  (.exit 2)))
(.seq (.block 3
  (.drawn [oM 37 0, oM 38 9, oM 39 0, oM 40 9, oA 41 (aC .sub 40 1), oM 42 0, oM 43 9, oA 44 (aC .sub 43 1), oA 45 (aX 3 42 44), oA 46 (.load true 3 (.t 45)), oM 47 0, oM 48 9, oA 49 (aX 3 47 48), oA 50 (.load true 3 (.t 49)), oA 51 (aX 3 37 38), oN (.store 3 (.t 51) (.t 46)), oA 52 (aX 3 39 41), oN (.store 3 (.t 52) (.t 50))] [[], [], [], [], [3], [], [], [6], [5, 7], [8], [], [], [10, 11], [12], [0, 1, 0, 1, 5, 6, 7, 8, 9, 13], [14, 9, 0, 1, 5, 6, 7, 8, 9, 13], [2, 4, 0, 1, 2, 3, 4, 5, 6, 7, 8, 9, 10, 11, 12, 13, 14, 15], [16, 13, 15, 0, 1, 2, 3, 4, 5, 6, 7, 8, 9, 10, 11, 12, 13, 14, 15]] [(0, []), (1, []), (2, []), (3, []), (4, []), (5, []), (6, []), (7, []), (8, []), (10, []), (11, []), (12, []), (9, []), (13, []), (14, []), (15, []), (16, []), (17, [])] (ancs [[],[],[],[],[3],[],[],[6],[5,7],[8],[],[],[10,11],[12],[0,1,0,1,5,6,7,8,9,13],[14,9,0,1,5,6,7,8,9,13],[2,4,0,1,2,3,4,5,6,7,8,9,10,11,12,13,14,15],[16,13,15,0,1,2,3,4,5,6,7,8,9,10,11,12,13,14,15]]) [0, 1, 2, 3, 8, 9]) [0, 1, 2, 3, 8, 9])
(.region [oM 35 9, oA 36 (aC .sub 35 1), oM 9 36] [0, 1, 2, 3, 8, 9])))
def RB.slices_insertionSortCmpFunc_local_entry_2 : RCode :=
  (.seq (.seq (.region [oM 12 8, oM 13 2, oA 14 (aB .lss 12 13)] [0, 1, 2, 3, 8, 14])
(.cond (.t 14)
  .skip
  (.exit 0)))
(.seq (.block 1
  (.seq (.region [oM 17 8, oM 9 17] [0, 1, 2, 3, 8, 9])
(.block 2
  (.loop [0, 1, 2, 3, 8, 9] RB.slices_insertionSortCmpFunc_local_entry_1) [0, 1, 2, 3, 8])) [0, 1, 2, 3, 8])
(.region [oM 15 8, oA 16 (aC .add 15 1), oM 8 16] [0, 1, 2, 3, 8])))
def RC.slices_insertionSortCmpFunc_local_entry : RFn := ⟨4, [],
  (.seq (.region [oM 10 1, oA 11 (aC .add 10 1), oM 8 11] [0, 1, 2, 3, 8])
(.block 0
  (.loop [0, 1, 2, 3, 8] RB.slices_insertionSortCmpFunc_local_entry_2) []))⟩

def RB.slices_heapSortCmpFunc_local_entry_1 : RCode :=
  (.seq (.seq (.region [oM 32 12, oA 33 (aC .geq 32 0)] [0, 3, 8, 9, 12, 33])
(.cond (.t 33)
  .skip
  (.exit 2)))
(.seq (.block 3
  (.seq (.drawn [oM 36 0, oM 37 8, oM 38 0, oM 39 8, oM 40 12, oA 41 (aB .add 39 40), oM 42 0, oM 43 8, oM 44 12, oA 45 (aB .add 43 44), oA 46 (aX 3 42 45), oA 47 (.load true 3 (.t 46)), oM 48 0, oM 49 8, oA 50 (aX 3 48 49), oA 51 (.load true 3 (.t 50)), oA 52 (aX 3 36 37), oN (.store 3 (.t 52) (.t 47)), oA 53 (aX 3 38 41), oN (.store 3 (.t 53) (.t 51))] [[], [], [], [], [], [3, 4], [], [], [], [7, 8], [6, 9], [10], [], [], [12, 13], [14], [0, 1, 0, 1, 6, 7, 8, 9, 10, 11, 15], [16, 11, 0, 1, 6, 7, 8, 9, 10, 11, 15], [2, 5, 0, 1, 2, 3, 4, 5, 6, 7, 8, 9, 10, 11, 12, 13, 14, 15, 16, 17], [18, 15, 17, 0, 1, 2, 3, 4, 5, 6, 7, 8, 9, 10, 11, 12, 13, 14, 15, 16, 17]] [(0, []), (1, []), (2, []), (3, []), (4, []), (5, []), (6, []), (7, []), (8, []), (9, []), (10, []), (12, []), (13, []), (14, []), (11, []), (15, []), (16, []), (17, []), (18, []), (19, [])] (ancs [[],[],[],[],[],[3,4],[],[],[],[7,8],[6,9],[10],[],[],[12,13],[14],[0,1,0,1,6,7,8,9,10,11,15],[16,11,0,1,6,7,8,9,10,11,15],[2,5,0,1,2,3,4,5,6,7,8,9,10,11,12,13,14,15,16,17],[18,15,17,0,1,2,3,4,5,6,7,8,9,10,11,12,13,14,15,16,17]]) [0, 3, 8, 9, 12])
(.region [oM 54 0, oM 55 9, oM 56 12, oM 57 8, oM 58 3, oA 59 (.call F.slices_siftDownCmpFunc_local_entry [.t 54, .t 55, .t 56, .t 57, .t 58])] [0, 3, 8, 9, 12])) [0, 3, 8, 9, 12])
(.region [oM 34 12, oA 35 (aC .sub 34 1), oM 12 35] [0, 3, 8, 9, 12])))
def RB.slices_heapSortCmpFunc_local_entry_2 : RCode :=
  (.seq (.seq (.region [oM 20 11, oA 21 (aC .geq 20 0)] [0, 3, 8, 9, 10, 11, 21])
(.cond (.t 21)
  .skip
  (.exit 0)))
(.seq (.block 1
  (.region [oM 24 0, oM 25 11, oM 26 10, oM 27 8, oM 28 3, oA 29 (.call F.slices_siftDownCmpFunc_local_entry [.t 24, .t 25, .t 26, .t 27, .t 28])] [0, 3, 8, 9, 10, 11]) [0, 3, 8, 9, 10, 11])
(.region [oM 22 11, oA 23 (aC .sub 22 1), oM 11 23] [0, 3, 8, 9, 10, 11])))
def RC.slices_heapSortCmpFunc_local_entry : RFn := ⟨4, [],
  (.seq (.region [oM 13 1, oM 8 13] [0, 1, 2, 3, 8])
(.seq (.region [oI 9 0] [0, 1, 2, 3, 8, 9])
(.seq (.region [oM 14 2, oM 15 1, oA 16 (aB .sub 14 15), oM 10 16] [0, 3, 8, 9, 10])
(.seq (.seq (.region [oM 17 10, oA 18 (aC .sub 17 1), oA 19 (aC .quo 18 2), oM 11 19] [0, 3, 8, 9, 10, 11])
(.block 0
  (.loop [0, 3, 8, 9, 10, 11] RB.slices_heapSortCmpFunc_local_entry_2) [0, 3, 8, 9, 10]))
(.seq (.region [oM 30 10, oA 31 (aC .sub 30 1), oM 12 31] [0, 3, 8, 9, 12])
(.block 2
  (.loop [0, 3, 8, 9, 12] RB.slices_heapSortCmpFunc_local_entry_1) []))))))⟩

def RB.slices_breakPatternsCmpFunc_local_entry_1 : RCode :=
  (.seq (.seq (.region [oM 28 11, oM 29 1, oM 30 8, oA 31 (aC .quo 30 4), oA 32 (aC .mul 31 2), oA 33 (aB .add 29 32), oA 34 (aC .add 33 1), oA 35 (aB .leq 28 34)] [0, 1, 8, 9, 10, 11, 35])
(.cond (.t 35)
  .skip
  (.exit 0)))
(.seq (.block 1
  (.seq (.region [oA 38 (.call F.slices_xorshift_Next [.t 9]), oM 39 10, oA 40 (.bin .sub (.t 39) (.c (u64 1#64))), oA 41 (aB .and 38 40), oA 42 (.conv .i64 (.t 41)), oM 12 42] [0, 1, 8, 9, 10, 11, 12])
(.seq (.seq (.region [oM 43 12, oM 44 8, oA 45 (aB .geq 43 44)] [0, 1, 8, 9, 10, 11, 12, 45])
(.cond (.t 45)
  (.region [oM 46 12, oM 47 8, oA 48 (aB .sub 46 47), oM 12 48] [0, 1, 8, 9, 10, 11, 12])
  .skip))
(.drawn [oM 49 0, oM 50 11, oM 51 0, oM 52 1, oM 53 12, oA 54 (aB .add 52 53), oM 55 0, oM 56 1, oM 57 12, oA 58 (aB .add 56 57), oA 59 (aX 3 55 58), oA 60 (.load true 3 (.t 59)), oM 61 0, oM 62 11, oA 63 (aX 3 61 62), oA 64 (.load true 3 (.t 63)), oA 65 (aX 3 49 50), oN (.store 3 (.t 65) (.t 60)), oA 66 (aX 3 51 54), oN (.store 3 (.t 66) (.t 64))] [[], [], [], [], [], [3, 4], [], [], [], [7, 8], [6, 9], [10], [], [], [12, 13], [14], [0, 1, 0, 1, 6, 7, 8, 9, 10, 11, 15], [16, 11, 0, 1, 6, 7, 8, 9, 10, 11, 15], [2, 5, 0, 1, 2, 3, 4, 5, 6, 7, 8, 9, 10, 11, 12, 13, 14, 15, 16, 17], [18, 15, 17, 0, 1, 2, 3, 4, 5, 6, 7, 8, 9, 10, 11, 12, 13, 14, 15, 16, 17]] [(0, []), (1, []), (2, []), (3, []), (4, []), (5, []), (6, []), (7, []), (8, []), (9, []), (10, []), (12, []), (13, []), (14, []), (11, []), (15, []), (16, []), (17, []), (18, []), (19, [])] (ancs [[],[],[],[],[],[3,4],[],[],[],[7,8],[6,9],[10],[],[],[12,13],[14],[0,1,0,1,6,7,8,9,10,11,15],[16,11,0,1,6,7,8,9,10,11,15],[2,5,0,1,2,3,4,5,6,7,8,9,10,11,12,13,14,15,16,17],[18,15,17,0,1,2,3,4,5,6,7,8,9,10,11,12,13,14,15,16,17]]) [0, 1, 8, 9, 10, 11]))) [0, 1, 8, 9, 10, 11])
(.region [oM 36 11, oA 37 (aC .add 36 1), oM 11 37] [0, 1, 8, 9, 10, 11])))
def RC.slices_breakPatternsCmpFunc_local_entry : RFn := ⟨4, [],
  (.seq (.region [oM 13 2, oM 14 1, oA 15 (aB .sub 13 14), oM 8 15] [0, 1, 8])
(.seq (.region [oM 16 8, oA 17 (aC .geq 16 8)] [0, 1, 8, 17])
(.cond (.t 17)
  (.seq (.region [oM 18 8, oA 19 (.conv .u64 (.t 18)), oA 9 (.alloc [(u64 0#64)]), oN (.store 1 (.t 9) (.t 19))] [0, 1, 8, 9])
(.seq (.region [oM 20 8, oA 21 (.call F.slices_nextPowerOfTwo [.t 20]), oM 10 21] [0, 1, 8, 9, 10])
(.seq (.region [oM 22 1, oM 23 8, oA 24 (aC .quo 23 4), oA 25 (aC .mul 24 2), oA 26 (aB .add 22 25), oA 27 (aC .sub 26 1), oM 11 27] [0, 1, 8, 9, 10, 11])
(.block 0
  (.loop [0, 1, 8, 9, 10, 11] RB.slices_breakPatternsCmpFunc_local_entry_1) []))))
  .skip)))⟩

def RC.slices_choosePivotCmpFunc_local_entry : RFn := ⟨4, [.slot 8, .slot 9],
  (.seq (.region [oI 8 0, oI 9 0] [0, 1, 2, 3])
(.seq (.region [oM 15 2, oM 16 1, oA 17 (aB .sub 15 16), oM 10 17] [0, 1, 3, 10])
(.seq (.region [oA 11 (.alloc [i0])] [0, 1, 3, 10, 11])
(.seq (.region [oM 18 1, oM 19 10, oA 20 (aC .quo 19 4), oA 21 (aC .mul 20 1), oA 22 (aB .add 18 21), oM 12 22] [0, 1, 3, 10, 11, 12])
(.seq (.region [oM 23 1, oM 24 10, oA 25 (aC .quo 24 4), oA 26 (aC .mul 25 2), oA 27 (aB .add 23 26), oM 13 27] [0, 1, 3, 10, 11, 12, 13])
(.seq (.region [oM 28 1, oM 29 10, oA 30 (aC .quo 29 4), oA 31 (aC .mul 30 3), oA 32 (aB .add 28 31), oM 14 32] [0, 3, 10, 11, 12, 13, 14])
(.seq (.seq (.region [oM 33 10, oA 34 (aC .geq 33 8)] [0, 3, 10, 11, 12, 13, 14, 34])
(.cond (.t 34)
  (.seq (.seq (.region [oM 35 10, oA 36 (aC .geq 35 50)] [0, 3, 11, 12, 13, 14, 36])
(.cond (.t 36)
  (.seq (.region [oM 37 0, oM 38 12, oM 39 3, oA 40 (.call F.slices_medianAdjacentCmpFunc_local_entry [.t 37, .t 38, .t 11, .t 39]), oM 12 40] [0, 3, 11, 12, 13, 14])
(.seq (.region [oM 41 0, oM 42 13, oM 43 3, oA 44 (.call F.slices_medianAdjacentCmpFunc_local_entry [.t 41, .t 42, .t 11, .t 43]), oM 13 44] [0, 3, 11, 12, 13, 14])
(.region [oM 45 0, oM 46 14, oM 47 3, oA 48 (.call F.slices_medianAdjacentCmpFunc_local_entry [.t 45, .t 46, .t 11, .t 47]), oM 14 48] [0, 3, 11, 12, 13, 14])))
  .skip))
(.region [oM 49 0, oM 50 12, oM 51 13, oM 52 14, oM 53 3, oA 54 (.call F.slices_medianCmpFunc_local_entry [.t 49, .t 50, .t 51, .t 52, .t 11, .t 53]), oM 13 54] [11, 13]))
  .skip))
(.seq (.region [oA 55 (aL 11)] [13, 55])
(.block 0
  (.seq (.region [oA 58 (aC .eql 55 0), oM 57 58] [13, 55, 57])
(.cond (.t 57)
  (.seq (.region [oM 59 13, oM 8 59, oI 9 1] [8, 9])
.ret)
  (.seq (.region [oA 61 (aC .eql 55 12), oM 60 61] [13, 60])
(.cond (.t 60)
  (.seq (.region [oM 62 13, oM 8 62, oI 9 2] [8, 9])
.ret)
  (.seq (.region [oM 56 13, oM 8 56, oI 9 0] [8, 9])
.ret))))) [8, 9])))))))))⟩

def RB.slices_reverseRangeCmpFunc_local_entry_1 : RCode :=
  (.seq (.seq (.region [oM 13 8, oM 14 9, oA 15 (aB .lss 13 14)] [0, 8, 9, 15])
(.cond (.t 15)
  .skip
  (.exit 0)))
(.block 1
  (.seq (.drawn [oM 16 0, oM 17 8, oM 18 0, oM 19 9, oM 20 0, oM 21 9, oA 22 (aX 3 20 21), oA 23 (.load true 3 (.t 22)), oM 24 0, oM 25 8, oA 26 (aX 3 24 25), oA 27 (.load true 3 (.t 26)), oA 28 (aX 3 16 17), oN (.store 3 (.t 28) (.t 23)), oA 29 (aX 3 18 19), oN (.store 3 (.t 29) (.t 27))] [[], [], [], [], [], [], [4, 5], [6], [], [], [8, 9], [10], [0, 1, 0, 1, 4, 5, 6, 7, 11], [12, 7, 0, 1, 4, 5, 6, 7, 11], [2, 3, 0, 1, 2, 3, 4, 5, 6, 7, 8, 9, 10, 11, 12, 13], [14, 11, 13, 0, 1, 2, 3, 4, 5, 6, 7, 8, 9, 10, 11, 12, 13]] [(0, []), (1, []), (2, []), (3, []), (4, []), (5, []), (6, []), (8, []), (9, []), (10, []), (7, []), (11, []), (12, []), (13, []), (14, []), (15, [])] (ancs [[],[],[],[],[],[],[4,5],[6],[],[],[8,9],[10],[0,1,0,1,4,5,6,7,11],[12,7,0,1,4,5,6,7,11],[2,3,0,1,2,3,4,5,6,7,8,9,10,11,12,13],[14,11,13,0,1,2,3,4,5,6,7,8,9,10,11,12,13]]) [0, 8, 9])
(.seq (.region [oM 30 8, oA 31 (aC .add 30 1), oM 8 31] [0, 8, 9])
(.region [oM 32 9, oA 33 (aC .sub 32 1), oM 9 33] [0, 8, 9]))) [0, 8, 9]))
def RC.slices_reverseRangeCmpFunc_local_entry : RFn := ⟨4, [],
  (.seq (.region [oM 10 1, oM 8 10] [0, 2, 8])
(.seq (.region [oM 11 2, oA 12 (aC .sub 11 1), oM 9 12] [0, 8, 9])
(.block 0
  (.loop [0, 8, 9] RB.slices_reverseRangeCmpFunc_local_entry_1) [])))⟩

def RB.slices_partialInsertionSortCmpFunc_local_entry_1 : RCode :=
  (.seq (.seq (.region [oM 107 12, oM 108 2, oA 109 (aB .lss 107 108)] [0, 1, 2, 3, 9, 10, 12, 109])
(.cond (.t 109)
  .skip
  (.exit 6)))
(.seq (.block 7
  (.seq (.seq (.drawn [oM 112 3, oM 113 0, oM 114 12, oA 115 (aX 3 113 114), oA 116 (.load true 3 (.t 115)), oM 117 0, oM 118 12, oA 119 (aC .sub 118 1), oA 120 (aX 3 117 119), oA 121 (.load true 3 (.t 120)), oA 122 (.callv (.t 112) [.t 116, .t 121]), oA 123 (aC .lss 122 0), oA 124 (.un .not (.t 123))] [[], [], [], [1, 2], [3], [], [], [6], [5, 7], [8], [0, 4, 9], [10], [11]] [(0, []), (1, []), (2, []), (3, []), (5, []), (6, []), (7, []), (8, []), (4, []), (9, []), (10, []), (11, []), (12, [])] (ancs [[],[],[],[1,2],[3],[],[],[6],[5,7],[8],[0,4,9],[10],[11]]) [0, 1, 2, 3, 9, 10, 12, 124])
(.cond (.t 124)
  (.exit 6)
  .skip))
(.drawn [oM 125 0, oM 126 12, oM 127 0, oM 128 12, oA 129 (aC .sub 128 1), oM 130 0, oM 131 12, oA 132 (aC .sub 131 1), oA 133 (aX 3 130 132), oA 134 (.load true 3 (.t 133)), oM 135 0, oM 136 12, oA 137 (aX 3 135 136), oA 138 (.load true 3 (.t 137)), oA 139 (aX 3 125 126), oN (.store 3 (.t 139) (.t 134)), oA 140 (aX 3 127 129), oN (.store 3 (.t 140) (.t 138))] [[], [], [], [], [3], [], [], [6], [5, 7], [8], [], [], [10, 11], [12], [0, 1, 0, 1, 5, 6, 7, 8, 9, 13], [14, 9, 0, 1, 5, 6, 7, 8, 9, 13], [2, 4, 0, 1, 2, 3, 4, 5, 6, 7, 8, 9, 10, 11, 12, 13, 14, 15], [16, 13, 15, 0, 1, 2, 3, 4, 5, 6, 7, 8, 9, 10, 11, 12, 13, 14, 15]] [(0, []), (1, []), (2, []), (3, []), (4, []), (5, []), (6, []), (7, []), (8, []), (10, []), (11, []), (12, []), (9, []), (13, []), (14, []), (15, []), (16, []), (17, [])] (ancs [[],[],[],[],[3],[],[],[6],[5,7],[8],[],[],[10,11],[12],[0,1,0,1,5,6,7,8,9,13],[14,9,0,1,5,6,7,8,9,13],[2,4,0,1,2,3,4,5,6,7,8,9,10,11,12,13,14,15],[16,13,15,0,1,2,3,4,5,6,7,8,9,10,11,12,13,14,15]]) [0, 1, 2, 3, 9, 10, 12])) [0, 1, 2, 3, 9, 10, 12])
(.region [oM 110 12, oA 111 (aC .add 110 1), oM 12 111] [0, 1, 2, 3, 9, 10, 12])))
def RB.slices_partialInsertionSortCmpFunc_local_entry_2 : RCode :=
  (.seq (.seq (.region [oM 68 11, oA 69 (aC .geq 68 1)] [0, 1, 2, 3, 9, 10, 11, 69])
(.cond (.t 69)
  .skip
  (.exit 4)))
(.seq (.block 5
  (.seq (.seq (.drawn [oM 72 3, oM 73 0, oM 74 11, oA 75 (aX 3 73 74), oA 76 (.load true 3 (.t 75)), oM 77 0, oM 78 11, oA 79 (aC .sub 78 1), oA 80 (aX 3 77 79), oA 81 (.load true 3 (.t 80)), oA 82 (.callv (.t 72) [.t 76, .t 81]), oA 83 (aC .lss 82 0), oA 84 (.un .not (.t 83))] [[], [], [], [1, 2], [3], [], [], [6], [5, 7], [8], [0, 4, 9], [10], [11]] [(0, []), (1, []), (2, []), (3, []), (5, []), (6, []), (7, []), (8, []), (4, []), (9, []), (10, []), (11, []), (12, [])] (ancs [[],[],[],[1,2],[3],[],[],[6],[5,7],[8],[0,4,9],[10],[11]]) [0, 1, 2, 3, 9, 10, 11, 84])
(.cond (.t 84)
  (.exit 4)
  .skip))
(.drawn [oM 85 0, oM 86 11, oM 87 0, oM 88 11, oA 89 (aC .sub 88 1), oM 90 0, oM 91 11, oA 92 (aC .sub 91 1), oA 93 (aX 3 90 92), oA 94 (.load true 3 (.t 93)), oM 95 0, oM 96 11, oA 97 (aX 3 95 96), oA 98 (.load true 3 (.t 97)), oA 99 (aX 3 85 86), oN (.store 3 (.t 99) (.t 94)), oA 100 (aX 3 87 89), oN (.store 3 (.t 100) (.t 98))] [[], [], [], [], [3], [], [], [6], [5, 7], [8], [], [], [10, 11], [12], [0, 1, 0, 1, 5, 6, 7, 8, 9, 13], [14, 9, 0, 1, 5, 6, 7, 8, 9, 13], [2, 4, 0, 1, 2, 3, 4, 5, 6, 7, 8, 9, 10, 11, 12, 13, 14, 15], [16, 13, 15, 0, 1, 2, 3, 4, 5, 6, 7, 8, 9, 10, 11, 12, 13, 14, 15]] [(0, []), (1, []), (2, []), (3, []), (4, []), (5, []), (6, []), (7, []), (8, []), (10, []), (11, []), (12, []), (9, []), (13, []), (14, []), (15, []), (16, []), (17, [])] (ancs [[],[],[],[],[3],[],[],[6],[5,7],[8],[],[],[10,11],[12],[0,1,0,1,5,6,7,8,9,13],[14,9,0,1,5,6,7,8,9,13],[2,4,0,1,2,3,4,5,6,7,8,9,10,11,12,13,14,15],[16,13,15,0,1,2,3,4,5,6,7,8,9,10,11,12,13,14,15]]) [0, 1, 2, 3, 9, 10, 11])) [0, 1, 2, 3, 9, 10, 11])
(.region [oM 70 11, oA 71 (aC .sub 70 1), oM 11 71] [0, 1, 2, 3, 9, 10, 11])))
def RB.slices_partialInsertionSortCmpFunc_local_entry_3 : RCode :=
  (.seq (.seq (.drawn [oM 19 9, oM 20 2, oA 21 (aB .lss 19 20), oM 22 21, oT 23 22 (aM 3), oT 24 22 (aM 0), oT 25 22 (aM 9), oT 26 22 (aX 3 24 25), oT 27 22 (.load true 3 (.t 26)), oT 28 22 (aM 0), oT 29 22 (aM 9), oT 30 22 (aC .sub 29 1), oT 31 22 (aX 3 28 30), oT 32 22 (.load true 3 (.t 31)), oT 33 22 (.callv (.t 23) [.t 27, .t 32]), oT 34 22 (aC .lss 33 0), oT 35 22 (.un .not (.t 34)), oA 36 (.pick (.t 22) (.t 35) (.c (.bool false)))] [[], [], [0, 1], [2], [3], [3], [3], [5, 6, 3], [7, 3], [3], [3], [10, 3], [9, 11, 3], [12, 3], [4, 8, 13, 3, 3], [14, 3], [15, 3], [3, 16]] [(0, []), (1, []), (2, []), (3, []), (4, []), (5, []), (6, []), (7, []), (9, []), (10, []), (11, []), (12, []), (8, []), (13, []), (14, []), (15, []), (16, []), (17, [])] (ancs [[],[],[0,1],[2],[3],[3],[3],[5,6,3],[7,3],[3],[3],[10,3],[9,11,3],[12,3],[4,8,13,3,3],[14,3],[15,3],[3,16]]) [0, 1, 2, 3, 9, 10, 36])
(.cond (.t 36)
  .skip
  (.exit 2)))
(.block 3
  (.region [oM 37 9, oA 38 (aC .add 37 1), oM 9 38] [0, 1, 2, 3, 9, 10]) [0, 1, 2, 3, 9, 10]))
def RB.slices_partialInsertionSortCmpFunc_local_entry_4 : RCode :=
  (.seq (.seq (.region [oM 15 10, oA 16 (aC .lss 15 5)] [0, 1, 2, 3, 9, 10, 16])
(.cond (.t 16)
  .skip
  (.exit 0)))
(.seq (.block 1
  (.seq (.block 2
  (.loop [0, 1, 2, 3, 9, 10] RB.slices_partialInsertionSortCmpFunc_local_entry_3) [0, 1, 2, 3, 9, 10])
(.seq (.seq (.region [oM 39 9, oM 40 2, oA 41 (aB .eql 39 40)] [0, 1, 2, 3, 9, 10, 41])
(.cond (.t 41)
  (.seq (.region [oA 8 (.mov (.c (.bool true)))] [8])
.ret)
  .skip))
(.seq (.seq (.region [oM 42 2, oM 43 1, oA 44 (aB .sub 42 43), oA 45 (aC .lss 44 50)] [0, 1, 2, 3, 9, 10, 45])
(.cond (.t 45)
  (.seq (.region [oA 8 (.mov (.c (.bool false)))] [8])
.ret)
  .skip))
(.seq (.drawn [oM 46 0, oM 47 9, oM 48 0, oM 49 9, oA 50 (aC .sub 49 1), oM 51 0, oM 52 9, oA 53 (aC .sub 52 1), oA 54 (aX 3 51 53), oA 55 (.load true 3 (.t 54)), oM 56 0, oM 57 9, oA 58 (aX 3 56 57), oA 59 (.load true 3 (.t 58)), oA 60 (aX 3 46 47), oN (.store 3 (.t 60) (.t 55)), oA 61 (aX 3 48 50), oN (.store 3 (.t 61) (.t 59))] [[], [], [], [], [3], [], [], [6], [5, 7], [8], [], [], [10, 11], [12], [0, 1, 0, 1, 5, 6, 7, 8, 9, 13], [14, 9, 0, 1, 5, 6, 7, 8, 9, 13], [2, 4, 0, 1, 2, 3, 4, 5, 6, 7, 8, 9, 10, 11, 12, 13, 14, 15], [16, 13, 15, 0, 1, 2, 3, 4, 5, 6, 7, 8, 9, 10, 11, 12, 13, 14, 15]] [(0, []), (1, []), (2, []), (3, []), (4, []), (5, []), (6, []), (7, []), (8, []), (10, []), (11, []), (12, []), (9, []), (13, []), (14, []), (15, []), (16, []), (17, [])] (ancs [[],[],[],[],[3],[],[],[6],[5,7],[8],[],[],[10,11],[12],[0,1,0,1,5,6,7,8,9,13],[14,9,0,1,5,6,7,8,9,13],[2,4,0,1,2,3,4,5,6,7,8,9,10,11,12,13,14,15],[16,13,15,0,1,2,3,4,5,6,7,8,9,10,11,12,13,14,15]]) [0, 1, 2, 3, 9, 10])
(.seq (.seq (.region [oM 62 9, oM 63 1, oA 64 (aB .sub 62 63), oA 65 (aC .geq 64 2)] [0, 1, 2, 3, 9, 10, 65])
(.cond (.t 65)
  (.seq (.region [oM 66 9, oA 67 (aC .sub 66 1), oM 11 67] [0, 1, 2, 3, 9, 10, 11])
(.block 4
  (.loop [0, 1, 2, 3, 9, 10, 11] RB.slices_partialInsertionSortCmpFunc_local_entry_2) [0, 1, 2, 3, 9, 10]))
  .skip))
(.seq (.region [oM 101 2, oM 102 9, oA 103 (aB .sub 101 102), oA 104 (aC .geq 103 2)] [0, 1, 2, 3, 9, 10, 104])
(.cond (.t 104)
  (.seq (.region [oM 105 9, oA 106 (aC .add 105 1), oM 12 106] [0, 1, 2, 3, 9, 10, 12])
(.block 6
  (.loop [0, 1, 2, 3, 9, 10, 12] RB.slices_partialInsertionSortCmpFunc_local_entry_1) [0, 1, 2, 3, 9, 10]))
  .skip))))))) [0, 1, 2, 3, 9, 10])
(.region [oM 17 10, oA 18 (aC .add 17 1), oM 10 18] [0, 1, 2, 3, 9, 10])))
def RC.slices_partialInsertionSortCmpFunc_local_entry : RFn := ⟨4, [.slot 8],
  (.seq (.region [oA 8 (.mov (.c (.bool false)))] [0, 1, 2, 3])
(.seq (.region [oM 13 1, oA 14 (aC .add 13 1), oM 9 14] [0, 1, 2, 3, 9])
(.seq (.seq (.region [oI 10 0] [0, 1, 2, 3, 9, 10])
(.block 0
  (.loop [0, 1, 2, 3, 9, 10] RB.slices_partialInsertionSortCmpFunc_local_entry_4) []))
(.seq (.region [oA 8 (.mov (.c (.bool false)))] [8])
.ret))))⟩

def RB.slices_partitionEqualCmpFunc_local_entry_1 : RCode :=
  (.seq (.seq (.drawn [oM 50 11, oM 51 12, oA 52 (aB .leq 50 51), oM 53 52, oT 54 53 (aM 4), oT 55 53 (aM 0), oT 56 53 (aM 1), oT 57 53 (aX 3 55 56), oT 58 53 (.load true 3 (.t 57)), oT 59 53 (aM 0), oT 60 53 (aM 12), oT 61 53 (aX 3 59 60), oT 62 53 (.load true 3 (.t 61)), oT 63 53 (.callv (.t 54) [.t 58, .t 62]), oT 64 53 (aC .lss 63 0), oA 65 (.pick (.t 53) (.t 64) (.c (.bool false)))] [[], [], [0, 1], [2], [3], [3], [3], [5, 6, 3], [7, 3], [3], [3], [9, 10, 3], [11, 3], [4, 8, 12, 3, 3], [13, 3], [3, 14]] [(0, []), (1, []), (2, []), (3, []), (4, []), (5, []), (6, []), (7, []), (9, []), (10, []), (11, []), (8, []), (12, []), (13, []), (14, []), (15, [])] (ancs [[],[],[0,1],[2],[3],[3],[3],[5,6,3],[7,3],[3],[3],[9,10,3],[11,3],[4,8,12,3,3],[13,3],[3,14]]) [0, 1, 4, 11, 12, 65])
(.cond (.t 65)
  .skip
  (.exit 4)))
(.block 5
  (.region [oM 66 12, oA 67 (aC .sub 66 1), oM 12 67] [0, 1, 4, 11, 12]) [0, 1, 4, 11, 12]))
def RB.slices_partitionEqualCmpFunc_local_entry_2 : RCode :=
  (.seq (.seq (.drawn [oM 31 11, oM 32 12, oA 33 (aB .leq 31 32), oM 34 33, oT 35 34 (aM 4), oT 36 34 (aM 0), oT 37 34 (aM 1), oT 38 34 (aX 3 36 37), oT 39 34 (.load true 3 (.t 38)), oT 40 34 (aM 0), oT 41 34 (aM 11), oT 42 34 (aX 3 40 41), oT 43 34 (.load true 3 (.t 42)), oT 44 34 (.callv (.t 35) [.t 39, .t 43]), oT 45 34 (aC .lss 44 0), oT 46 34 (.un .not (.t 45)), oA 47 (.pick (.t 34) (.t 46) (.c (.bool false)))] [[], [], [0, 1], [2], [3], [3], [3], [5, 6, 3], [7, 3], [3], [3], [9, 10, 3], [11, 3], [4, 8, 12, 3, 3], [13, 3], [14, 3], [3, 15]] [(0, []), (1, []), (2, []), (3, []), (4, []), (5, []), (6, []), (7, []), (9, []), (10, []), (11, []), (8, []), (12, []), (13, []), (14, []), (15, []), (16, [])] (ancs [[],[],[0,1],[2],[3],[3],[3],[5,6,3],[7,3],[3],[3],[9,10,3],[11,3],[4,8,12,3,3],[13,3],[14,3],[3,15]]) [0, 1, 4, 11, 12, 47])
(.cond (.t 47)
  .skip
  (.exit 2)))
(.block 3
  (.region [oM 48 11, oA 49 (aC .add 48 1), oM 11 49] [0, 1, 4, 11, 12]) [0, 1, 4, 11, 12]))
def RB.slices_partitionEqualCmpFunc_local_entry_3 : RCode :=
  (.block 1
  (.seq (.block 2
  (.loop [0, 1, 4, 11, 12] RB.slices_partitionEqualCmpFunc_local_entry_2) [0, 1, 4, 11, 12])
(.seq (.block 4
  (.loop [0, 1, 4, 11, 12] RB.slices_partitionEqualCmpFunc_local_entry_1) [0, 1, 4, 11, 12])
(.seq (.seq (.region [oM 68 11, oM 69 12, oA 70 (aB .gtr 68 69)] [0, 1, 4, 11, 12, 70])
(.cond (.t 70)
  (.exit 0)
  .skip))
(.seq (.drawn [oM 71 0, oM 72 11, oM 73 0, oM 74 12, oM 75 0, oM 76 12, oA 77 (aX 3 75 76), oA 78 (.load true 3 (.t 77)), oM 79 0, oM 80 11, oA 81 (aX 3 79 80), oA 82 (.load true 3 (.t 81)), oA 83 (aX 3 71 72), oN (.store 3 (.t 83) (.t 78)), oA 84 (aX 3 73 74), oN (.store 3 (.t 84) (.t 82))] [[], [], [], [], [], [], [4, 5], [6], [], [], [8, 9], [10], [0, 1, 0, 1, 4, 5, 6, 7, 11], [12, 7, 0, 1, 4, 5, 6, 7, 11], [2, 3, 0, 1, 2, 3, 4, 5, 6, 7, 8, 9, 10, 11, 12, 13], [14, 11, 13, 0, 1, 2, 3, 4, 5, 6, 7, 8, 9, 10, 11, 12, 13]] [(0, []), (1, []), (2, []), (3, []), (4, []), (5, []), (6, []), (8, []), (9, []), (10, []), (7, []), (11, []), (12, []), (13, []), (14, []), (15, [])] (ancs [[],[],[],[],[],[],[4,5],[6],[],[],[8,9],[10],[0,1,0,1,4,5,6,7,11],[12,7,0,1,4,5,6,7,11],[2,3,0,1,2,3,4,5,6,7,8,9,10,11,12,13],[14,11,13,0,1,2,3,4,5,6,7,8,9,10,11,12,13]]) [0, 1, 4, 11, 12])
(.seq (.region [oM 85 11, oA 86 (aC .add 85 1), oM 11 86] [0, 1, 4, 11, 12])
(.region [oM 87 12, oA 88 (aC .sub 87 1), oM 12 88] [0, 1, 4, 11, 12])))))) [0, 1, 4, 11, 12])
def RC.slices_partitionEqualCmpFunc_local_entry : RFn := ⟨5, [.slot 10],
  (.seq (.region [oI 10 0] [0, 1, 2, 3, 4])
(.seq (.drawn [oM 13 0, oM 14 1, oM 15 0, oM 16 3, oM 17 0, oM 18 3, oA 19 (aX 3 17 18), oA 20 (.load true 3 (.t 19)), oM 21 0, oM 22 1, oA 23 (aX 3 21 22), oA 24 (.load true 3 (.t 23)), oA 25 (aX 3 13 14), oN (.store 3 (.t 25) (.t 20)), oA 26 (aX 3 15 16), oN (.store 3 (.t 26) (.t 24))] [[], [], [], [], [], [], [4, 5], [6], [], [], [8, 9], [10], [0, 1, 0, 1, 4, 5, 6, 7, 11], [12, 7, 0, 1, 4, 5, 6, 7, 11], [2, 3, 0, 1, 2, 3, 4, 5, 6, 7, 8, 9, 10, 11, 12, 13], [14, 11, 13, 0, 1, 2, 3, 4, 5, 6, 7, 8, 9, 10, 11, 12, 13]] [(0, []), (1, []), (2, []), (3, []), (4, []), (5, []), (6, []), (8, []), (9, []), (10, []), (7, []), (11, []), (12, []), (13, []), (14, []), (15, [])] (ancs [[],[],[],[],[],[],[4,5],[6],[],[],[8,9],[10],[0,1,0,1,4,5,6,7,11],[12,7,0,1,4,5,6,7,11],[2,3,0,1,2,3,4,5,6,7,8,9,10,11,12,13],[14,11,13,0,1,2,3,4,5,6,7,8,9,10,11,12,13]]) [0, 1, 2, 4])
(.seq (.region [oM 27 1, oA 28 (aC .add 27 1), oM 29 2, oA 30 (aC .sub 29 1), oM 11 28, oM 12 30] [0, 1, 4, 11, 12])
(.seq (.block 0
  (.loop [0, 1, 4, 11, 12] RB.slices_partitionEqualCmpFunc_local_entry_3) [11])
(.seq (.region [oM 89 11, oM 10 89] [10])
.ret)))))⟩

def RB.slices_partitionCmpFunc_local_entry_1 : RCode :=
  (.seq (.seq (.drawn [oM 123 12, oM 124 13, oA 125 (aB .leq 123 124), oM 126 125, oT 127 126 (aM 4), oT 128 126 (aM 0), oT 129 126 (aM 13), oT 130 126 (aX 3 128 129), oT 131 126 (.load true 3 (.t 130)), oT 132 126 (aM 0), oT 133 126 (aM 1), oT 134 126 (aX 3 132 133), oT 135 126 (.load true 3 (.t 134)), oT 136 126 (.callv (.t 127) [.t 131, .t 135]), oT 137 126 (aC .lss 136 0), oT 138 126 (.un .not (.t 137)), oA 139 (.pick (.t 126) (.t 138) (.c (.bool false)))] [[], [], [0, 1], [2], [3], [3], [3], [5, 6, 3], [7, 3], [3], [3], [9, 10, 3], [11, 3], [4, 8, 12, 3, 3], [13, 3], [14, 3], [3, 15]] [(0, []), (1, []), (2, []), (3, []), (4, []), (5, []), (6, []), (7, []), (9, []), (10, []), (11, []), (8, []), (12, []), (13, []), (14, []), (15, []), (16, [])] (ancs [[],[],[0,1],[2],[3],[3],[3],[5,6,3],[7,3],[3],[3],[9,10,3],[11,3],[4,8,12,3,3],[13,3],[14,3],[3,15]]) [0, 1, 4, 12, 13, 139])
(.cond (.t 139)
  .skip
  (.exit 8)))
(.block 9
  (.region [oM 140 13, oA 141 (aC .sub 140 1), oM 13 141] [0, 1, 4, 12, 13]) [0, 1, 4, 12, 13]))
def RB.slices_partitionCmpFunc_local_entry_2 : RCode :=
  (.seq (.seq (.drawn [oM 105 12, oM 106 13, oA 107 (aB .leq 105 106), oM 108 107, oT 109 108 (aM 4), oT 110 108 (aM 0), oT 111 108 (aM 12), oT 112 108 (aX 3 110 111), oT 113 108 (.load true 3 (.t 112)), oT 114 108 (aM 0), oT 115 108 (aM 1), oT 116 108 (aX 3 114 115), oT 117 108 (.load true 3 (.t 116)), oT 118 108 (.callv (.t 109) [.t 113, .t 117]), oT 119 108 (aC .lss 118 0), oA 120 (.pick (.t 108) (.t 119) (.c (.bool false)))] [[], [], [0, 1], [2], [3], [3], [3], [5, 6, 3], [7, 3], [3], [3], [9, 10, 3], [11, 3], [4, 8, 12, 3, 3], [13, 3], [3, 14]] [(0, []), (1, []), (2, []), (3, []), (4, []), (5, []), (6, []), (7, []), (9, []), (10, []), (11, []), (8, []), (12, []), (13, []), (14, []), (15, [])] (ancs [[],[],[0,1],[2],[3],[3],[3],[5,6,3],[7,3],[3],[3],[9,10,3],[11,3],[4,8,12,3,3],[13,3],[3,14]]) [0, 1, 4, 12, 13, 120])
(.cond (.t 120)
  .skip
  (.exit 6)))
(.block 7
  (.region [oM 121 12, oA 122 (aC .add 121 1), oM 12 122] [0, 1, 4, 12, 13]) [0, 1, 4, 12, 13]))
def RB.slices_partitionCmpFunc_local_entry_3 : RCode :=
  (.block 5
  (.seq (.block 6
  (.loop [0, 1, 4, 12, 13] RB.slices_partitionCmpFunc_local_entry_2) [0, 1, 4, 12, 13])
(.seq (.block 8
  (.loop [0, 1, 4, 12, 13] RB.slices_partitionCmpFunc_local_entry_1) [0, 1, 4, 12, 13])
(.seq (.seq (.region [oM 142 12, oM 143 13, oA 144 (aB .gtr 142 143)] [0, 1, 4, 12, 13, 144])
(.cond (.t 144)
  (.exit 4)
  .skip))
(.seq (.drawn [oM 145 0, oM 146 12, oM 147 0, oM 148 13, oM 149 0, oM 150 13, oA 151 (aX 3 149 150), oA 152 (.load true 3 (.t 151)), oM 153 0, oM 154 12, oA 155 (aX 3 153 154), oA 156 (.load true 3 (.t 155)), oA 157 (aX 3 145 146), oN (.store 3 (.t 157) (.t 152)), oA 158 (aX 3 147 148), oN (.store 3 (.t 158) (.t 156))] [[], [], [], [], [], [], [4, 5], [6], [], [], [8, 9], [10], [0, 1, 0, 1, 4, 5, 6, 7, 11], [12, 7, 0, 1, 4, 5, 6, 7, 11], [2, 3, 0, 1, 2, 3, 4, 5, 6, 7, 8, 9, 10, 11, 12, 13], [14, 11, 13, 0, 1, 2, 3, 4, 5, 6, 7, 8, 9, 10, 11, 12, 13]] [(0, []), (1, []), (2, []), (3, []), (4, []), (5, []), (6, []), (8, []), (9, []), (10, []), (7, []), (11, []), (12, []), (13, []), (14, []), (15, [])] (ancs [[],[],[],[],[],[],[4,5],[6],[],[],[8,9],[10],[0,1,0,1,4,5,6,7,11],[12,7,0,1,4,5,6,7,11],[2,3,0,1,2,3,4,5,6,7,8,9,10,11,12,13],[14,11,13,0,1,2,3,4,5,6,7,8,9,10,11,12,13]]) [0, 1, 4, 12, 13])
(.seq (.region [oM 159 12, oA 160 (aC .add 159 1), oM 12 160] [0, 1, 4, 12, 13])
(.region [oM 161 13, oA 162 (aC .sub 161 1), oM 13 162] [0, 1, 4, 12, 13])))))) [0, 1, 4, 12, 13])
def RB.slices_partitionCmpFunc_local_entry_4 : RCode :=
  (.seq (.seq (.drawn [oM 50 12, oM 51 13, oA 52 (aB .leq 50 51), oM 53 52, oT 54 53 (aM 4), oT 55 53 (aM 0), oT 56 53 (aM 13), oT 57 53 (aX 3 55 56), oT 58 53 (.load true 3 (.t 57)), oT 59 53 (aM 0), oT 60 53 (aM 1), oT 61 53 (aX 3 59 60), oT 62 53 (.load true 3 (.t 61)), oT 63 53 (.callv (.t 54) [.t 58, .t 62]), oT 64 53 (aC .lss 63 0), oT 65 53 (.un .not (.t 64)), oA 66 (.pick (.t 53) (.t 65) (.c (.bool false)))] [[], [], [0, 1], [2], [3], [3], [3], [5, 6, 3], [7, 3], [3], [3], [9, 10, 3], [11, 3], [4, 8, 12, 3, 3], [13, 3], [14, 3], [3, 15]] [(0, []), (1, []), (2, []), (3, []), (4, []), (5, []), (6, []), (7, []), (9, []), (10, []), (11, []), (8, []), (12, []), (13, []), (14, []), (15, []), (16, [])] (ancs [[],[],[0,1],[2],[3],[3],[3],[5,6,3],[7,3],[3],[3],[9,10,3],[11,3],[4,8,12,3,3],[13,3],[14,3],[3,15]]) [0, 1, 4, 12, 13, 66])
(.cond (.t 66)
  .skip
  (.exit 2)))
(.block 3
  (.region [oM 67 13, oA 68 (aC .sub 67 1), oM 13 68] [0, 1, 4, 12, 13]) [0, 1, 4, 12, 13]))
def RB.slices_partitionCmpFunc_local_entry_5 : RCode :=
  (.seq (.seq (.drawn [oM 32 12, oM 33 13, oA 34 (aB .leq 32 33), oM 35 34, oT 36 35 (aM 4), oT 37 35 (aM 0), oT 38 35 (aM 12), oT 39 35 (aX 3 37 38), oT 40 35 (.load true 3 (.t 39)), oT 41 35 (aM 0), oT 42 35 (aM 1), oT 43 35 (aX 3 41 42), oT 44 35 (.load true 3 (.t 43)), oT 45 35 (.callv (.t 36) [.t 40, .t 44]), oT 46 35 (aC .lss 45 0), oA 47 (.pick (.t 35) (.t 46) (.c (.bool false)))] [[], [], [0, 1], [2], [3], [3], [3], [5, 6, 3], [7, 3], [3], [3], [9, 10, 3], [11, 3], [4, 8, 12, 3, 3], [13, 3], [3, 14]] [(0, []), (1, []), (2, []), (3, []), (4, []), (5, []), (6, []), (7, []), (9, []), (10, []), (11, []), (8, []), (12, []), (13, []), (14, []), (15, [])] (ancs [[],[],[0,1],[2],[3],[3],[3],[5,6,3],[7,3],[3],[3],[9,10,3],[11,3],[4,8,12,3,3],[13,3],[3,14]]) [0, 1, 4, 12, 13, 47])
(.cond (.t 47)
  .skip
  (.exit 0)))
(.block 1
  (.region [oM 48 12, oA 49 (aC .add 48 1), oM 12 49] [0, 1, 4, 12, 13]) [0, 1, 4, 12, 13]))
def RC.slices_partitionCmpFunc_local_entry : RFn := ⟨5, [.slot 10, .slot 11],
  (.seq (.region [oI 10 0, oA 11 (.mov (.c (.bool false)))] [0, 1, 2, 3, 4])
(.seq (.drawn [oM 14 0, oM 15 1, oM 16 0, oM 17 3, oM 18 0, oM 19 3, oA 20 (aX 3 18 19), oA 21 (.load true 3 (.t 20)), oM 22 0, oM 23 1, oA 24 (aX 3 22 23), oA 25 (.load true 3 (.t 24)), oA 26 (aX 3 14 15), oN (.store 3 (.t 26) (.t 21)), oA 27 (aX 3 16 17), oN (.store 3 (.t 27) (.t 25))] [[], [], [], [], [], [], [4, 5], [6], [], [], [8, 9], [10], [0, 1, 0, 1, 4, 5, 6, 7, 11], [12, 7, 0, 1, 4, 5, 6, 7, 11], [2, 3, 0, 1, 2, 3, 4, 5, 6, 7, 8, 9, 10, 11, 12, 13], [14, 11, 13, 0, 1, 2, 3, 4, 5, 6, 7, 8, 9, 10, 11, 12, 13]] [(0, []), (1, []), (2, []), (3, []), (4, []), (5, []), (6, []), (8, []), (9, []), (10, []), (7, []), (11, []), (12, []), (13, []), (14, []), (15, [])] (ancs [[],[],[],[],[],[],[4,5],[6],[],[],[8,9],[10],[0,1,0,1,4,5,6,7,11],[12,7,0,1,4,5,6,7,11],[2,3,0,1,2,3,4,5,6,7,8,9,10,11,12,13],[14,11,13,0,1,2,3,4,5,6,7,8,9,10,11,12,13]]) [0, 1, 2, 4])
(.seq (.region [oM 28 1, oA 29 (aC .add 28 1), oM 30 2, oA 31 (aC .sub 30 1), oM 12 29, oM 13 31] [0, 1, 4, 12, 13])
(.seq (.block 0
  (.loop [0, 1, 4, 12, 13] RB.slices_partitionCmpFunc_local_entry_5) [0, 1, 4, 12, 13])
(.seq (.block 2
  (.loop [0, 1, 4, 12, 13] RB.slices_partitionCmpFunc_local_entry_4) [0, 1, 4, 12, 13])
(.seq (.seq (.region [oM 69 12, oM 70 13, oA 71 (aB .gtr 69 70)] [0, 1, 4, 12, 13, 71])
(.cond (.t 71)
  (.seq (.drawn [oM 72 0, oM 73 13, oM 74 0, oM 75 1, oM 76 0, oM 77 1, oA 78 (aX 3 76 77), oA 79 (.load true 3 (.t 78)), oM 80 0, oM 81 13, oA 82 (aX 3 80 81), oA 83 (.load true 3 (.t 82)), oA 84 (aX 3 72 73), oN (.store 3 (.t 84) (.t 79)), oA 85 (aX 3 74 75), oN (.store 3 (.t 85) (.t 83))] [[], [], [], [], [], [], [4, 5], [6], [], [], [8, 9], [10], [0, 1, 0, 1, 4, 5, 6, 7, 11], [12, 7, 0, 1, 4, 5, 6, 7, 11], [2, 3, 0, 1, 2, 3, 4, 5, 6, 7, 8, 9, 10, 11, 12, 13], [14, 11, 13, 0, 1, 2, 3, 4, 5, 6, 7, 8, 9, 10, 11, 12, 13]] [(0, []), (1, []), (2, []), (3, []), (4, []), (5, []), (6, []), (8, []), (9, []), (10, []), (7, []), (11, []), (12, []), (13, []), (14, []), (15, [])] (ancs [[],[],[],[],[],[],[4,5],[6],[],[],[8,9],[10],[0,1,0,1,4,5,6,7,11],[12,7,0,1,4,5,6,7,11],[2,3,0,1,2,3,4,5,6,7,8,9,10,11,12,13],[14,11,13,0,1,2,3,4,5,6,7,8,9,10,11,12,13]]) [13])
(.seq (.region [oM 86 13, oM 10 86, oA 11 (.mov (.c (.bool true)))] [10, 11])
.ret))
  .skip))
(.seq (.drawn [oM 87 0, oM 88 12, oM 89 0, oM 90 13, oM 91 0, oM 92 13, oA 93 (aX 3 91 92), oA 94 (.load true 3 (.t 93)), oM 95 0, oM 96 12, oA 97 (aX 3 95 96), oA 98 (.load true 3 (.t 97)), oA 99 (aX 3 87 88), oN (.store 3 (.t 99) (.t 94)), oA 100 (aX 3 89 90), oN (.store 3 (.t 100) (.t 98))] [[], [], [], [], [], [], [4, 5], [6], [], [], [8, 9], [10], [0, 1, 0, 1, 4, 5, 6, 7, 11], [12, 7, 0, 1, 4, 5, 6, 7, 11], [2, 3, 0, 1, 2, 3, 4, 5, 6, 7, 8, 9, 10, 11, 12, 13], [14, 11, 13, 0, 1, 2, 3, 4, 5, 6, 7, 8, 9, 10, 11, 12, 13]] [(0, []), (1, []), (2, []), (3, []), (4, []), (5, []), (6, []), (8, []), (9, []), (10, []), (7, []), (11, []), (12, []), (13, []), (14, []), (15, [])] (ancs [[],[],[],[],[],[],[4,5],[6],[],[],[8,9],[10],[0,1,0,1,4,5,6,7,11],[12,7,0,1,4,5,6,7,11],[2,3,0,1,2,3,4,5,6,7,8,9,10,11,12,13],[14,11,13,0,1,2,3,4,5,6,7,8,9,10,11,12,13]]) [0, 1, 4, 12, 13])
(.seq (.region [oM 101 12, oA 102 (aC .add 101 1), oM 12 102] [0, 1, 4, 12, 13])
(.seq (.region [oM 103 13, oA 104 (aC .sub 103 1), oM 13 104] [0, 1, 4, 12, 13])
(.seq (.block 4
  (.loop [0, 1, 4, 12, 13] RB.slices_partitionCmpFunc_local_entry_3) [0, 1, 13])
(.seq (.drawn [oM 163 0, oM 164 13, oM 165 0, oM 166 1, oM 167 0, oM 168 1, oA 169 (aX 3 167 168), oA 170 (.load true 3 (.t 169)), oM 171 0, oM 172 13, oA 173 (aX 3 171 172), oA 174 (.load true 3 (.t 173)), oA 175 (aX 3 163 164), oN (.store 3 (.t 175) (.t 170)), oA 176 (aX 3 165 166), oN (.store 3 (.t 176) (.t 174))] [[], [], [], [], [], [], [4, 5], [6], [], [], [8, 9], [10], [0, 1, 0, 1, 4, 5, 6, 7, 11], [12, 7, 0, 1, 4, 5, 6, 7, 11], [2, 3, 0, 1, 2, 3, 4, 5, 6, 7, 8, 9, 10, 11, 12, 13], [14, 11, 13, 0, 1, 2, 3, 4, 5, 6, 7, 8, 9, 10, 11, 12, 13]] [(0, []), (1, []), (2, []), (3, []), (4, []), (5, []), (6, []), (8, []), (9, []), (10, []), (7, []), (11, []), (12, []), (13, []), (14, []), (15, [])] (ancs [[],[],[],[],[],[],[4,5],[6],[],[],[8,9],[10],[0,1,0,1,4,5,6,7,11],[12,7,0,1,4,5,6,7,11],[2,3,0,1,2,3,4,5,6,7,8,9,10,11,12,13],[14,11,13,0,1,2,3,4,5,6,7,8,9,10,11,12,13]]) [13])
(.seq (.region [oM 177 13, oM 10 177, oA 11 (.mov (.c (.bool false)))] [10, 11])
.ret))))))))))))⟩

def RC.math_bits_Len32 : RFn := ⟨1, [.slot 2],
  (.seq (.region [oI 2 0] [0, 2])
(.seq (.seq (.region [oM 3 0, oA 4 (.bin .geq (.t 3) (.c (u32 65536#32)))] [0, 2, 4])
(.cond (.t 4)
  (.seq (.region [oM 5 0, oA 6 (.bin .shr (.t 5) (.c (u64 16#64))), oM 0 6] [0])
(.region [oI 2 16] [0, 2]))
  .skip))
(.seq (.seq (.region [oM 7 0, oA 8 (.bin .geq (.t 7) (.c (u32 256#32)))] [0, 2, 8])
(.cond (.t 8)
  (.seq (.region [oM 9 0, oA 10 (.bin .shr (.t 9) (.c (u64 8#64))), oM 0 10] [0, 2])
(.region [oM 11 2, oA 12 (aC .add 11 8), oM 2 12] [0, 2]))
  .skip))
(.seq (.region [oM 13 2, oM 14 0, oA 15 (.conv .u8 (.t 14)), oA 16 (.idxStr (.c (.string lenTab)) (.t 15)), oA 17 (.conv .i64 (.t 16)), oA 18 (aB .add 13 17), oM 2 18] [2])
.ret))))⟩

def RC.math_bits_Len64 : RFn := ⟨1, [.slot 2],
  (.seq (.region [oI 2 0] [0, 2])
(.seq (.seq (.region [oM 3 0, oA 4 (.bin .geq (.t 3) (.c (u64 4294967296#64)))] [0, 2, 4])
(.cond (.t 4)
  (.seq (.region [oM 5 0, oA 6 (.bin .shr (.t 5) (.c (u64 32#64))), oM 0 6] [0])
(.region [oI 2 32] [0, 2]))
  .skip))
(.seq (.seq (.region [oM 7 0, oA 8 (.bin .geq (.t 7) (.c (u64 65536#64)))] [0, 2, 8])
(.cond (.t 8)
  (.seq (.region [oM 9 0, oA 10 (.bin .shr (.t 9) (.c (u64 16#64))), oM 0 10] [0, 2])
(.region [oM 11 2, oA 12 (aC .add 11 16), oM 2 12] [0, 2]))
  .skip))
(.seq (.seq (.region [oM 13 0, oA 14 (.bin .geq (.t 13) (.c (u64 256#64)))] [0, 2, 14])
(.cond (.t 14)
  (.seq (.region [oM 15 0, oA 16 (.bin .shr (.t 15) (.c (u64 8#64))), oM 0 16] [0, 2])
(.region [oM 17 2, oA 18 (aC .add 17 8), oM 2 18] [0, 2]))
  .skip))
(.seq (.region [oM 19 2, oM 20 0, oA 21 (.conv .u8 (.t 20)), oA 22 (.idxStr (.c (.string lenTab)) (.t 21)), oA 23 (.conv .i64 (.t 22)), oA 24 (aB .add 19 23), oM 2 24] [2])
.ret)))))⟩

def RB.chain_why_1 : RCode :=
  (.seq (.region [oA 28 (aB .lss 27 26)] [1, 2, 25, 26, 27, 28])
(.seq (.cond (.t 28)
  .skip
  (.exit 0))
(.seq (.block 1
  (.seq (.region [oA 29 (aX 2 25 27), oA 30 (.load true 2 (.t 29)), oA 8 (.alloc [i0, i0]), oN (.store 2 (.t 8) (.t 30))] [1, 2, 8, 25, 26, 27])
(.seq (.region [oA 32 (.load true 3 (.t 2)), oA 33 (.fieldAddr 0 (.t 8)), oA 34 (aL 33), oA 35 (.call F.plan_Find [.t 32, .t 34]), oM 31 35, oA 36 (.ext 0 (.t 31)), oA 37 (.ext 1 (.t 31)), oA 9 (.alloc [i0, i0, i0, nS]), oN (.store 4 (.t 9) (.t 36)), oM 10 37] [1, 2, 10, 25, 26, 27])
(.seq (.region [oM 38 10] [1, 2, 25, 26, 27, 38])
(.cond (.t 38)
  (.seq (.region [oI 4 11] [4])
.ret)
  .skip)))) [1, 2, 25, 26, 27])
(.region [oA 39 (aC .add 27 1), oM 27 39] [1, 2, 25, 26, 27]))))
def RC.chain_why : RFn := ⟨2, [.slot 4],
  (.seq (.region [oA 2 (.box (.t 0)), oI 4 0] [1, 2])
(.seq (.seq (.region [oA 13 (.load true 3 (.t 2)), oA 14 (.call F.plan_Check [.t 13]), oM 5 14] [1, 2, 5])
(.seq (.region [oM 15 5, oA 16 (aC .neq 15 0)] [1, 2, 5, 16])
(.cond (.t 16)
  (.seq (.region [oM 17 5, oM 4 17] [4])
.ret)
  .skip)))
(.seq (.seq (.region [oA 18 (.fieldAddr 0 (.t 2)), oA 19 (aL 18), oM 20 1, oA 21 (.call F.order_Check [.t 19, .t 20]), oM 6 21] [1, 2, 6])
(.seq (.region [oM 22 6, oA 23 (aC .neq 22 0)] [1, 2, 6, 23])
(.cond (.t 23)
  (.seq (.region [oM 24 6, oM 4 24] [4])
.ret)
  .skip)))
(.seq (.seq (.region [oM 25 1, oA 26 (.len (.t 25)), oI 27 0] [1, 2, 25, 26, 27])
(.block 0
  (.loop [1, 2, 25, 26, 27] RB.chain_why_1) [1, 2]))
(.seq (.region [oM 41 1, oA 42 (.call F.order_Total [.t 41]), oM 40 42, oA 43 (.ext 0 (.t 40)), oA 44 (.ext 1 (.t 40)), oM 11 43, oM 12 44] [2, 11])
(.seq (.block 2
  (.seq (.region [oA 46 (.load true 3 (.t 2)), oA 47 (.call F.plan_Splits [.t 46]), oA 48 (aC .gtr 47 0), oM 45 48] [2, 11, 45])
(.cond (.t 45)
  (.seq (.region [oI 4 15] [4])
.ret)
  (.seq (.region [oM 50 11, oA 51 (.load true 3 (.t 2)), oA 52 (.call F.plan_Free [.t 51]), oA 53 (aB .gtr 50 52), oM 49 53] [49])
(.cond (.t 49)
  (.seq (.region [oI 4 12] [4])
.ret)
  .skip)))) [])
(.seq (.region [oI 4 0] [4])
.ret)))))))⟩

def RB.chain_chain_place_1 : RCode :=
  (.seq (.seq (.region [oM 53 6, oA 54 (aC .gtr 53 0)] [0, 4, 5, 6, 54])
(.cond (.t 54)
  .skip
  (.exit 0)))
(.block 1
  (.seq (.region [oM 55 0, oA 56 (.call F.chain_chain_on [.t 55])] [0, 4, 5, 6])
(.seq (.drawn [oM 57 6, oM 58 0, oA 59 (.nilchk (.t 58)), oA 60 (.fieldAddr 1 (.t 59)), oA 61 (aL 60), oM 62 0, oA 63 (.nilchk (.t 62)), oA 64 (.fieldAddr 2 (.t 63)), oA 65 (aL 64), oA 66 (aX 1 61 65), oA 67 (aL 66), oA 68 (.minmax false [.t 57, .t 67]), oM 7 68] [[], [], [1], [2], [3], [], [5], [6], [7], [4, 8], [9], [0, 10], [11, 0, 1, 2, 3, 4, 5, 6, 7, 8, 9, 10, 11]] [(0, []), (1, []), (2, []), (3, []), (5, []), (6, []), (7, []), (4, []), (8, []), (9, []), (10, []), (11, []), (12, [])] (ancs [[],[],[1],[2],[3],[],[5],[6],[7],[4,8],[9],[0,10],[11,0,1,2,3,4,5,6,7,8,9,10,11]]) [0, 4, 5, 6, 7])
(.seq (.drawn [oA 69 (.fieldAddr 3 (.t 5)), oA 70 (aL 69), oM 71 0, oM 72 7, oA 73 (.call F.chain_chain_take [.t 71, .t 72]), oA 74 (.bslice [i0, (u64 0#64)] [(0, 2, .t 73)] 1 2), oA 75 (.app 2 16 (.t 70) (.t 74)), oA 76 (.fieldAddr 3 (.t 5)), oN (.store 1 (.t 76) (.t 75))] [[], [0], [], [], [2, 3], [4], [1, 5, 4], [0, 1, 2, 3, 4, 5, 6], [7, 6, 6, 0, 1, 2, 3, 4, 5, 6]] [(0, []), (2, []), (3, []), (1, []), (4, [69]), (5, []), (6, []), (7, []), (8, [])] (ancs [[],[0],[],[],[2,3],[4],[1,5,4],[0,1,2,3,4,5,6],[7,6,6,0,1,2,3,4,5,6]]) [0, 4, 5, 6, 7])
(.region [oM 77 6, oM 78 7, oA 79 (aB .sub 77 78), oM 6 79] [0, 4, 5, 6])))) [0, 4, 5, 6]))
def RC.chain_chain_place : RFn := ⟨2, [.cell 4 true 4],
  (.seq (.region [oA 3 (.box (.t 1)), oA 4 (.alloc [i0, i0, i0, nS])] [0, 3, 4])
(.seq (.region [oM 8 0, oA 9 (.call F.chain_chain_on [.t 8])] [0, 3, 4])
(.seq (.seq (.drawn [oM 10 0, oA 11 (.nilchk (.t 10)), oA 12 (.fieldAddr 1 (.t 11)), oA 13 (aL 12), oM 14 0, oA 15 (.nilchk (.t 14)), oA 16 (.fieldAddr 2 (.t 15)), oA 17 (aL 16), oA 18 (aX 1 13 17), oA 19 (aL 18), oA 20 (.fieldAddr 1 (.t 3)), oA 21 (aL 20), oA 22 (aB .geq 19 21)] [[], [0], [1], [2], [], [4], [5], [6], [3, 7], [8], [], [10], [9, 11]] [(0, []), (1, []), (2, []), (4, []), (5, []), (6, []), (10, []), (3, []), (7, []), (8, []), (9, []), (11, []), (12, [])] (ancs [[],[0],[1],[2],[],[4],[5],[6],[3,7],[8],[],[10],[9,11]]) [0, 3, 4, 22])
(.cond (.t 22)
  (.seq (.drawn [oM 23 0, oA 24 (.nilchk (.t 23)), oA 25 (.fieldAddr 1 (.t 24)), oA 26 (aL 25), oM 27 0, oA 28 (.nilchk (.t 27)), oA 29 (.fieldAddr 2 (.t 28)), oA 30 (aL 29), oA 31 (aX 1 26 30), oA 32 (aL 31), oA 33 (.fieldAddr 1 (.t 3)), oA 34 (aL 33), oA 35 (aB .sub 32 34), oA 36 (aX 1 26 30), oN (.store 1 (.t 36) (.t 35))] [[], [0], [1], [2], [], [4], [5], [6], [3, 7], [8], [], [10], [9, 11], [3, 7, 0, 1, 2, 3, 4, 5, 6, 7, 8, 9, 10, 11, 12], [13, 12, 0, 1, 2, 3, 4, 5, 6, 7, 8, 9, 10, 11, 12]] [(0, []), (1, []), (2, []), (4, []), (5, []), (6, []), (10, []), (3, []), (7, []), (8, []), (9, []), (11, []), (12, []), (13, []), (14, [])] (ancs [[],[0],[1],[2],[],[4],[5],[6],[3,7],[8],[],[10],[9,11],[3,7,0,1,2,3,4,5,6,7,8,9,10,11,12],[13,12,0,1,2,3,4,5,6,7,8,9,10,11,12]]) [0, 3, 4])
(.seq (.drawn [oA 37 (.fieldAddr 0 (.t 3)), oA 38 (aL 37), oA 39 (.fieldAddr 1 (.t 3)), oA 40 (aL 39), oM 41 0, oA 42 (.nilchk (.t 41)), oA 43 (.fieldAddr 2 (.t 42)), oA 44 (aL 43), oA 45 (.build [i0, i0, i0, nS] [(0, 1, .t 38), (1, 1, .t 40), (2, 1, .t 44)]), oN (.store 4 (.t 4) (.t 45))] [[], [0], [], [2], [], [4], [5], [6], [1, 3, 7], [8, 0, 1, 2, 3, 4, 5, 6, 7, 8]] [(0, []), (2, []), (4, []), (5, []), (6, []), (1, []), (3, []), (7, []), (8, []), (9, [])] (ancs [[],[0],[],[2],[],[4],[5],[6],[1,3,7],[8,0,1,2,3,4,5,6,7,8]]) [4])
.ret))
  .skip))
(.seq (.region [oA 46 (.fieldAddr 0 (.t 3)), oA 47 (aL 46), oA 48 (.fieldAddr 1 (.t 3)), oA 49 (aL 48), oA 50 (.build [i0, i0, i0, nS] [(0, 1, .t 47), (1, 1, .t 49)]), oA 5 (.alloc [i0, i0, i0, nS]), oN (.store 4 (.t 5) (.t 50))] [0, 3, 4, 5])
(.seq (.seq (.region [oA 51 (.fieldAddr 1 (.t 3)), oA 52 (aL 51), oM 6 52] [0, 4, 5, 6])
(.block 0
  (.loop [0, 4, 5, 6] RB.chain_chain_place_1) [4, 5]))
(.seq (.region [oA 80 (.load true 4 (.t 5)), oN (.store 4 (.t 4) (.t 80))] [4])
.ret))))))⟩

def RC.plan_place : RFn := ⟨2, [.slot 4],
  (.seq (.region [oA 2 (.box (.t 0)), oA 3 (.box (.t 1)), oA 4 (.mov (.c (.bool false)))] [2, 3])
(.seq (.seq (.region [oA 9 (.fieldAddr 0 (.t 3)), oA 10 (aL 9), oA 11 (.call F.order_Kind [.t 10]), oM 8 11, oA 12 (.ext 0 (.t 8)), oA 13 (.ext 1 (.t 8)), oA 14 (.ext 2 (.t 8)), oM 5 12, oM 6 13, oM 7 14] [2, 3, 7])
(.seq (.region [oM 15 7, oA 16 (.un .not (.t 15)), oM 17 16, oF 18 17 (.fieldAddr 1 (.t 3)), oF 19 17 (aL 18), oF 20 17 (aC .lss 19 1), oA 21 (.pick (.t 17) (.c (.bool true)) (.t 20)), oM 22 21, oF 23 22 (.fieldAddr 1 (.t 3)), oF 24 22 (aL 23), oF 25 22 (.fieldAddr 0 (.t 2)), oF 26 22 (aL 25), oF 27 22 (aB .gtr 24 26), oA 28 (.pick (.t 22) (.c (.bool true)) (.t 27))] [2, 3, 28])
(.cond (.t 28)
  (.seq (.region [oA 4 (.mov (.c (.bool false)))] [4])
.ret)
  .skip)))
(.seq (.seq (.region [oA 29 (.load true 4 (.t 3)), oA 30 (.call F.plan_split [.t 29])] [2, 3, 30])
(.cond (.t 30)
  (.seq (.region [oA 31 (.load true 3 (.t 2)), oA 32 (.load true 4 (.t 3)), oA 33 (.call F.plan_pieces [.t 31, .t 32]), oM 4 33] [4])
.ret)
  .skip))
(.seq (.region [oA 34 (.load true 3 (.t 2)), oA 35 (.fieldAddr 2 (.t 3)), oA 36 (aL 35), oA 37 (.call F.plan_has [.t 34, .t 36]), oM 4 37] [4])
.ret))))⟩

def RB.plan_apart_1 : RCode :=
  (.seq (.region [oA 19 (aB .lss 18 17)] [3, 9, 10, 11, 16, 17, 18, 19])
(.seq (.cond (.t 19)
  .skip
  (.exit 2))
(.seq (.block 3
  (.seq (.region [oA 20 (aX 2 16 18), oA 21 (.load true 2 (.t 20)), oA 7 (.alloc [i0, (u64 0#64)]), oN (.store 2 (.t 7) (.t 21))] [3, 7, 9, 10, 11, 16, 17, 18])
(.seq (.seq (.drawn [oA 22 (.fieldAddr 0 (.t 7)), oA 23 (aL 22), oA 24 (.idxP 16 1 (.t 3) (.t 23)), oA 25 (aL 24), oA 26 (.fieldAddr 1 (.t 7)), oA 27 (aL 26), oA 28 (aB .and 25 27), oA 29 (.bin .neq (.t 28) (.c (u64 0#64)))] [[], [0], [1], [2], [], [4], [3, 5], [6]] [(0, []), (4, []), (1, []), (2, []), (3, []), (5, []), (6, []), (7, [])] (ancs [[],[0],[1],[2],[],[4],[3,5],[6]]) [3, 7, 9, 10, 11, 16, 17, 18, 29])
(.cond (.t 29)
  (.seq (.region [oA 2 (.mov (.c (.bool false)))] [2])
.ret)
  .skip))
(.drawn [oA 30 (.fieldAddr 0 (.t 7)), oA 31 (aL 30), oA 32 (.idxP 16 1 (.t 3) (.t 31)), oA 33 (aL 32), oA 34 (.fieldAddr 1 (.t 7)), oA 35 (aL 34), oA 36 (aB .or 33 35), oA 37 (.idxP 16 1 (.t 3) (.t 31)), oN (.store 1 (.t 37) (.t 36))] [[], [0], [1], [2], [], [4], [3, 5], [1, 0, 1, 2, 3, 4, 5, 6], [7, 6, 0, 1, 2, 3, 4, 5, 6]] [(0, []), (4, []), (1, []), (2, []), (3, []), (5, []), (6, []), (7, []), (8, [])] (ancs [[],[0],[1],[2],[],[4],[3,5],[1,0,1,2,3,4,5,6],[7,6,0,1,2,3,4,5,6]]) [3, 9, 10, 11, 16, 17, 18]))) [3, 9, 10, 11, 16, 17, 18])
(.region [oA 38 (aC .add 18 1), oM 18 38] [3, 9, 10, 11, 16, 17, 18]))))
def RB.plan_apart_2 : RCode :=
  (.seq (.region [oA 12 (aB .lss 11 10)] [3, 9, 10, 11, 12])
(.seq (.cond (.t 12)
  .skip
  (.exit 0))
(.seq (.block 1
  (.seq (.region [oA 13 (aX 4 9 11), oA 14 (.load true 4 (.t 13)), oA 5 (.alloc [i0, i0, i0, nS]), oN (.store 4 (.t 5) (.t 14))] [3, 5, 9, 10, 11])
(.seq (.region [oA 15 (.fieldAddr 3 (.t 5)), oA 16 (aL 15), oA 17 (.len (.t 16)), oI 18 0] [3, 9, 10, 11, 16, 17, 18])
(.block 2
  (.loop [3, 9, 10, 11, 16, 17, 18] RB.plan_apart_1) [3, 9, 10, 11]))) [3, 9, 10, 11])
(.region [oA 39 (aC .add 11 1), oM 11 39] [3, 9, 10, 11]))))
def RC.plan_apart : RFn := ⟨1, [.slot 2],
  (.seq (.region [oA 1 (.box (.t 0)), oA 2 (.mov (.c (.bool false)))] [1])
(.seq (.region [oA 3 (.alloc [(u64 0#64), (u64 0#64), (u64 0#64), (u64 0#64), (u64 0#64), (u64 0#64), (u64 0#64), (u64 0#64), (u64 0#64), (u64 0#64), (u64 0#64), (u64 0#64), (u64 0#64), (u64 0#64), (u64 0#64), (u64 0#64)])] [1, 3])
(.seq (.seq (.region [oA 8 (.fieldAddr 2 (.t 1)), oA 9 (aL 8), oA 10 (.len (.t 9)), oI 11 0] [3, 9, 10, 11])
(.block 0
  (.loop [3, 9, 10, 11] RB.plan_apart_2) []))
(.seq (.region [oA 2 (.mov (.c (.bool true)))] [2])
.ret))))⟩

def RB.plan_Splits_1 : RCode :=
  (.seq (.region [oA 10 (aB .lss 9 8)] [3, 7, 8, 9, 10])
(.seq (.cond (.t 10)
  .skip
  (.exit 0))
(.seq (.block 1
  (.seq (.region [oA 11 (aX 4 7 9), oA 12 (.load true 4 (.t 11)), oA 5 (.alloc [i0, i0, i0, nS]), oN (.store 4 (.t 5) (.t 12))] [3, 5, 7, 8, 9])
(.seq (.region [oA 13 (.load true 4 (.t 5)), oA 14 (.call F.plan_split [.t 13])] [3, 7, 8, 9, 14])
(.cond (.t 14)
  (.region [oM 15 3, oA 16 (aC .add 15 1), oM 3 16] [3, 7, 8, 9])
  .skip))) [3, 7, 8, 9])
(.region [oA 17 (aC .add 9 1), oM 9 17] [3, 7, 8, 9]))))
def RC.plan_Splits : RFn := ⟨1, [.slot 2],
  (.seq (.region [oA 1 (.box (.t 0)), oI 2 0] [1])
(.seq (.region [oI 3 0] [1, 3])
(.seq (.seq (.region [oA 6 (.fieldAddr 2 (.t 1)), oA 7 (aL 6), oA 8 (.len (.t 7)), oI 9 0] [3, 7, 8, 9])
(.block 0
  (.loop [3, 7, 8, 9] RB.plan_Splits_1) [3]))
(.seq (.region [oM 18 3, oM 2 18] [2])
.ret))))⟩

def RB.plan_left_1 : RCode :=
  (.seq (.region [oA 20 (aB .lss 19 18)] [5, 17, 18, 19, 20])
(.seq (.cond (.t 20)
  .skip
  (.exit 0))
(.seq (.block 1
  (.seq (.region [oA 21 (aX 2 17 19), oA 22 (.load true 2 (.t 21)), oA 7 (.alloc [i0, i0]), oN (.store 2 (.t 7) (.t 22))] [5, 7, 17, 18, 19])
(.region [oM 23 5, oA 24 (.fieldAddr 1 (.t 7)), oA 25 (aL 24), oA 26 (aB .sub 23 25), oM 5 26] [5, 17, 18, 19])) [5, 17, 18, 19])
(.region [oA 27 (aC .add 19 1), oM 19 27] [5, 17, 18, 19]))))
def RC.plan_left : RFn := ⟨2, [.slot 4],
  (.seq (.region [oA 2 (.box (.t 0)), oI 4 0] [1, 2])
(.seq (.drawn [oA 8 (.fieldAddr 0 (.t 2)), oA 9 (aL 8), oA 10 (.load true 3 (.t 2)), oM 11 1, oA 12 (.call F.plan_Windows [.t 10, .t 11]), oA 13 (.call F.mask_Count [.t 12]), oA 14 (aB .sub 9 13), oM 5 14] [[], [0], [], [], [2, 3], [4, 4], [1, 5], [6, 5, 0, 1, 2, 3, 4, 5, 6]] [(0, []), (3, []), (1, []), (2, []), (4, [8]), (5, [8]), (6, []), (7, [])] (ancs [[],[0],[],[],[2,3],[4,4],[1,5],[6,5,0,1,2,3,4,5,6]]) [1, 2, 5])
(.seq (.seq (.region [oA 15 (.load true 3 (.t 2)), oM 16 1, oA 17 (.call F.plan_Wholes [.t 15, .t 16]), oA 18 (.len (.t 17)), oI 19 0] [5, 17, 18, 19])
(.block 0
  (.loop [5, 17, 18, 19] RB.plan_left_1) [5]))
(.seq (.region [oM 28 5, oM 4 28] [4])
.ret))))⟩

def RC.plan_has : RFn := ⟨2, [.slot 4],
  (.seq (.region [oA 2 (.box (.t 0)), oA 4 (.mov (.c (.bool false)))] [1, 2])
(.seq (.region [oM 5 1, oA 6 (aC .geq 5 0), oM 7 6, oT 8 7 (aM 1), oT 9 7 (aC .lss 8 16), oA 10 (.pick (.t 7) (.t 9) (.c (.bool false))), oM 11 10, oT 12 11 (.fieldAddr 1 (.t 2)), oT 13 11 (aL 12), oT 14 11 (aM 1), oT 15 11 (aB .shr 13 14), oT 16 11 (.bin .and (.t 15) (.c (u32 1#32))), oT 17 11 (.bin .eql (.t 16) (.c (u32 1#32))), oA 18 (.pick (.t 11) (.t 17) (.c (.bool false))), oM 4 18] [4])
.ret))⟩

def RC.plan_split : RFn := ⟨1, [.slot 2],
  (.seq (.region [oA 1 (.box (.t 0)), oA 2 (.mov (.c (.bool false)))] [1])
(.seq (.region [oA 3 (.fieldAddr 3 (.t 1)), oA 4 (aL 3), oA 5 (.len (.t 4)), oA 6 (aC .gtr 5 0), oM 2 6] [2])
.ret))⟩

def RC.plan_find : RFn := ⟨2, [.slot 4, .slot 5],
  (.seq (.region [oA 2 (.box (.t 0)), oI 4 0, oA 5 (.mov (.c (.bool false)))] [1, 2])
(.seq (.region [oA 6 (.fieldAddr 2 (.t 2)), oA 7 (aL 6), oM 8 1, oA 9 (.call F.slices_BinarySearchFunc_api_Place_api_Place_int [.t 7, .t 8, .f F.plan_find_1]), oA 10 (.ext 0 (.t 9)), oA 11 (.ext 1 (.t 9)), oM 4 10, oM 5 11] [4, 5])
.ret))⟩

def RC.slices_Clone_api_Piece_api_Piece : RFn := ⟨1, [.slot 2],
  (.seq (.region [oA 2 (.mov (.c nS))] [0])
(.seq (.seq (.region [oM 3 0, oA 4 (.eq false .slice (.t 3) (.c nS))] [0, 4])
(.cond (.t 4)
  (.seq (.region [oA 2 (.mov (.c nS))] [2])
.ret)
  .skip))
(.seq (.region [oA 5 (.bslice [] [] 0 2), oM 6 0, oA 7 (.app 2 16 (.t 5) (.t 6)), oM 2 7] [2])
.ret)))⟩

def RB.plan_clone_1 : RCode :=
  (.seq (.region [oA 14 (aB .lss 13 12)] [1, 2, 3, 11, 12, 13, 14])
(.seq (.cond (.t 14)
  .skip
  (.exit 0))
(.seq (.block 1
  (.seq (.region [oA 15 (aX 4 11 13), oA 16 (.load true 4 (.t 15)), oA 5 (.alloc [i0, i0, i0, nS]), oN (.store 4 (.t 5) (.t 16))] [1, 2, 3, 5, 11, 12, 13])
(.seq (.region [oA 17 (.fieldAddr 3 (.t 5)), oA 18 (aL 17), oA 19 (.call F.slices_Clone_api_Piece_api_Piece [.t 18]), oA 20 (.fieldAddr 3 (.t 5)), oN (.store 1 (.t 20) (.t 19))] [1, 2, 3, 5, 11, 12, 13])
(.region [oM 21 3, oA 22 (.load true 4 (.t 5)), oA 23 (.bslice [i0, i0, i0, nS] [(0, 4, .t 22)] 1 4), oA 24 (.app 4 48 (.t 21) (.t 23)), oM 3 24] [1, 2, 3, 11, 12, 13]))) [1, 2, 3, 11, 12, 13])
(.region [oA 25 (aC .add 13 1), oM 13 25] [1, 2, 3, 11, 12, 13]))))
def RC.plan_clone : RFn := ⟨1, [.cell 2 true 3],
  (.seq (.region [oA 1 (.box (.t 0)), oA 2 (.alloc [i0, (u32 0#32), nS])] [1, 2])
(.seq (.region [oA 6 (.fieldAddr 2 (.t 1)), oA 7 (aL 6), oA 8 (.len (.t 7)), oA 9 (.mkslice 4 48 [i0, i0, i0, nS] (.c i0) (.t 8)), oM 3 9] [1, 2, 3])
(.seq (.seq (.region [oA 10 (.fieldAddr 2 (.t 1)), oA 11 (aL 10), oA 12 (.len (.t 11)), oI 13 0] [1, 2, 3, 11, 12, 13])
(.block 0
  (.loop [1, 2, 3, 11, 12, 13] RB.plan_clone_1) [1, 2, 3]))
(.seq (.region [oM 26 3, oA 27 (.fieldAddr 2 (.t 1)), oN (.store 1 (.t 27) (.t 26))] [1, 2])
(.seq (.region [oA 28 (.load true 3 (.t 1)), oN (.store 3 (.t 2) (.t 28))] [2])
.ret)))))⟩

def RC.slices_Delete_api_Place_api_Place : RFn := ⟨3, [.slot 6],
  (.seq (.region [oA 6 (.mov (.c nS))] [0, 1, 2])
(.seq (.region [oM 8 0, oM 9 1, oM 10 2, oM 11 0, oA 12 (.len (.t 11)), oA 13 (.sub 4 (.t 8) (some (.t 9)) (some (.t 10)) (some (.t 12)))] [0, 1, 2])
(.seq (.seq (.region [oM 14 1, oM 15 2, oA 16 (aB .eql 14 15)] [0, 1, 2, 16])
(.cond (.t 16)
  (.seq (.region [oM 17 0, oM 6 17] [6])
.ret)
  .skip))
(.seq (.region [oM 18 0, oA 19 (.len (.t 18)), oM 7 19] [0, 1, 2, 7])
(.seq (.drawn [oM 20 0, oM 21 1, oA 22 (.sub 4 (.t 20) none (some (.t 21)) none), oM 23 0, oM 24 2, oA 25 (.sub 4 (.t 23) (some (.t 24)) none none), oA 26 (.app 4 48 (.t 22) (.t 25)), oM 0 26] [[], [], [0, 1], [], [], [3, 4], [2, 5], [6, 6, 0, 1, 2, 3, 4, 5, 6]] [(0, []), (1, []), (3, []), (4, []), (2, []), (5, []), (6, []), (7, [])] (ancs [[],[],[0,1],[],[],[3,4],[2,5],[6,6,0,1,2,3,4,5,6]]) [0, 7])
(.seq (.region [oM 27 0, oM 28 0, oA 29 (.len (.t 28)), oM 30 7, oA 31 (.sub 4 (.t 27) (some (.t 29)) (some (.t 30)) none), oN (.clr 4 [i0, i0, i0, nS] (.t 31))] [0])
(.seq (.region [oM 32 0, oM 6 32] [6])
.ret)))))))⟩

def RC.slices_Clone_api_Want_api_Want : RFn := ⟨1, [.slot 2],
  (.seq (.region [oA 2 (.mov (.c nS))] [0])
(.seq (.seq (.region [oM 3 0, oA 4 (.eq false .slice (.t 3) (.c nS))] [0, 4])
(.cond (.t 4)
  (.seq (.region [oA 2 (.mov (.c nS))] [2])
.ret)
  .skip))
(.seq (.region [oA 5 (.bslice [] [] 0 2), oM 6 0, oA 7 (.app 2 16 (.t 5) (.t 6)), oM 2 7] [2])
.ret)))⟩

def RC.slices_SortFunc_api_Want_api_Want : RFn := ⟨2, [],
  (.seq (.region [oM 5 0, oA 6 (.len (.t 5)), oM 4 6] [0, 1, 4])
(.region [oM 7 0, oM 8 4, oM 9 4, oA 10 (.conv .u64 (.t 9)), oA 11 (.call F.math_bits_Len [.t 10]), oM 12 1, oA 13 (.call F.slices_pdqsortCmpFunc_api_Want [.t 7, .c i0, .t 8, .t 11, .t 12])] []))⟩

def RC.order_compare : RFn := ⟨2, [.slot 4],
  (.seq (.region [oA 2 (.box (.t 0)), oA 3 (.box (.t 1)), oI 4 0] [2, 3])
(.seq (.drawn [oA 5 (.fieldAddr 1 (.t 3)), oA 6 (aL 5), oA 7 (.fieldAddr 1 (.t 2)), oA 8 (aL 7), oA 9 (.call F.cmp_Compare_int [.t 6, .t 8]), oA 10 (.fieldAddr 0 (.t 2)), oA 11 (aL 10), oA 12 (.fieldAddr 0 (.t 3)), oA 13 (aL 12), oA 14 (.call F.cmp_Compare_int [.t 11, .t 13]), oA 15 (.bslice [i0, i0] [(0, 1, .t 9), (1, 1, .t 14)] 2 1), oA 16 (.call F.cmp_Or_int [.t 15]), oM 4 16] [[], [0], [], [2], [1, 3], [], [5], [], [7], [6, 8, 4], [4, 9], [10, 9], [11, 11, 0, 1, 2, 3, 4, 5, 6, 7, 8, 9, 10, 11]] [(0, []), (2, []), (5, []), (7, []), (1, []), (3, []), (6, []), (8, []), (4, [10, 12]), (9, []), (10, []), (11, []), (12, [])] (ancs [[],[0],[],[2],[1,3],[],[5],[],[7],[6,8,4],[4,9],[10,9],[11,11,0,1,2,3,4,5,6,7,8,9,10,11]]) [4])
.ret))⟩

def RC.fixq_MulDiv : RFn := ⟨3, [.slot 6, .slot 7, .slot 8],
  (.seq (.region [oA 6 (.mov (.c (u64 0#64))), oA 7 (.mov (.c (u64 0#64))), oI 8 0] [0, 1, 2])
(.seq (.seq (.region [oM 13 2, oA 14 (.bin .eql (.t 13) (.c (u64 0#64)))] [0, 1, 2, 14])
(.cond (.t 14)
  (.seq (.region [oA 6 (.mov (.c (u64 0#64))), oA 7 (.mov (.c (u64 0#64))), oI 8 1] [6, 7, 8])
.ret)
  .skip))
(.seq (.region [oM 16 0, oM 17 1, oA 18 (.call F.math_bits_Mul64 [.t 16, .t 17]), oM 15 18, oA 19 (.ext 0 (.t 15)), oA 20 (.ext 1 (.t 15)), oM 9 19, oM 10 20] [2, 9, 10])
(.seq (.seq (.region [oM 21 9, oM 22 2, oA 23 (aB .geq 21 22)] [2, 9, 10, 23])
(.cond (.t 23)
  (.seq (.region [oA 6 (.mov (.c (u64 0#64))), oA 7 (.mov (.c (u64 0#64))), oI 8 5] [6, 7, 8])
.ret)
  .skip))
(.seq (.region [oM 25 9, oM 26 10, oM 27 2, oA 28 (.call F.math_bits_Div64 [.t 25, .t 26, .t 27]), oM 24 28, oA 29 (.ext 0 (.t 24)), oA 30 (.ext 1 (.t 24)), oM 11 29, oM 12 30] [11, 12])
(.seq (.region [oM 31 11, oM 32 12, oM 6 31, oM 7 32, oI 8 0] [6, 7, 8])
.ret))))))⟩

def RC.math_bits_Mul64 : RFn := ⟨2, [.slot 4, .slot 5],
  (.seq (.region [oA 4 (.mov (.c (u64 0#64))), oA 5 (.mov (.c (u64 0#64)))] [0, 1])
(.seq (.region [oM 14 0, oA 15 (.bin .and (.t 14) (.c (u64 4294967295#64))), oM 6 15] [0, 1, 6])
(.seq (.region [oM 16 0, oA 17 (.bin .shr (.t 16) (.c (u64 32#64))), oM 7 17] [0, 1, 6, 7])
(.seq (.region [oM 18 1, oA 19 (.bin .and (.t 18) (.c (u64 4294967295#64))), oM 8 19] [0, 1, 6, 7, 8])
(.seq (.region [oM 20 1, oA 21 (.bin .shr (.t 20) (.c (u64 32#64))), oM 9 21] [0, 1, 6, 7, 8, 9])
(.seq (.region [oM 22 6, oM 23 8, oA 24 (aB .mul 22 23), oM 10 24] [0, 1, 6, 7, 8, 9, 10])
(.seq (.region [oM 25 7, oM 26 8, oA 27 (aB .mul 25 26), oM 28 10, oA 29 (.bin .shr (.t 28) (.c (u64 32#64))), oA 30 (aB .add 27 29), oM 11 30] [0, 1, 6, 7, 9, 11])
(.seq (.region [oM 31 11, oA 32 (.bin .and (.t 31) (.c (u64 4294967295#64))), oM 12 32] [0, 1, 6, 7, 9, 11, 12])
(.seq (.region [oM 33 11, oA 34 (.bin .shr (.t 33) (.c (u64 32#64))), oM 13 34] [0, 1, 6, 7, 9, 12, 13])
(.seq (.region [oM 35 12, oM 36 6, oM 37 9, oA 38 (aB .mul 36 37), oA 39 (aB .add 35 38), oM 12 39] [0, 1, 7, 9, 12, 13])
(.seq (.region [oM 40 7, oM 41 9, oA 42 (aB .mul 40 41), oM 43 13, oA 44 (aB .add 42 43), oM 45 12, oA 46 (.bin .shr (.t 45) (.c (u64 32#64))), oA 47 (aB .add 44 46), oM 4 47] [0, 1, 4])
(.seq (.region [oM 48 0, oM 49 1, oA 50 (aB .mul 48 49), oM 5 50] [4, 5])
.ret))))))))))))⟩

def RB.slices_siftDownCmpFunc_local_entry_1 : RCode :=
  (.block 1
  (.seq (.region [oM 13 10, oA 14 (.bin .mul (.c (.int .i64 2)) (.t 13)), oA 15 (aC .add 14 1), oM 11 15] [0, 2, 3, 4, 10, 11])
(.seq (.seq (.region [oM 16 11, oM 17 2, oA 18 (aB .geq 16 17)] [0, 2, 3, 4, 10, 11, 18])
(.cond (.t 18)
  (.exit 0)
  .skip))
(.seq (.seq (.drawn [oM 19 11, oA 20 (aC .add 19 1), oM 21 2, oA 22 (aB .lss 20 21), oM 23 22, oT 24 23 (aM 4), oT 25 23 (aM 0), oT 26 23 (aM 3), oT 27 23 (aM 11), oT 28 23 (aB .add 26 27), oT 29 23 (aX 3 25 28), oT 30 23 (.load true 3 (.t 29)), oT 31 23 (aM 0), oT 32 23 (aM 3), oT 33 23 (aM 11), oT 34 23 (aB .add 32 33), oT 35 23 (aC .add 34 1), oT 36 23 (aX 3 31 35), oT 37 23 (.load true 3 (.t 36)), oT 38 23 (.callv (.t 24) [.t 30, .t 37]), oT 39 23 (aC .lss 38 0), oA 40 (.pick (.t 23) (.t 39) (.c (.bool false)))] [[], [0], [], [1, 2], [3], [4], [4], [4], [4], [7, 8, 4], [6, 9, 4], [10, 4], [4], [4], [4], [13, 14, 4], [15, 4], [12, 16, 4], [17, 4], [5, 11, 18, 4, 4], [19, 4], [4, 20]] [(0, []), (1, []), (2, []), (3, []), (4, []), (5, []), (6, []), (7, []), (8, []), (9, []), (10, []), (12, []), (13, []), (14, []), (15, []), (16, []), (17, []), (11, []), (18, []), (19, []), (20, []), (21, [])] (ancs [[],[0],[],[1,2],[3],[4],[4],[4],[4],[7,8,4],[6,9,4],[10,4],[4],[4],[4],[13,14,4],[15,4],[12,16,4],[17,4],[5,11,18,4,4],[19,4],[4,20]]) [0, 2, 3, 4, 10, 11, 40])
(.cond (.t 40)
  (.region [oM 41 11, oA 42 (aC .add 41 1), oM 11 42] [0, 2, 3, 4, 10, 11])
  .skip))
(.seq (.seq (.drawn [oM 43 4, oM 44 0, oM 45 3, oM 46 10, oA 47 (aB .add 45 46), oA 48 (aX 3 44 47), oA 49 (.load true 3 (.t 48)), oM 50 0, oM 51 3, oM 52 11, oA 53 (aB .add 51 52), oA 54 (aX 3 50 53), oA 55 (.load true 3 (.t 54)), oA 56 (.callv (.t 43) [.t 49, .t 55]), oA 57 (aC .lss 56 0), oA 58 (.un .not (.t 57))] [[], [], [], [], [2, 3], [1, 4], [5], [], [], [], [8, 9], [7, 10], [11], [0, 6, 12], [13], [14]] [(0, []), (1, []), (2, []), (3, []), (4, []), (5, []), (7, []), (8, []), (9, []), (10, []), (11, []), (6, []), (12, []), (13, []), (14, []), (15, [])] (ancs [[],[],[],[],[2,3],[1,4],[5],[],[],[],[8,9],[7,10],[11],[0,6,12],[13],[14]]) [0, 2, 3, 4, 10, 11, 58])
(.cond (.t 58)
  .ret
  .skip))
(.seq (.drawn [oM 59 0, oM 60 3, oM 61 10, oA 62 (aB .add 60 61), oM 63 0, oM 64 3, oM 65 11, oA 66 (aB .add 64 65), oM 67 0, oM 68 3, oM 69 11, oA 70 (aB .add 68 69), oA 71 (aX 3 67 70), oA 72 (.load true 3 (.t 71)), oM 73 0, oM 74 3, oM 75 10, oA 76 (aB .add 74 75), oA 77 (aX 3 73 76), oA 78 (.load true 3 (.t 77)), oA 79 (aX 3 59 62), oN (.store 3 (.t 79) (.t 72)), oA 80 (aX 3 63 66), oN (.store 3 (.t 80) (.t 78))] [[], [], [], [1, 2], [], [], [], [5, 6], [], [], [], [9, 10], [8, 11], [12], [], [], [], [15, 16], [14, 17], [18], [0, 3, 0, 1, 2, 3, 8, 9, 10, 11, 12, 13, 19], [20, 13, 0, 1, 2, 3, 8, 9, 10, 11, 12, 13, 19], [4, 7, 0, 1, 2, 3, 4, 5, 6, 7, 8, 9, 10, 11, 12, 13, 14, 15, 16, 17, 18, 19, 20, 21], [22, 19, 21, 0, 1, 2, 3, 4, 5, 6, 7, 8, 9, 10, 11, 12, 13, 14, 15, 16, 17, 18, 19, 20, 21]] [(0, []), (1, []), (2, []), (3, []), (4, []), (5, []), (6, []), (7, []), (8, []), (9, []), (10, []), (11, []), (12, []), (14, []), (15, []), (16, []), (17, []), (18, []), (13, []), (19, []), (20, []), (21, []), (22, []), (23, [])] (ancs [[],[],[],[1,2],[],[],[],[5,6],[],[],[],[9,10],[8,11],[12],[],[],[],[15,16],[14,17],[18],[0,3,0,1,2,3,8,9,10,11,12,13,19],[20,13,0,1,2,3,8,9,10,11,12,13,19],[4,7,0,1,2,3,4,5,6,7,8,9,10,11,12,13,14,15,16,17,18,19,20,21],[22,19,21,0,1,2,3,4,5,6,7,8,9,10,11,12,13,14,15,16,17,18,19,20,21]]) [0, 2, 3, 4, 11])
(.region [oM 81 11, oM 10 81] [0, 2, 3, 4, 10])))))) [0, 2, 3, 4, 10])
def RC.slices_siftDownCmpFunc_local_entry : RFn := ⟨5, [],
  (.seq (.region [oM 12 1, oM 10 12] [0, 2, 3, 4, 10])
(.block 0
  (.loop [0, 2, 3, 4, 10] RB.slices_siftDownCmpFunc_local_entry_1) []))⟩

def RC.slices_nextPowerOfTwo : RFn := ⟨1, [.slot 2],
  (.seq (.region [oA 2 (.mov (.c (u64 0#64)))] [0])
(.seq (.region [oM 3 0, oA 4 (.conv .u64 (.t 3)), oA 5 (.call F.math_bits_Len [.t 4]), oA 6 (.bin .shl (.c (u64 1#64)) (.t 5)), oM 2 6] [2])
.ret))⟩

def RC.slices_xorshift_Next : RFn := ⟨1, [.slot 2],
  (.seq (.region [oA 2 (.mov (.c (u64 0#64)))] [0])
(.seq (.drawn [oM 3 0, oA 4 (.nilchk (.t 3)), oA 5 (aL 4), oM 6 0, oA 7 (.nilchk (.t 6)), oA 8 (aL 7), oA 9 (.bin .shl (.t 8) (.c (u64 13#64))), oA 10 (aB .xor 5 9), oA 11 (.nilchk (.t 3)), oN (.store 1 (.t 11) (.t 10))] [[], [0], [1], [], [3], [4], [5], [2, 6], [0, 0, 1, 2, 3, 4, 5, 6, 7], [8, 7, 0, 1, 2, 3, 4, 5, 6, 7]] [(0, []), (1, []), (3, []), (4, []), (2, []), (5, []), (6, []), (7, []), (8, []), (9, [])] (ancs [[],[0],[1],[],[3],[4],[5],[2,6],[0,0,1,2,3,4,5,6,7],[8,7,0,1,2,3,4,5,6,7]]) [0])
(.seq (.drawn [oM 12 0, oA 13 (.nilchk (.t 12)), oA 14 (aL 13), oM 15 0, oA 16 (.nilchk (.t 15)), oA 17 (aL 16), oA 18 (.bin .shr (.t 17) (.c (u64 7#64))), oA 19 (aB .xor 14 18), oA 20 (.nilchk (.t 12)), oN (.store 1 (.t 20) (.t 19))] [[], [0], [1], [], [3], [4], [5], [2, 6], [0, 0, 1, 2, 3, 4, 5, 6, 7], [8, 7, 0, 1, 2, 3, 4, 5, 6, 7]] [(0, []), (1, []), (3, []), (4, []), (2, []), (5, []), (6, []), (7, []), (8, []), (9, [])] (ancs [[],[0],[1],[],[3],[4],[5],[2,6],[0,0,1,2,3,4,5,6,7],[8,7,0,1,2,3,4,5,6,7]]) [0])
(.seq (.drawn [oM 21 0, oA 22 (.nilchk (.t 21)), oA 23 (aL 22), oM 24 0, oA 25 (.nilchk (.t 24)), oA 26 (aL 25), oA 27 (.bin .shl (.t 26) (.c (u64 17#64))), oA 28 (aB .xor 23 27), oA 29 (.nilchk (.t 21)), oN (.store 1 (.t 29) (.t 28))] [[], [0], [1], [], [3], [4], [5], [2, 6], [0, 0, 1, 2, 3, 4, 5, 6, 7], [8, 7, 0, 1, 2, 3, 4, 5, 6, 7]] [(0, []), (1, []), (3, []), (4, []), (2, []), (5, []), (6, []), (7, []), (8, []), (9, [])] (ancs [[],[0],[1],[],[3],[4],[5],[2,6],[0,0,1,2,3,4,5,6,7],[8,7,0,1,2,3,4,5,6,7]]) [0])
(.seq (.region [oM 30 0, oA 31 (.nilchk (.t 30)), oA 32 (aL 31), oM 2 32] [2])
.ret)))))⟩

def RC.slices_medianAdjacentCmpFunc_local_entry : RFn := ⟨4, [.slot 8],
  (.seq (.region [oI 8 0] [0, 1, 2, 3])
(.seq (.region [oM 9 0, oM 10 1, oA 11 (aC .sub 10 1), oM 12 1, oM 13 1, oA 14 (aC .add 13 1), oM 15 2, oM 16 3, oA 17 (.call F.slices_medianCmpFunc_local_entry [.t 9, .t 11, .t 12, .t 14, .t 15, .t 16]), oM 8 17] [8])
.ret))⟩

def RC.slices_medianCmpFunc_local_entry : RFn := ⟨6, [.slot 12],
  (.seq (.region [oI 12 0] [0, 1, 2, 3, 4, 5])
(.seq (.region [oM 14 0, oM 15 1, oM 16 2, oM 17 4, oM 18 5, oA 19 (.call F.slices_order2CmpFunc_local_entry [.t 14, .t 15, .t 16, .t 17, .t 18]), oM 13 19, oA 20 (.ext 0 (.t 13)), oA 21 (.ext 1 (.t 13)), oM 1 20, oM 2 21] [0, 1, 2, 3, 4, 5])
(.seq (.region [oM 23 0, oM 24 2, oM 25 3, oM 26 4, oM 27 5, oA 28 (.call F.slices_order2CmpFunc_local_entry [.t 23, .t 24, .t 25, .t 26, .t 27]), oM 22 28, oA 29 (.ext 0 (.t 22)), oA 30 (.ext 1 (.t 22)), oM 2 29, oM 3 30] [0, 1, 2, 4, 5])
(.seq (.region [oM 32 0, oM 33 1, oM 34 2, oM 35 4, oM 36 5, oA 37 (.call F.slices_order2CmpFunc_local_entry [.t 32, .t 33, .t 34, .t 35, .t 36]), oM 31 37, oA 38 (.ext 0 (.t 31)), oA 39 (.ext 1 (.t 31)), oM 1 38, oM 2 39] [2])
(.seq (.region [oM 40 2, oM 12 40] [12])
.ret)))))⟩

def RB.plan_Free_1 : RCode :=
  (.seq (.region [oA 10 (aB .lss 9 8)] [1, 3, 7, 8, 9, 10])
(.seq (.cond (.t 10)
  .skip
  (.exit 0))
(.seq (.block 1
  (.seq (.region [oA 11 (aX 1 7 9), oA 12 (aL 11), oM 5 12] [1, 3, 5, 7, 8, 9])
(.region [oM 13 3, oA 14 (.load true 3 (.t 1)), oM 15 5, oA 16 (.call F.plan_Room [.t 14, .t 15]), oA 17 (aB .add 13 16), oM 3 17] [1, 3, 7, 8, 9])) [1, 3, 7, 8, 9])
(.region [oA 18 (aC .add 9 1), oM 9 18] [1, 3, 7, 8, 9]))))
def RC.plan_Free : RFn := ⟨1, [.slot 2],
  (.seq (.region [oA 1 (.box (.t 0)), oI 2 0] [1])
(.seq (.region [oI 3 0] [1, 3])
(.seq (.seq (.region [oA 6 (.load true 3 (.t 1)), oA 7 (.call F.plan_Cores [.t 6]), oA 8 (.len (.t 7)), oI 9 0] [1, 3, 7, 8, 9])
(.block 0
  (.loop [1, 3, 7, 8, 9] RB.plan_Free_1) [3]))
(.seq (.region [oM 19 3, oM 2 19] [2])
.ret))))⟩

def RB.chain_chain_on_1 : RCode :=
  (.seq (.seq (.drawn [oM 2 0, oA 3 (.nilchk (.t 2)), oA 4 (.fieldAddr 2 (.t 3)), oA 5 (aL 4), oM 6 0, oA 7 (.nilchk (.t 6)), oA 8 (.fieldAddr 1 (.t 7)), oA 9 (aL 8), oA 10 (.len (.t 9)), oA 11 (aB .lss 5 10), oM 12 11, oT 13 12 (aM 0), oT 14 12 (.nilchk (.t 13)), oT 15 12 (.fieldAddr 1 (.t 14)), oT 16 12 (aL 15), oT 17 12 (aM 0), oT 18 12 (.nilchk (.t 17)), oT 19 12 (.fieldAddr 2 (.t 18)), oT 20 12 (aL 19), oT 21 12 (aX 1 16 20), oT 22 12 (aL 21), oT 23 12 (aC .eql 22 0), oA 24 (.pick (.t 12) (.t 23) (.c (.bool false)))] [[], [0], [1], [2], [], [4], [5], [6], [7], [3, 8], [9], [10], [11, 10], [12, 10], [13, 10], [10], [15, 10], [16, 10], [17, 10], [14, 18, 10], [19, 10], [20, 10], [10, 21]] [(0, []), (1, []), (2, []), (4, []), (5, []), (6, []), (3, []), (7, []), (8, []), (9, []), (10, []), (11, []), (12, []), (13, []), (15, []), (16, []), (17, []), (14, []), (18, []), (19, []), (20, []), (21, []), (22, [])] (ancs [[],[0],[1],[2],[],[4],[5],[6],[7],[3,8],[9],[10],[11,10],[12,10],[13,10],[10],[15,10],[16,10],[17,10],[14,18,10],[19,10],[20,10],[10,21]]) [0, 24])
(.cond (.t 24)
  .skip
  (.exit 0)))
(.block 1
  (.region [oM 25 0, oA 26 (.nilchk (.t 25)), oA 27 (.fieldAddr 2 (.t 26)), oA 28 (aL 27), oA 29 (aC .add 28 1), oA 30 (.nilchk (.t 25)), oA 31 (.fieldAddr 2 (.t 30)), oN (.store 1 (.t 31) (.t 29))] [0]) [0]))
def RC.chain_chain_on : RFn := ⟨1, [],
  (.block 0
  (.loop [0] RB.chain_chain_on_1) [])⟩

def RC.chain_chain_take : RFn := ⟨2, [.cell 4 true 2],
  (.seq (.region [oA 4 (.alloc [i0, (u64 0#64)])] [0, 1, 4])
(.seq (.drawn [oM 6 0, oA 7 (.nilchk (.t 6)), oA 8 (.fieldAddr 2 (.t 7)), oA 9 (aL 8), oM 10 0, oA 11 (.nilchk (.t 10)), oA 12 (.fieldAddr 0 (.t 11)), oA 13 (aL 12), oM 14 0, oA 15 (.nilchk (.t 14)), oA 16 (.fieldAddr 3 (.t 15)), oA 17 (aL 16), oM 18 1, oA 19 (.call F.mask_Round [.t 13, .t 17, .t 18]), oA 20 (.build [i0, (u64 0#64)] [(0, 1, .t 9), (1, 1, .t 19)]), oA 5 (.alloc [i0, (u64 0#64)]), oN (.store 2 (.t 5) (.t 20))] [[], [0], [1], [2], [], [4], [5], [6], [], [8], [9], [10], [], [7, 11, 12], [3, 13], [], [15, 14, 13, 0, 1, 2, 3, 4, 5, 6, 7, 8, 9, 10, 11, 12, 13, 14, 15]] [(0, []), (1, []), (2, []), (4, []), (5, []), (6, []), (8, []), (9, []), (10, []), (12, []), (3, []), (7, []), (11, []), (13, [8]), (14, []), (15, []), (16, [])] (ancs [[],[0],[1],[2],[],[4],[5],[6],[],[8],[9],[10],[],[7,11,12],[3,13],[],[15,14,13,0,1,2,3,4,5,6,7,8,9,10,11,12,13,14,15]]) [0, 1, 4, 5])
(.seq (.drawn [oM 21 0, oA 22 (.nilchk (.t 21)), oA 23 (.fieldAddr 1 (.t 22)), oA 24 (aL 23), oM 25 0, oA 26 (.nilchk (.t 25)), oA 27 (.fieldAddr 2 (.t 26)), oA 28 (aL 27), oA 29 (aX 1 24 28), oA 30 (aL 29), oM 31 1, oA 32 (aB .sub 30 31), oA 33 (aX 1 24 28), oN (.store 1 (.t 33) (.t 32))] [[], [0], [1], [2], [], [4], [5], [6], [3, 7], [8], [], [9, 10], [3, 7, 0, 1, 2, 3, 4, 5, 6, 7, 8, 9, 10, 11], [12, 11, 0, 1, 2, 3, 4, 5, 6, 7, 8, 9, 10, 11]] [(0, []), (1, []), (2, []), (4, []), (5, []), (6, []), (10, []), (3, []), (7, []), (8, []), (9, []), (11, []), (12, []), (13, [])] (ancs [[],[0],[1],[2],[],[4],[5],[6],[3,7],[8],[],[9,10],[3,7,0,1,2,3,4,5,6,7,8,9,10,11],[12,11,0,1,2,3,4,5,6,7,8,9,10,11]]) [0, 1, 4, 5])
(.seq (.drawn [oM 34 0, oM 35 0, oA 36 (.nilchk (.t 35)), oA 37 (.fieldAddr 3 (.t 36)), oA 38 (aL 37), oM 39 1, oA 40 (aB .add 38 39), oM 41 0, oA 42 (.nilchk (.t 41)), oA 43 (.fieldAddr 0 (.t 42)), oA 44 (aL 43), oA 45 (aB .rem 40 44), oA 46 (.nilchk (.t 34)), oA 47 (.fieldAddr 3 (.t 46)), oN (.store 1 (.t 47) (.t 45))] [[], [], [1], [2], [3], [], [4, 5], [], [7], [8], [9], [6, 10], [0, 0, 1, 2, 3, 4, 5, 6, 7, 8, 9, 10, 11], [12, 0, 1, 2, 3, 4, 5, 6, 7, 8, 9, 10, 11], [13, 11, 0, 1, 2, 3, 4, 5, 6, 7, 8, 9, 10, 11]] [(0, []), (1, []), (2, []), (3, []), (5, []), (7, []), (8, []), (9, []), (4, []), (6, []), (10, []), (11, []), (12, []), (13, []), (14, [])] (ancs [[],[],[1],[2],[3],[],[4,5],[],[7],[8],[9],[6,10],[0,0,1,2,3,4,5,6,7,8,9,10,11],[12,0,1,2,3,4,5,6,7,8,9,10,11],[13,11,0,1,2,3,4,5,6,7,8,9,10,11]]) [4, 5])
(.seq (.region [oA 48 (.load true 2 (.t 5)), oN (.store 2 (.t 4) (.t 48))] [4])
.ret)))))⟩

def RB.plan_pieces_1 : RCode :=
  (.seq (.region [oA 12 (aB .lss 11 10)] [2, 3, 5, 9, 10, 11, 12])
(.seq (.cond (.t 12)
  .skip
  (.exit 0))
(.seq (.block 1
  (.seq (.region [oM 13 11, oA 14 (aX 2 9 11), oA 15 (.load true 2 (.t 14)), oA 7 (.alloc [i0, (u64 0#64)]), oM 6 13, oN (.store 2 (.t 7) (.t 15))] [2, 3, 5, 6, 7, 9, 10, 11])
(.seq (.seq (.drawn [oA 16 (.load true 3 (.t 2)), oA 17 (.fieldAddr 0 (.t 7)), oA 18 (aL 17), oA 19 (.call F.plan_has [.t 16, .t 18]), oA 20 (.un .not (.t 19)), oM 21 20, oF 22 21 (aM 6), oF 23 21 (aC .gtr 22 0), oF 24 21 (aM 23), oT 25 24 (.fieldAddr 0 (.t 7)), oT 26 24 (aL 25), oT 27 24 (.fieldAddr 3 (.t 3)), oT 28 24 (aL 27), oT 29 24 (aM 6), oT 30 24 (aC .sub 29 1), oT 31 24 (aX 2 28 30), oT 32 24 (.fieldAddr 0 (.t 31)), oT 33 24 (aL 32), oT 34 24 (aB .leq 26 33), oF 35 21 (.pick (.t 24) (.t 34) (.c (.bool false))), oA 36 (.pick (.t 21) (.c (.bool true)) (.t 35)), oM 37 36, oF 38 37 (.fieldAddr 1 (.t 7)), oF 39 37 (aL 38), oF 40 37 (.bin .eql (.t 39) (.c (u64 0#64))), oA 41 (.pick (.t 37) (.c (.bool true)) (.t 40)), oM 42 41, oF 43 42 (.fieldAddr 1 (.t 7)), oF 44 42 (aL 43), oF 45 42 (.fieldAddr 0 (.t 2)), oF 46 42 (aL 45), oF 47 42 (.call F.mask_All [.t 46]), oF 48 42 (aB .andNot 44 47), oF 49 42 (.bin .neq (.t 48) (.c (u64 0#64))), oA 50 (.pick (.t 42) (.c (.bool true)) (.t 49)), oM 51 50, oF 52 51 (.fieldAddr 1 (.t 7)), oF 53 51 (aL 52), oF 54 51 (aM 5), oF 55 51 (aB .and 53 54), oF 56 51 (.bin .neq (.t 55) (.c (u64 0#64))), oA 57 (.pick (.t 51) (.c (.bool true)) (.t 56))] [[], [], [1], [0, 2], [3], [4, 3], [5], [6, 5], [7, 5, 5], [8], [9, 8], [8], [11, 8], [8], [13, 8], [12, 14, 8], [15, 8], [16, 8], [10, 17, 8], [8, 18, 5], [5, 19], [20, 8], [21], [22, 21], [23, 21], [21, 24], [25, 21], [26], [27, 26], [26], [29, 26], [30, 26, 26], [28, 31, 26], [32, 26], [26, 33], [34, 31], [35], [36, 35], [35], [37, 38, 35], [39, 35], [35, 40]] [(1, []), (0, []), (2, []), (3, []), (4, []), (5, []), (6, []), (7, []), (8, []), (9, []), (11, []), (13, []), (14, []), (10, []), (12, []), (15, []), (16, []), (17, []), (18, []), (19, []), (20, []), (21, []), (22, []), (23, []), (24, []), (25, []), (26, []), (27, []), (29, []), (28, []), (30, []), (31, [43]), (32, []), (33, []), (34, []), (35, []), (36, []), (38, []), (37, []), (39, []), (40, []), (41, [])] (ancs [[],[],[1],[0,2],[3],[4,3],[5],[6,5],[7,5,5],[8],[9,8],[8],[11,8],[8],[13,8],[12,14,8],[15,8],[16,8],[10,17,8],[8,18,5],[5,19],[20,8],[21],[22,21],[23,21],[21,24],[25,21],[26],[27,26],[26],[29,26],[30,26,26],[28,31,26],[32,26],[26,33],[34,31],[35],[36,35],[35],[37,38,35],[39,35],[35,40]]) [2, 3, 5, 7, 9, 10, 11, 57])
(.cond (.t 57)
  (.seq (.region [oA 4 (.mov (.c (.bool false)))] [4])
.ret)
  .skip))
(.region [oM 58 5, oA 59 (.fieldAddr 1 (.t 7)), oA 60 (aL 59), oA 61 (aB .or 58 60), oM 5 61] [2, 3, 5, 9, 10, 11]))) [2, 3, 5, 9, 10, 11])
(.region [oA 62 (aC .add 11 1), oM 11 62] [2, 3, 5, 9, 10, 11]))))
def RC.plan_pieces : RFn := ⟨2, [.slot 4],
  (.seq (.region [oA 2 (.box (.t 0)), oA 3 (.box (.t 1)), oA 4 (.mov (.c (.bool false)))] [2, 3])
(.seq (.region [oA 5 (.mov (.c (u64 0#64)))] [2, 3, 5])
(.seq (.seq (.region [oA 8 (.fieldAddr 3 (.t 3)), oA 9 (aL 8), oA 10 (.len (.t 9)), oI 11 0] [2, 3, 5, 9, 10, 11])
(.block 0
  (.loop [2, 3, 5, 9, 10, 11] RB.plan_pieces_1) [3, 5]))
(.seq (.drawn [oA 63 (.fieldAddr 3 (.t 3)), oA 64 (aL 63), oA 65 (.len (.t 64)), oA 66 (aC .gtr 65 1), oM 67 66, oT 68 67 (.fieldAddr 2 (.t 3)), oT 69 67 (aL 68), oT 70 67 (aC .eql 69 0), oA 71 (.pick (.t 67) (.t 70) (.c (.bool false))), oM 72 71, oT 73 72 (aM 5), oT 74 72 (.call F.mask_Count [.t 73]), oT 75 72 (.fieldAddr 1 (.t 3)), oT 76 72 (aL 75), oT 77 72 (aB .eql 74 76), oA 78 (.pick (.t 72) (.t 77) (.c (.bool false))), oM 4 78] [[], [0], [1], [2], [3], [4], [5, 4], [6, 4], [4, 7], [8, 4], [9], [10, 9, 9], [9], [12, 9], [11, 13, 9], [9, 14], [15, 11, 0, 1, 2, 3, 4, 5, 6, 7, 8, 9, 10, 11, 12, 13, 14, 15]] [(0, []), (1, []), (2, []), (3, []), (4, []), (5, []), (6, []), (7, []), (8, []), (9, []), (10, []), (12, []), (13, []), (11, [75]), (14, []), (15, []), (16, [])] (ancs [[],[0],[1],[2],[3],[4],[5,4],[6,4],[4,7],[8,4],[9],[10,9,9],[9],[12,9],[11,13,9],[9,14],[15,11,0,1,2,3,4,5,6,7,8,9,10,11,12,13,14,15]]) [4])
.ret))))⟩

def RC.mask_Count : RFn := ⟨1, [.slot 2],
  (.seq (.region [oI 2 0] [0])
(.seq (.region [oM 3 0, oA 4 (.call F.math_bits_OnesCount64 [.t 3]), oM 2 4] [2])
.ret))⟩

def RB.plan_Windows_1 : RCode :=
  (.seq (.region [oA 21 (aB .lss 20 19)] [1, 5, 11, 12, 13, 18, 19, 20, 21])
(.seq (.cond (.t 21)
  .skip
  (.exit 2))
(.seq (.block 3
  (.seq (.region [oA 22 (aX 2 18 20), oA 23 (.load true 2 (.t 22)), oA 9 (.alloc [i0, (u64 0#64)]), oN (.store 2 (.t 9) (.t 23))] [1, 5, 9, 11, 12, 13, 18, 19, 20])
(.seq (.region [oA 24 (.fieldAddr 0 (.t 9)), oA 25 (aL 24), oM 26 1, oA 27 (aB .eql 25 26)] [1, 5, 9, 11, 12, 13, 18, 19, 20, 27])
(.cond (.t 27)
  (.region [oM 28 5, oA 29 (.fieldAddr 1 (.t 9)), oA 30 (aL 29), oA 31 (aB .or 28 30), oM 5 31] [1, 5, 11, 12, 13, 18, 19, 20])
  .skip))) [1, 5, 11, 12, 13, 18, 19, 20])
(.region [oA 32 (aC .add 20 1), oM 20 32] [1, 5, 11, 12, 13, 18, 19, 20]))))
def RB.plan_Windows_2 : RCode :=
  (.seq (.region [oA 14 (aB .lss 13 12)] [1, 5, 11, 12, 13, 14])
(.seq (.cond (.t 14)
  .skip
  (.exit 0))
(.seq (.block 1
  (.seq (.region [oA 15 (aX 4 11 13), oA 16 (.load true 4 (.t 15)), oA 7 (.alloc [i0, i0, i0, nS]), oN (.store 4 (.t 7) (.t 16))] [1, 5, 7, 11, 12, 13])
(.seq (.region [oA 17 (.fieldAddr 3 (.t 7)), oA 18 (aL 17), oA 19 (.len (.t 18)), oI 20 0] [1, 5, 11, 12, 13, 18, 19, 20])
(.block 2
  (.loop [1, 5, 11, 12, 13, 18, 19, 20] RB.plan_Windows_1) [1, 5, 11, 12, 13]))) [1, 5, 11, 12, 13])
(.region [oA 33 (aC .add 13 1), oM 13 33] [1, 5, 11, 12, 13]))))
def RC.plan_Windows : RFn := ⟨2, [.slot 4],
  (.seq (.region [oA 2 (.box (.t 0)), oA 4 (.mov (.c (u64 0#64)))] [1, 2])
(.seq (.region [oA 5 (.mov (.c (u64 0#64)))] [1, 2, 5])
(.seq (.seq (.region [oA 10 (.fieldAddr 2 (.t 2)), oA 11 (aL 10), oA 12 (.len (.t 11)), oI 13 0] [1, 5, 11, 12, 13])
(.block 0
  (.loop [1, 5, 11, 12, 13] RB.plan_Windows_2) [5]))
(.seq (.region [oM 34 5, oM 4 34] [4])
.ret))))⟩

def RB.slices_BinarySearchFunc_api_Place_api_Place_int_1 : RCode :=
  (.seq (.seq (.region [oM 15 9, oM 16 10, oA 17 (aB .lss 15 16)] [0, 1, 2, 8, 9, 10, 17])
(.cond (.t 17)
  .skip
  (.exit 0)))
(.block 1
  (.seq (.region [oM 18 9, oM 19 10, oA 20 (aB .add 18 19), oA 21 (.conv .u64 (.t 20)), oA 22 (.bin .shr (.t 21) (.c (u64 1#64))), oA 23 (.conv .i64 (.t 22)), oM 11 23] [0, 1, 2, 8, 9, 10, 11])
(.seq (.region [oM 24 2, oM 25 0, oM 26 11, oA 27 (aX 4 25 26), oA 28 (.load true 4 (.t 27)), oM 29 1, oA 30 (.callv (.t 24) [.t 28, .t 29]), oA 31 (aC .lss 30 0)] [0, 1, 2, 8, 9, 10, 11, 31])
(.cond (.t 31)
  (.region [oM 32 11, oA 33 (aC .add 32 1), oM 9 33] [0, 1, 2, 8, 9, 10])
  (.region [oM 34 11, oM 10 34] [0, 1, 2, 8, 9, 10])))) [0, 1, 2, 8, 9, 10]))
def RC.slices_BinarySearchFunc_api_Place_api_Place_int : RFn := ⟨3, [.slot 6, .slot 7],
  (.seq (.region [oI 6 0, oA 7 (.mov (.c (.bool false)))] [0, 1, 2])
(.seq (.region [oM 12 0, oA 13 (.len (.t 12)), oM 8 13] [0, 1, 2, 8])
(.seq (.region [oM 14 8, oI 9 0, oM 10 14] [0, 1, 2, 8, 9, 10])
(.seq (.block 0
  (.loop [0, 1, 2, 8, 9, 10] RB.slices_BinarySearchFunc_api_Place_api_Place_int_1) [0, 1, 2, 8, 9])
(.seq (.region [oM 35 9, oM 36 9, oM 37 8, oA 38 (aB .lss 36 37), oM 39 38, oT 40 39 (aM 2), oT 41 39 (aM 0), oT 42 39 (aM 9), oT 43 39 (aX 4 41 42), oT 44 39 (.load true 4 (.t 43)), oT 45 39 (aM 1), oT 46 39 (.callv (.t 40) [.t 44, .t 45]), oT 47 39 (aC .eql 46 0), oA 48 (.pick (.t 39) (.t 47) (.c (.bool false))), oM 6 35, oM 7 48] [6, 7])
.ret)))))⟩

def RC.plan_find_1 : RFn := ⟨2, [.slot 4],
  (.seq (.region [oA 2 (.box (.t 0)), oI 4 0] [1, 2])
(.seq (.region [oA 5 (.fieldAddr 0 (.t 2)), oA 6 (aL 5), oM 7 1, oA 8 (.call F.cmp_Compare_int [.t 6, .t 7]), oM 4 8] [4])
.ret))⟩

def RB.slices_pdqsortCmpFunc_api_Want_1 : RCode :=
  (.block 1
  (.seq (.region [oM 21 2, oM 22 1, oA 23 (aB .sub 21 22), oM 12 23] [0, 1, 2, 3, 4, 10, 11, 12])
(.seq (.seq (.region [oM 24 12, oA 25 (aC .leq 24 12)] [0, 1, 2, 3, 4, 10, 11, 12, 25])
(.cond (.t 25)
  (.seq (.region [oM 26 0, oM 27 1, oM 28 2, oM 29 4, oA 30 (.call F.slices_insertionSortCmpFunc_api_Want [.t 26, .t 27, .t 28, .t 29])] [])
.ret)
  .skip))
(.seq (.seq (.region [oM 31 3, oA 32 (aC .eql 31 0)] [0, 1, 2, 3, 4, 10, 11, 12, 32])
(.cond (.t 32)
  (.seq (.region [oM 33 0, oM 34 1, oM 35 2, oM 36 4, oA 37 (.call F.slices_heapSortCmpFunc_api_Want [.t 33, .t 34, .t 35, .t 36])] [])
.ret)
  .skip))
(.seq (.seq (.region [oM 38 10, oA 39 (.un .not (.t 38))] [0, 1, 2, 3, 4, 10, 11, 12, 39])
(.cond (.t 39)
  (.seq (.region [oM 40 0, oM 41 1, oM 42 2, oM 43 4, oA 44 (.call F.slices_breakPatternsCmpFunc_api_Want [.t 40, .t 41, .t 42, .t 43])] [0, 1, 2, 3, 4, 10, 11, 12])
(.region [oM 45 3, oA 46 (aC .sub 45 1), oM 3 46] [0, 1, 2, 3, 4, 10, 11, 12]))
  .skip))
(.seq (.region [oM 48 0, oM 49 1, oM 50 2, oM 51 4, oA 52 (.call F.slices_choosePivotCmpFunc_api_Want [.t 48, .t 49, .t 50, .t 51]), oM 47 52, oA 53 (.ext 0 (.t 47)), oA 54 (.ext 1 (.t 47)), oM 13 53, oM 14 54] [0, 1, 2, 3, 4, 10, 11, 12, 13, 14])
(.seq (.seq (.region [oM 55 14, oA 56 (aC .eql 55 2)] [0, 1, 2, 3, 4, 10, 11, 12, 13, 14, 56])
(.cond (.t 56)
  (.seq (.region [oM 57 0, oM 58 1, oM 59 2, oM 60 4, oA 61 (.call F.slices_reverseRangeCmpFunc_api_Want [.t 57, .t 58, .t 59, .t 60])] [0, 1, 2, 3, 4, 10, 11, 12, 13])
(.seq (.region [oM 62 2, oA 63 (aC .sub 62 1), oM 64 13, oM 65 1, oA 66 (aB .sub 64 65), oA 67 (aB .sub 63 66), oM 13 67] [0, 1, 2, 3, 4, 10, 11, 12, 13])
(.region [oI 14 1] [0, 1, 2, 3, 4, 10, 11, 12, 13, 14])))
  .skip))
(.seq (.seq (.region [oM 68 10, oM 69 68, oT 70 69 (aM 11), oA 71 (.pick (.t 69) (.t 70) (.c (.bool false))), oM 72 71, oT 73 72 (aM 14), oT 74 72 (aC .eql 73 1), oA 75 (.pick (.t 72) (.t 74) (.c (.bool false)))] [0, 1, 2, 3, 4, 10, 11, 12, 13, 75])
(.cond (.t 75)
  (.seq (.region [oM 76 0, oM 77 1, oM 78 2, oM 79 4, oA 80 (.call F.slices_partialInsertionSortCmpFunc_api_Want [.t 76, .t 77, .t 78, .t 79])] [0, 1, 2, 3, 4, 10, 11, 12, 13, 80])
(.cond (.t 80)
  .ret
  .skip))
  .skip))
(.seq (.seq (.drawn [oM 81 1, oA 82 (aC .gtr 81 0), oM 83 82, oT 84 83 (aM 4), oT 85 83 (aM 0), oT 86 83 (aM 1), oT 87 83 (aC .sub 86 1), oT 88 83 (aX 2 85 87), oT 89 83 (.load true 2 (.t 88)), oT 90 83 (aM 0), oT 91 83 (aM 13), oT 92 83 (aX 2 90 91), oT 93 83 (.load true 2 (.t 92)), oT 94 83 (.callv (.t 84) [.t 89, .t 93]), oT 95 83 (aC .lss 94 0), oT 96 83 (.un .not (.t 95)), oA 97 (.pick (.t 83) (.t 96) (.c (.bool false)))] [[], [0], [1], [2], [2], [2], [5, 2], [4, 6, 2], [7, 2], [2], [2], [9, 10, 2], [11, 2], [3, 8, 12, 2, 2], [13, 2], [14, 2], [2, 15]] [(0, []), (1, []), (2, []), (3, []), (4, []), (5, []), (6, []), (7, []), (9, []), (10, []), (11, []), (8, []), (12, []), (13, []), (14, []), (15, []), (16, [])] (ancs [[],[0],[1],[2],[2],[2],[5,2],[4,6,2],[7,2],[2],[2],[9,10,2],[11,2],[3,8,12,2,2],[13,2],[14,2],[2,15]]) [0, 1, 2, 3, 4, 10, 11, 12, 13, 97])
(.cond (.t 97)
  (.seq (.region [oM 98 0, oM 99 1, oM 100 2, oM 101 13, oM 102 4, oA 103 (.call F.slices_partitionEqualCmpFunc_api_Want [.t 98, .t 99, .t 100, .t 101, .t 102]), oM 15 103] [0, 2, 3, 4, 10, 11, 15])
(.seq (.region [oM 104 15, oM 1 104] [0, 1, 2, 3, 4, 10, 11])
(.exit 1)))
  .skip))
(.seq (.region [oM 106 0, oM 107 1, oM 108 2, oM 109 13, oM 110 4, oA 111 (.call F.slices_partitionCmpFunc_api_Want [.t 106, .t 107, .t 108, .t 109, .t 110]), oM 105 111, oA 112 (.ext 0 (.t 105)), oA 113 (.ext 1 (.t 105)), oM 16 112, oM 17 113] [0, 1, 2, 3, 4, 12, 16, 17])
(.seq (.region [oM 114 17, oM 11 114] [0, 1, 2, 3, 4, 11, 12, 16])
(.seq (.region [oM 115 16, oM 116 1, oA 117 (aB .sub 115 116), oM 118 2, oM 119 16, oA 120 (aB .sub 118 119), oM 18 117, oM 19 120] [0, 1, 2, 3, 4, 11, 12, 16, 18, 19])
(.seq (.region [oM 121 12, oA 122 (aC .quo 121 8), oM 20 122] [0, 1, 2, 3, 4, 11, 16, 18, 19, 20])
(.seq (.region [oM 123 18, oM 124 19, oA 125 (aB .lss 123 124)] [0, 1, 2, 3, 4, 11, 16, 18, 19, 20, 125])
(.cond (.t 125)
  (.seq (.region [oM 126 18, oM 127 20, oA 128 (aB .geq 126 127), oM 10 128] [0, 1, 2, 3, 4, 10, 11, 16])
(.seq (.region [oM 129 0, oM 130 1, oM 131 16, oM 132 3, oM 133 4, oA 134 (.call F.slices_pdqsortCmpFunc_api_Want [.t 129, .t 130, .t 131, .t 132, .t 133])] [0, 2, 3, 4, 10, 11, 16])
(.region [oM 135 16, oA 136 (aC .add 135 1), oM 1 136] [0, 1, 2, 3, 4, 10, 11])))
  (.seq (.region [oM 137 19, oM 138 20, oA 139 (aB .geq 137 138), oM 10 139] [0, 1, 2, 3, 4, 10, 11, 16])
(.seq (.region [oM 140 0, oM 141 16, oA 142 (aC .add 141 1), oM 143 2, oM 144 3, oM 145 4, oA 146 (.call F.slices_pdqsortCmpFunc_api_Want [.t 140, .t 142, .t 143, .t 144, .t 145])] [0, 1, 3, 4, 10, 11, 16])
(.region [oM 147 16, oM 2 147] [0, 1, 2, 3, 4, 10, 11]))))))))))))))))) [0, 1, 2, 3, 4, 10, 11])
def RC.slices_pdqsortCmpFunc_api_Want : RFn := ⟨5, [],
  (.seq (.region [oA 10 (.mov (.c (.bool true)))] [0, 1, 2, 3, 4, 10])
(.seq (.region [oA 11 (.mov (.c (.bool true)))] [0, 1, 2, 3, 4, 10, 11])
(.block 0
  (.loop [0, 1, 2, 3, 4, 10, 11] RB.slices_pdqsortCmpFunc_api_Want_1) [])))⟩

def RB.cmp_Or_int_1 : RCode :=
  (.seq (.region [oA 9 (aB .lss 8 7)] [3, 6, 7, 8, 9])
(.seq (.cond (.t 9)
  .skip
  (.exit 0))
(.seq (.block 1
  (.seq (.region [oA 10 (aX 1 6 8), oA 11 (aL 10), oM 5 11] [3, 5, 6, 7, 8])
(.seq (.region [oM 12 5, oM 13 3, oA 14 (aB .neq 12 13)] [3, 5, 6, 7, 8, 14])
(.cond (.t 14)
  (.seq (.region [oM 15 5, oM 2 15] [2])
.ret)
  .skip))) [3, 6, 7, 8])
(.region [oA 16 (aC .add 8 1), oM 8 16] [3, 6, 7, 8]))))
def RC.cmp_Or_int : RFn := ⟨1, [.slot 2],
  (.seq (.region [oI 2 0] [0])
(.seq (.region [oI 3 0] [0, 3])
(.seq (.seq (.region [oM 6 0, oA 7 (.len (.t 6)), oI 8 0] [3, 6, 7, 8])
(.block 0
  (.loop [3, 6, 7, 8] RB.cmp_Or_int_1) [3]))
(.seq (.region [oM 17 3, oM 2 17] [2])
.ret))))⟩

def RB.math_bits_Div64_1 : RCode :=
  (.seq (.seq (.region [oM 102 18, oA 103 (.bin .geq (.t 102) (.c (u64 4294967296#64))), oM 104 103, oF 105 104 (aM 18), oF 106 104 (aM 10), oF 107 104 (aB .mul 105 106), oF 108 104 (aM 16), oF 109 104 (.bin .mul (.c (u64 4294967296#64)) (.t 108)), oF 110 104 (aM 14), oF 111 104 (aB .add 109 110), oF 112 104 (aB .gtr 107 111), oA 113 (.pick (.t 104) (.c (.bool true)) (.t 112))] [2, 8, 9, 10, 14, 15, 16, 17, 18, 113])
(.cond (.t 113)
  .skip
  (.exit 2)))
(.block 3
  (.seq (.region [oM 114 18, oA 115 (.bin .sub (.t 114) (.c (u64 1#64))), oM 18 115] [2, 8, 9, 10, 14, 15, 16, 17, 18])
(.seq (.region [oM 116 16, oM 117 9, oA 118 (aB .add 116 117), oM 16 118] [2, 8, 9, 10, 14, 15, 16, 17, 18])
(.seq (.region [oM 119 16, oA 120 (.bin .geq (.t 119) (.c (u64 4294967296#64)))] [2, 8, 9, 10, 14, 15, 16, 17, 18, 120])
(.cond (.t 120)
  (.exit 2)
  .skip)))) [2, 8, 9, 10, 14, 15, 16, 17, 18]))
def RB.math_bits_Div64_2 : RCode :=
  (.seq (.seq (.region [oM 67 15, oA 68 (.bin .geq (.t 67) (.c (u64 4294967296#64))), oM 69 68, oF 70 69 (aM 15), oF 71 69 (aM 10), oF 72 69 (aB .mul 70 71), oF 73 69 (aM 16), oF 74 69 (.bin .mul (.c (u64 4294967296#64)) (.t 73)), oF 75 69 (aM 13), oF 76 69 (aB .add 74 75), oF 77 69 (aB .gtr 72 76), oA 78 (.pick (.t 69) (.c (.bool true)) (.t 77))] [2, 8, 9, 10, 11, 13, 14, 15, 16, 78])
(.cond (.t 78)
  .skip
  (.exit 0)))
(.block 1
  (.seq (.region [oM 79 15, oA 80 (.bin .sub (.t 79) (.c (u64 1#64))), oM 15 80] [2, 8, 9, 10, 11, 13, 14, 15, 16])
(.seq (.region [oM 81 16, oM 82 9, oA 83 (aB .add 81 82), oM 16 83] [2, 8, 9, 10, 11, 13, 14, 15, 16])
(.seq (.region [oM 84 16, oA 85 (.bin .geq (.t 84) (.c (u64 4294967296#64)))] [2, 8, 9, 10, 11, 13, 14, 15, 16, 85])
(.cond (.t 85)
  (.exit 0)
  .skip)))) [2, 8, 9, 10, 11, 13, 14, 15, 16]))
def RC.math_bits_Div64 : RFn := ⟨3, [.slot 6, .slot 7],
  (.seq (.region [oA 6 (.mov (.c (u64 0#64))), oA 7 (.mov (.c (u64 0#64)))] [0, 1, 2])
(.seq (.seq (.region [oM 19 2, oA 20 (.bin .eql (.t 19) (.c (u64 0#64)))] [0, 1, 2, 20])
(.cond (.t 20)
  (.region [oA 21 (.stop), oN (.stop)] [0, 1, 2])
  .skip))
(.seq (.seq (.region [oM 22 2, oM 23 0, oA 24 (aB .leq 22 23)] [0, 1, 2, 24])
(.cond (.t 24)
  (.region [oA 25 (.stop), oN (.stop)] [0, 1, 2])
  .skip))
(.seq (.seq (.region [oM 26 0, oA 27 (.bin .eql (.t 26) (.c (u64 0#64)))] [0, 1, 2, 27])
(.cond (.t 27)
  (.seq (.drawn [oM 28 1, oM 29 2, oA 30 (aB .quo 28 29), oM 31 1, oM 32 2, oA 33 (aB .rem 31 32), oM 6 30, oM 7 33] [[], [], [0, 1], [], [], [3, 4], [2, 0, 1, 2], [5, 6, 0, 1, 2, 3, 4, 5, 6]] [(0, []), (1, []), (2, []), (3, []), (4, []), (5, []), (6, []), (7, [])] (ancs [[],[],[0,1],[],[],[3,4],[2,0,1,2],[5,6,0,1,2,3,4,5,6]]) [6, 7])
.ret)
  .skip))
(.seq (.region [oM 34 2, oA 35 (.call F.math_bits_LeadingZeros64 [.t 34]), oA 36 (.conv .u64 (.t 35)), oM 8 36] [0, 1, 2, 8])
(.seq (.region [oM 37 2, oM 38 8, oA 39 (aB .shl 37 38), oM 2 39] [0, 1, 2, 8])
(.seq (.region [oM 40 2, oA 41 (.bin .shr (.t 40) (.c (u64 32#64))), oM 9 41] [0, 1, 2, 8, 9])
(.seq (.region [oM 42 2, oA 43 (.bin .and (.t 42) (.c (u64 4294967295#64))), oM 10 43] [0, 1, 2, 8, 9, 10])
(.seq (.region [oM 44 0, oM 45 8, oA 46 (aB .shl 44 45), oM 47 1, oM 48 8, oA 49 (.bin .sub (.c (u64 64#64)) (.t 48)), oA 50 (aB .shr 47 49), oA 51 (aB .or 46 50), oM 11 51] [1, 2, 8, 9, 10, 11])
(.seq (.region [oM 52 1, oM 53 8, oA 54 (aB .shl 52 53), oM 12 54] [2, 8, 9, 10, 11, 12])
(.seq (.region [oM 55 12, oA 56 (.bin .shr (.t 55) (.c (u64 32#64))), oM 13 56] [2, 8, 9, 10, 11, 12, 13])
(.seq (.region [oM 57 12, oA 58 (.bin .and (.t 57) (.c (u64 4294967295#64))), oM 14 58] [2, 8, 9, 10, 11, 13, 14])
(.seq (.region [oM 59 11, oM 60 9, oA 61 (aB .quo 59 60), oM 15 61] [2, 8, 9, 10, 11, 13, 14, 15])
(.seq (.region [oM 62 11, oM 63 15, oM 64 9, oA 65 (aB .mul 63 64), oA 66 (aB .sub 62 65), oM 16 66] [2, 8, 9, 10, 11, 13, 14, 15, 16])
(.seq (.block 0
  (.loop [2, 8, 9, 10, 11, 13, 14, 15, 16] RB.math_bits_Div64_2) [2, 8, 9, 10, 11, 13, 14, 15])
(.seq (.region [oM 86 11, oA 87 (.bin .mul (.t 86) (.c (u64 4294967296#64))), oM 88 13, oA 89 (aB .add 87 88), oM 90 15, oM 91 2, oA 92 (aB .mul 90 91), oA 93 (aB .sub 89 92), oM 17 93] [2, 8, 9, 10, 14, 15, 17])
(.seq (.region [oM 94 17, oM 95 9, oA 96 (aB .quo 94 95), oM 18 96] [2, 8, 9, 10, 14, 15, 17, 18])
(.seq (.region [oM 97 17, oM 98 18, oM 99 9, oA 100 (aB .mul 98 99), oA 101 (aB .sub 97 100), oM 16 101] [2, 8, 9, 10, 14, 15, 16, 17, 18])
(.seq (.block 2
  (.loop [2, 8, 9, 10, 14, 15, 16, 17, 18] RB.math_bits_Div64_1) [2, 8, 14, 15, 17, 18])
(.seq (.region [oM 121 15, oA 122 (.bin .mul (.t 121) (.c (u64 4294967296#64))), oM 123 18, oA 124 (aB .add 122 123), oM 125 17, oA 126 (.bin .mul (.t 125) (.c (u64 4294967296#64))), oM 127 14, oA 128 (aB .add 126 127), oM 129 18, oM 130 2, oA 131 (aB .mul 129 130), oA 132 (aB .sub 128 131), oM 133 8, oA 134 (aB .shr 132 133), oM 6 124, oM 7 134] [6, 7])
.ret))))))))))))))))))))⟩

def RC.slices_order2CmpFunc_local_entry : RFn := ⟨5, [.slot 10, .slot 11],
  (.seq (.region [oI 10 0, oI 11 0] [0, 1, 2, 3, 4])
(.seq (.seq (.drawn [oM 12 4, oM 13 0, oM 14 2, oA 15 (aX 3 13 14), oA 16 (.load true 3 (.t 15)), oM 17 0, oM 18 1, oA 19 (aX 3 17 18), oA 20 (.load true 3 (.t 19)), oA 21 (.callv (.t 12) [.t 16, .t 20]), oA 22 (aC .lss 21 0)] [[], [], [], [1, 2], [3], [], [], [5, 6], [7], [0, 4, 8], [9]] [(0, []), (1, []), (2, []), (3, []), (5, []), (6, []), (7, []), (4, []), (8, []), (9, []), (10, [])] (ancs [[],[],[],[1,2],[3],[],[],[5,6],[7],[0,4,8],[9]]) [1, 2, 3, 22])
(.cond (.t 22)
  (.seq (.region [oM 23 3, oA 24 (.nilchk (.t 23)), oA 25 (aL 24), oA 26 (aC .add 25 1), oA 27 (.nilchk (.t 23)), oN (.store 1 (.t 27) (.t 26))] [1, 2])
(.seq (.region [oM 28 2, oM 29 1, oM 10 28, oM 11 29] [10, 11])
.ret))
  .skip))
(.seq (.region [oM 30 1, oM 31 2, oM 10 30, oM 11 31] [10, 11])
.ret)))⟩

def RC.mask_Round : RFn := ⟨3, [.slot 6],
  (.seq (.region [oA 6 (.mov (.c (u64 0#64)))] [0, 1, 2])
(.seq (.region [oM 7 0, oA 8 (.call F.mask_frame [.t 7]), oM 0 8] [0, 1, 2])
(.seq (.seq (.region [oM 9 0, oA 10 (aC .eql 9 0)] [0, 1, 2, 10])
(.cond (.t 10)
  (.seq (.region [oA 6 (.mov (.c (u64 0#64)))] [6])
.ret)
  .skip))
(.seq (.region [oM 11 0, oM 12 2, oA 13 (.minmax true [.t 12, .c i0]), oM 14 0, oA 15 (.minmax false [.t 13, .t 14]), oA 16 (.call F.mask_All [.t 15]), oM 17 1, oA 18 (.call F.mask_Turn [.t 11, .t 16, .t 17]), oM 6 18] [6])
.ret))))⟩

def RC.mask_All : RFn := ⟨1, [.slot 2],
  (.seq (.region [oA 2 (.mov (.c (u64 0#64)))] [0])
(.seq (.region [oM 3 0, oA 4 (.call F.mask_frame [.t 3]), oM 0 4] [0])
(.seq (.seq (.region [oM 5 0, oA 6 (aC .eql 5 64)] [0, 6])
(.cond (.t 6)
  (.seq (.region [oA 2 (.mov (.c (u64 18446744073709551615#64)))] [2])
.ret)
  .skip))
(.seq (.region [oM 7 0, oA 8 (.bin .shl (.c (u64 1#64)) (.t 7)), oA 9 (.bin .sub (.t 8) (.c (u64 1#64))), oM 2 9] [2])
.ret))))⟩

end Go.Am
