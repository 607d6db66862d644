/- Parts of the proofs of the statements of this seat: StageKeys, AmTieStage, WStageNobody. No conditions. -/
import Derived.Test.YtpmibdpnhbbblaaStageNobodyPart3
import Derived.Test.YtpmibdpnhbbblaaProg
import Derived.Test.YtpmibdpnhbbblaaRows
import Derived.Test.YtpmibdpnhbbblaaStageNobodyPart4
set_option linter.unusedVariables false
set_option linter.unusedSimpArgs false

/- slices.Sorted of a map's keys, at this program: the kit's contracts laid in plain words (laykeys.py); what stands for the call. -/
namespace Go.Proofs
open Go.Shelf
def Try.keys60_ren : Go.Shelf.Ren := ⟨fun | 10 => 60 | n => n, fun | 33 => 42 | 23 => 79 | 0 => 0 | 4 => 4 | 26 => 3 | 3 => 48 | n => n, fun | n => n⟩
theorem Try.keys60 : Go.Proofs.SlLaysZI.n10 Try.prog Try.keys60_ren := {
  mixed := by kernel_rfl,
  f10 := ⟨Try.f60.name, by decide, Try.func60.trans (congrArg some (by kernel_rfl))⟩,
  t0 := Try.underlying0,
  a0 := Try.isAgg0,
  z0 := Try.sizeOf0,
  v0 := Try.zeroValue0,
  t4 := Try.underlying4,
  a4 := Try.isAgg4,
  z4 := Try.sizeOf4,
  v4 := Try.zeroValue4,
  t23 := Try.underlying79,
  a23 := Try.isAgg79,
  z23 := Try.sizeOf79,
  v23 := Try.zeroValue79,
  t26 := Try.underlying3,
  a26 := Try.isAgg3,
  z26 := Try.sizeOf3,
  v26 := Try.zeroValue3,
  t33 := Try.underlying42,
  a33 := Try.isAgg42,
  z33 := Try.sizeOf42,
  v33 := Try.zeroValue42 }
def Try.sorted_ren : Go.Shelf.Ren := ⟨fun | 6 => 47 | 8 => 59 | 9 => 49 | 11 => 66 | 13 => 62 | 12 => 61 | 23 => 76 | 24 => 77 | 14 => 67 | 15 => 68 | 16 => 69 | 17 => 70 | 18 => 71 | 19 => 72 | 20 => 73 | 21 => 74 | 22 => 75 | 25 => 78 | 26 => 79 | 27 => 80 | 28 => 81 | 29 => 82 | 30 => 64 | 31 => 83 | n => n, fun | 26 => 3 | 28 => 83 | 24 => 35 | 0 => 0 | 3 => 3 | 37 => 54 | 48 => 27 | 50 => 59 | 4 => 4 | 40 => 100 | 39 => 99 | 45 => 64 | 5 => 5 | 9 => 9 | 51 => 107 | 55 => 111 | 57 => 113 | 58 => 114 | 33 => 42 | n => n, fun | n => n⟩
theorem Try.sorted : Go.Proofs.SlLaysZI.n6 Try.prog Try.sorted_ren := {
  mixed := by kernel_rfl,
  f6 := ⟨Try.f47.name, by decide, Try.func47.trans (congrArg some (by kernel_rfl))⟩,
  f8 := ⟨Try.f59.name, by decide, Try.func59.trans (congrArg some (by kernel_rfl))⟩,
  f11 := ⟨Try.f66.name, by decide, Try.func66.trans (congrArg some (by kernel_rfl))⟩,
  t0 := Try.underlying0,
  a0 := Try.isAgg0,
  z0 := Try.sizeOf0,
  v0 := Try.zeroValue0,
  t24 := Try.underlying35,
  a24 := Try.isAgg35,
  z24 := Try.sizeOf35,
  v24 := Try.zeroValue35,
  t26 := Try.underlying3,
  a26 := Try.isAgg3,
  z26 := Try.sizeOf3,
  v26 := Try.zeroValue3,
  t28 := Try.underlying83,
  a28 := Try.isAgg83,
  z28 := Try.sizeOf83,
  v28 := Try.zeroValue83,
  i26 := by kernel_rfl }
def Try.sort_ren : Go.Shelf.Ren := ⟨fun | 5 => 49 | 8 => 62 | 7 => 61 | 19 => 76 | 20 => 77 | 10 => 67 | 11 => 68 | 12 => 69 | 13 => 70 | 14 => 71 | 15 => 72 | 16 => 73 | 17 => 74 | 18 => 75 | 30 => 78 | 31 => 79 | 32 => 80 | 33 => 81 | 34 => 82 | 35 => 64 | 40 => 83 | n => n, fun | 23 => 35 | 25 => 3 | 3 => 3 | 32 => 54 | 22 => 35 | 0 => 0 | 44 => 27 | 46 => 59 | 4 => 4 | 36 => 100 | 35 => 99 | 41 => 64 | 5 => 5 | 9 => 9 | 53 => 107 | 57 => 111 | 63 => 113 | 64 => 114 | n => n, fun | n => n⟩
theorem Try.sort : Go.Proofs.SlLaysM.n5 Try.prog Try.sort_ren := {
  mixed := by kernel_rfl,
  f5 := ⟨Try.f49.name, by decide, Try.func49.trans (congrArg some (by kernel_rfl))⟩,
  f7 := ⟨Try.f61.name, by decide, Try.func61.trans (congrArg some (by kernel_rfl))⟩,
  f8 := Try.func62.trans (congrArg some (by kernel_rfl)),
  f10 := ⟨Try.f67.name, by decide, Try.func67.trans (congrArg some (by kernel_rfl))⟩,
  f11 := ⟨Try.f68.name, by decide, Try.func68.trans (congrArg some (by kernel_rfl))⟩,
  f12 := ⟨Try.f69.name, by decide, Try.func69.trans (congrArg some (by kernel_rfl))⟩,
  f13 := ⟨Try.f70.name, by decide, Try.func70.trans (congrArg some (by kernel_rfl))⟩,
  f14 := ⟨Try.f71.name, by decide, Try.func71.trans (congrArg some (by kernel_rfl))⟩,
  f15 := ⟨Try.f72.name, by decide, Try.func72.trans (congrArg some (by kernel_rfl))⟩,
  f16 := ⟨Try.f73.name, by decide, Try.func73.trans (congrArg some (by kernel_rfl))⟩,
  f17 := ⟨Try.f74.name, by decide, Try.func74.trans (congrArg some (by kernel_rfl))⟩,
  f18 := ⟨Try.f75.name, by decide, Try.func75.trans (congrArg some (by kernel_rfl))⟩,
  f19 := Try.func76.trans (congrArg some (by kernel_rfl)),
  f20 := Try.func77.trans (congrArg some (by kernel_rfl)),
  f30 := ⟨Try.f78.name, by decide, Try.func78.trans (congrArg some (by kernel_rfl))⟩,
  f31 := Try.func79.trans (congrArg some (by kernel_rfl)),
  f32 := Try.func80.trans (congrArg some (by kernel_rfl)),
  f33 := ⟨Try.f81.name, by decide, Try.func81.trans (congrArg some (by kernel_rfl))⟩,
  f34 := ⟨Try.f82.name, by decide, Try.func82.trans (congrArg some (by kernel_rfl))⟩,
  f35 := ⟨Try.f64.name, by decide, Try.func64.trans (congrArg some (by kernel_rfl))⟩,
  f40 := ⟨Try.f83.name, by decide, Try.func83.trans (congrArg some (by kernel_rfl))⟩,
  t0 := Try.underlying0,
  a0 := Try.isAgg0,
  z0 := Try.sizeOf0,
  v0 := Try.zeroValue0,
  t3 := Try.underlying3,
  a3 := Try.isAgg3,
  z3 := Try.sizeOf3,
  v3 := Try.zeroValue3,
  t4 := Try.underlying4,
  a4 := Try.isAgg4,
  z4 := Try.sizeOf4,
  v4 := Try.zeroValue4,
  t5 := Try.underlying5,
  a5 := Try.isAgg5,
  z5 := Try.sizeOf5,
  v5 := Try.zeroValue5,
  t9 := Try.underlying9,
  a9 := Try.isAgg9,
  z9 := Try.sizeOf9,
  v9 := Try.zeroValue9,
  t22 := Try.underlying35,
  a22 := Try.isAgg35,
  z22 := Try.sizeOf35,
  v22 := Try.zeroValue35,
  t23 := Try.underlying35,
  a23 := Try.isAgg35,
  z23 := Try.sizeOf35,
  v23 := Try.zeroValue35,
  t25 := Try.underlying3,
  a25 := Try.isAgg3,
  z25 := Try.sizeOf3,
  v25 := Try.zeroValue3,
  t32 := Try.underlying54,
  a32 := Try.isAgg54,
  z32 := Try.sizeOf54,
  v32 := Try.zeroValue54,
  t35 := Try.underlying99,
  a35 := Try.isAgg99,
  z35 := Try.sizeOf99,
  v35 := Try.zeroValue99,
  t36 := Try.underlying100,
  a36 := Try.isAgg100,
  z36 := Try.sizeOf100,
  v36 := Try.zeroValue100,
  t41 := Try.underlying64,
  a41 := Try.isAgg64,
  z41 := Try.sizeOf64,
  v41 := Try.zeroValue64,
  t44 := Try.underlying27,
  a44 := Try.isAgg27,
  z44 := Try.sizeOf27,
  v44 := Try.zeroValue27,
  t46 := Try.underlying59,
  a46 := Try.isAgg59,
  z46 := Try.sizeOf59,
  v46 := Try.zeroValue59,
  t53 := Try.underlying107,
  a53 := Try.isAgg107,
  z53 := Try.sizeOf107,
  v53 := Try.zeroValue107,
  t57 := Try.underlying111,
  a57 := Try.isAgg111,
  z57 := Try.sizeOf111,
  v57 := Try.zeroValue111,
  t63 := Try.underlying113,
  a63 := Try.isAgg113,
  z63 := Try.sizeOf113,
  v63 := Try.zeroValue113,
  t64 := Try.underlying114,
  a64 := Try.isAgg114,
  z64 := Try.sizeOf114,
  v64 := Try.zeroValue114 }
end Go.Proofs
namespace Go.Am
open Go.Proofs
theorem X.sk_sim {G : Nat → World → Prop} (args : List Value) (m : Mem) (v : Value) (m' : Mem) (h : X.sk args m = some (v, m')) : SimCall Try.prog G 47 args m v m' := by
  refine X.skeys_sim (ρs := Try.sorted_ren) (ρq := Try.sort_ren) Try.sorted Try.sort rfl (enters_of Try.func49 (by kernel_rfl) rfl) ?_ args m v m' h
  intro g hg
  simp only [List.mem_cons, List.not_mem_nil, or_false] at hg
  rcases hg with rfl
  · exact ⟨Try.keys60_ren, rfl, Try.keys60, rfl, enters_of Try.func60 (by kernel_rfl) rfl⟩
end Go.Am


/- The table of the layer stage is as the program has it. Printed by lawgen.py. -/
namespace Go.Am
open Go.Proofs
set_option maxRecDepth 100000

/-- Nothing is asked of the world. -/
def G : Nat → World → Prop := fun _ _ => True
instance : Keeps G := ⟨fun _ _ _ _ h => h⟩
instance : Rises G := ⟨fun _ _ _ _ h => h⟩
theorem hmix : Try.prog.follows .mixedOrders = true := by kernel_rfl
theorem E.law26_StageNobody : EntOk Try.prog G F.law26_StageNobody (.rc RC.law26_StageNobody) := ⟨Try.f4, by unfold F.law26_StageNobody; exact Try.func4, by kernel_rfl, by kernel_rfl⟩
theorem E.stage_New : EntOk Try.prog G F.stage_New (.rc RC.stage_New) := ⟨Try.f5, by unfold F.stage_New; exact Try.func5, by kernel_rfl, by kernel_rfl⟩
theorem E.stage_Stage_Staged : EntOk Try.prog G F.stage_Stage_Staged (.rc RC.stage_Stage_Staged) := ⟨Try.f6, by unfold F.stage_Stage_Staged; exact Try.func6, by kernel_rfl, by kernel_rfl⟩
theorem E.stage_Stage_Active : EntOk Try.prog G F.stage_Stage_Active (.rc RC.stage_Stage_Active) := ⟨Try.f8, by unfold F.stage_Stage_Active; exact Try.func8, by kernel_rfl, by kernel_rfl⟩
theorem E.stage_Stage_Set : EntOk Try.prog G F.stage_Stage_Set (.rc RC.stage_Stage_Set) := ⟨Try.f9, by unfold F.stage_Stage_Set; exact Try.func9, by kernel_rfl, by kernel_rfl⟩
theorem E.ref16_Same : EntOk Try.prog G F.ref16_Same (.rc RC.ref16_Same) := ⟨Try.f10, by unfold F.ref16_Same; exact Try.func10, by kernel_rfl, by kernel_rfl⟩
theorem E.stage_Stage_Turn : EntOk Try.prog G F.stage_Stage_Turn (.rc RC.stage_Stage_Turn) := ⟨Try.f11, by unfold F.stage_Stage_Turn; exact Try.func11, by kernel_rfl, by kernel_rfl⟩
theorem E.law26_awake : EntOk Try.prog G F.law26_awake (.rc RC.law26_awake) := ⟨Try.f12, by unfold F.law26_awake; exact Try.func12, by kernel_rfl, by kernel_rfl⟩
theorem E.law26_one : EntOk Try.prog G F.law26_one (.rc RC.law26_one) := ⟨Try.f13, by unfold F.law26_one; exact Try.func13, by kernel_rfl, by kernel_rfl⟩
theorem E.stage_Stage_Cut : EntOk Try.prog G F.stage_Stage_Cut (.rc RC.stage_Stage_Cut) := ⟨Try.f14, by unfold F.stage_Stage_Cut; exact Try.func14, by kernel_rfl, by kernel_rfl⟩
theorem E.stage_Stage_Fresh : EntOk Try.prog G F.stage_Stage_Fresh (.rc RC.stage_Stage_Fresh) := ⟨Try.f15, by unfold F.stage_Stage_Fresh; exact Try.func15, by kernel_rfl, by kernel_rfl⟩
theorem E.stage_Stage_Turns : EntOk Try.prog G F.stage_Stage_Turns (.rc RC.stage_Stage_Turns) := ⟨Try.f16, by unfold F.stage_Stage_Turns; exact Try.func16, by kernel_rfl, by kernel_rfl⟩
theorem E.plan_Check : EntOk Try.prog G F.plan_Check (.rc RC.plan_Check) := ⟨Try.f17, by unfold F.plan_Check; exact Try.func17, by kernel_rfl, by kernel_rfl⟩
theorem E.stage_Stage_none : EntOk Try.prog G F.stage_Stage_none (.rc RC.stage_Stage_none) := ⟨Try.f18, by unfold F.stage_Stage_none; exact Try.func18, by kernel_rfl, by kernel_rfl⟩
theorem E.stage_own : EntOk Try.prog G F.stage_own (.rc RC.stage_own) := ⟨Try.f19, by unfold F.stage_own; exact Try.func19, by kernel_rfl, by kernel_rfl⟩
theorem E.ref16_SamePlace : EntOk Try.prog G F.ref16_SamePlace (.rc RC.ref16_SamePlace) := ⟨Try.f20, by unfold F.ref16_SamePlace; exact Try.func20, by kernel_rfl, by kernel_rfl⟩
theorem E.diff_Moved : EntOk Try.prog G F.diff_Moved (.rc RC.diff_Moved) := ⟨Try.f21, by unfold F.diff_Moved; exact Try.func21, by kernel_rfl, by kernel_rfl⟩
theorem E.plan_Find : EntOk Try.prog G F.plan_Find (.rc RC.plan_Find) := ⟨Try.f22, by unfold F.plan_Find; exact Try.func22, by kernel_rfl, by kernel_rfl⟩
theorem E.plan_Drop : EntOk Try.prog G F.plan_Drop (.rc RC.plan_Drop) := ⟨Try.f23, by unfold F.plan_Drop; exact Try.func23, by kernel_rfl, by kernel_rfl⟩
theorem E.plan_Same : EntOk Try.prog G F.plan_Same (.rc RC.plan_Same) := ⟨Try.f24, by unfold F.plan_Same; exact Try.func24, by kernel_rfl, by kernel_rfl⟩
theorem E.plan_place : EntOk Try.prog G F.plan_place (.rc RC.plan_place) := ⟨Try.f25, by unfold F.plan_place; exact Try.func25, by kernel_rfl, by kernel_rfl⟩
theorem E.plan_apart : EntOk Try.prog G F.plan_apart (.rc RC.plan_apart) := ⟨Try.f26, by unfold F.plan_apart; exact Try.func26, by kernel_rfl, by kernel_rfl⟩
theorem E.plan_Splits : EntOk Try.prog G F.plan_Splits (.rc RC.plan_Splits) := ⟨Try.f27, by unfold F.plan_Splits; exact Try.func27, by kernel_rfl, by kernel_rfl⟩
theorem E.plan_Cores : EntOk Try.prog G F.plan_Cores (.rc RC.plan_Cores) := ⟨Try.f28, by unfold F.plan_Cores; exact Try.func28, by kernel_rfl, by kernel_rfl⟩
theorem E.plan_left : EntOk Try.prog G F.plan_left (.rc RC.plan_left) := ⟨Try.f29, by unfold F.plan_left; exact Try.func29, by kernel_rfl, by kernel_rfl⟩
theorem E.diff_some : EntOk Try.prog G F.diff_some (.rc RC.diff_some) := ⟨Try.f30, by unfold F.diff_some; exact Try.func30, by kernel_rfl, by kernel_rfl⟩
theorem E.diff_Moved_1 : EntOk Try.prog G F.diff_Moved_1 (.rc RC.diff_Moved_1) := ⟨Try.f31, by unfold F.diff_Moved_1; exact Try.func31, by kernel_rfl, by kernel_rfl⟩
theorem E.diff_moved : EntOk Try.prog G F.diff_moved (.rc RC.diff_moved) := ⟨Try.f32, by unfold F.diff_moved; exact Try.func32, by kernel_rfl, by kernel_rfl⟩
theorem E.plan_find : EntOk Try.prog G F.plan_find (.rc RC.plan_find) := ⟨Try.f33, by unfold F.plan_find; exact Try.func33, by kernel_rfl, by kernel_rfl⟩
theorem E.slices_Clone_api_Piece_api_Piece : EntOk Try.prog G F.slices_Clone_api_Piece_api_Piece (.rc RC.slices_Clone_api_Piece_api_Piece) := ⟨Try.f34, by unfold F.slices_Clone_api_Piece_api_Piece; exact Try.func34, by kernel_rfl, by kernel_rfl⟩
theorem E.plan_clone : EntOk Try.prog G F.plan_clone (.rc RC.plan_clone) := ⟨Try.f35, by unfold F.plan_clone; exact Try.func35, by kernel_rfl, by kernel_rfl⟩
theorem E.slices_Delete_api_Place_api_Place : EntOk Try.prog G F.slices_Delete_api_Place_api_Place (.rc RC.slices_Delete_api_Place_api_Place) := ⟨Try.f36, by unfold F.slices_Delete_api_Place_api_Place; exact Try.func36, by kernel_rfl, by kernel_rfl⟩
theorem E.slices_EqualFunc_api_Place_api_Place_api_Place_api_Place : EntOk Try.prog G F.slices_EqualFunc_api_Place_api_Place_api_Place_api_Place (.rc RC.slices_EqualFunc_api_Place_api_Place_api_Place_api_Place) := ⟨Try.f37, by unfold F.slices_EqualFunc_api_Place_api_Place_api_Place_api_Place; exact Try.func37, by kernel_rfl, by kernel_rfl⟩
theorem E.plan_SamePlace : EntOk Try.prog G F.plan_SamePlace (.rc RC.plan_SamePlace) := ⟨Try.f38, by unfold F.plan_SamePlace; exact Try.func38, by kernel_rfl, by kernel_rfl⟩
theorem E.order_Kind : EntOk Try.prog G F.order_Kind (.rc RC.order_Kind) := ⟨Try.f39, by unfold F.order_Kind; exact Try.func39, by kernel_rfl, by kernel_rfl⟩
theorem E.plan_split : EntOk Try.prog G F.plan_split (.rc RC.plan_split) := ⟨Try.f40, by unfold F.plan_split; exact Try.func40, by kernel_rfl, by kernel_rfl⟩
theorem E.plan_pieces : EntOk Try.prog G F.plan_pieces (.rc RC.plan_pieces) := ⟨Try.f41, by unfold F.plan_pieces; exact Try.func41, by kernel_rfl, by kernel_rfl⟩
theorem E.plan_has : EntOk Try.prog G F.plan_has (.rc RC.plan_has) := ⟨Try.f42, by unfold F.plan_has; exact Try.func42, by kernel_rfl, by kernel_rfl⟩
theorem E.mask_Count : EntOk Try.prog G F.mask_Count (.rc RC.mask_Count) := ⟨Try.f43, by unfold F.mask_Count; exact Try.func43, by kernel_rfl, by kernel_rfl⟩
theorem E.plan_Windows : EntOk Try.prog G F.plan_Windows (.rc RC.plan_Windows) := ⟨Try.f44, by unfold F.plan_Windows; exact Try.func44, by kernel_rfl, by kernel_rfl⟩
theorem E.plan_Wholes : EntOk Try.prog G F.plan_Wholes (.rc RC.plan_Wholes) := ⟨Try.f45, by unfold F.plan_Wholes; exact Try.func45, by kernel_rfl, by kernel_rfl⟩
theorem E.diff_places : EntOk Try.prog G F.diff_places (.rc RC.diff_places) := ⟨Try.f46, by unfold F.diff_places; exact Try.func46, by kernel_rfl, by kernel_rfl⟩
theorem E.maps_Keys_map_int_api_Place_int_api_Place : EntOk Try.prog G F.maps_Keys_map_int_api_Place_int_api_Place (.rc RC.maps_Keys_map_int_api_Place_int_api_Place) := ⟨Try.f48, by unfold F.maps_Keys_map_int_api_Place_int_api_Place; exact Try.func48, by kernel_rfl, by kernel_rfl⟩
theorem E.slices_Sort_int_int : EntOk Try.prog G F.slices_Sort_int_int (.rc RC.slices_Sort_int_int) := ⟨Try.f49, by unfold F.slices_Sort_int_int; exact Try.func49, by kernel_rfl, by kernel_rfl⟩
theorem E.slices_DeleteFunc_int_int : EntOk Try.prog G F.slices_DeleteFunc_int_int (.rc RC.slices_DeleteFunc_int_int) := ⟨Try.f50, by unfold F.slices_DeleteFunc_int_int; exact Try.func50, by kernel_rfl, by kernel_rfl⟩
theorem E.slices_Compact_int_int : EntOk Try.prog G F.slices_Compact_int_int (.rc RC.slices_Compact_int_int) := ⟨Try.f51, by unfold F.slices_Compact_int_int; exact Try.func51, by kernel_rfl, by kernel_rfl⟩
theorem E.diff_some_1 : EntOk Try.prog G F.diff_some_1 (.rc RC.diff_some_1) := ⟨Try.f52, by unfold F.diff_some_1; exact Try.func52, by kernel_rfl, by kernel_rfl⟩
theorem E.slices_Equal_api_Piece_api_Piece : EntOk Try.prog G F.slices_Equal_api_Piece_api_Piece (.rc RC.slices_Equal_api_Piece_api_Piece) := ⟨Try.f53, by unfold F.slices_Equal_api_Piece_api_Piece; exact Try.func53, by kernel_rfl, by kernel_rfl⟩
theorem E.slices_BinarySearchFunc_api_Place_api_Place_int : EntOk Try.prog G F.slices_BinarySearchFunc_api_Place_api_Place_int (.rc RC.slices_BinarySearchFunc_api_Place_api_Place_int) := ⟨Try.f54, by unfold F.slices_BinarySearchFunc_api_Place_api_Place_int; exact Try.func54, by kernel_rfl, by kernel_rfl⟩
theorem E.plan_find_1 : EntOk Try.prog G F.plan_find_1 (.rc RC.plan_find_1) := ⟨Try.f55, by unfold F.plan_find_1; exact Try.func55, by kernel_rfl, by kernel_rfl⟩
theorem E.cmp_Compare_int : EntOk Try.prog G F.cmp_Compare_int (.rc RC.cmp_Compare_int) := ⟨Try.f56, by unfold F.cmp_Compare_int; exact Try.func56, by kernel_rfl, by kernel_rfl⟩
theorem E.mask_All : EntOk Try.prog G F.mask_All (.rc RC.mask_All) := ⟨Try.f57, by unfold F.mask_All; exact Try.func57, by kernel_rfl, by kernel_rfl⟩
theorem E.math_bits_OnesCount64 : EntOk Try.prog G F.math_bits_OnesCount64 (.rc RC.math_bits_OnesCount64) := ⟨Try.f58, by unfold F.math_bits_OnesCount64; exact Try.func58, by kernel_rfl, by kernel_rfl⟩
theorem E.maps_Keys_map_int_api_Place_int_api_Place_1 : EntOk Try.prog G F.maps_Keys_map_int_api_Place_int_api_Place_1 (.rc RC.maps_Keys_map_int_api_Place_int_api_Place_1) := ⟨Try.f60, by unfold F.maps_Keys_map_int_api_Place_int_api_Place_1; exact Try.func60, by kernel_rfl, by kernel_rfl⟩
theorem E.slices_pdqsortOrdered_int : EntOk Try.prog G F.slices_pdqsortOrdered_int (.rc RC.slices_pdqsortOrdered_int) := ⟨Try.f61, by unfold F.slices_pdqsortOrdered_int; exact Try.func61, by kernel_rfl, by kernel_rfl⟩
theorem E.math_bits_Len : EntOk Try.prog G F.math_bits_Len (.rc RC.math_bits_Len) := ⟨Try.f62, by unfold F.math_bits_Len; exact Try.func62, by kernel_rfl, by kernel_rfl⟩
theorem E.slices_IndexFunc_int_int : EntOk Try.prog G F.slices_IndexFunc_int_int (.rc RC.slices_IndexFunc_int_int) := ⟨Try.f63, by unfold F.slices_IndexFunc_int_int; exact Try.func63, by kernel_rfl, by kernel_rfl⟩
theorem E.cmp_isNaN_int : EntOk Try.prog G F.cmp_isNaN_int (.rc RC.cmp_isNaN_int) := ⟨Try.f64, by unfold F.cmp_isNaN_int; exact Try.func64, by kernel_rfl, by kernel_rfl⟩
theorem E.mask_frame : EntOk Try.prog G F.mask_frame (.rc RC.mask_frame) := ⟨Try.f65, by unfold F.mask_frame; exact Try.func65, by kernel_rfl, by kernel_rfl⟩
theorem E.slices_insertionSortOrdered_int : EntOk Try.prog G F.slices_insertionSortOrdered_int (.rc RC.slices_insertionSortOrdered_int) := ⟨Try.f67, by unfold F.slices_insertionSortOrdered_int; exact Try.func67, by kernel_rfl, by kernel_rfl⟩
theorem E.slices_heapSortOrdered_int : EntOk Try.prog G F.slices_heapSortOrdered_int (.rc RC.slices_heapSortOrdered_int) := ⟨Try.f68, by unfold F.slices_heapSortOrdered_int; exact Try.func68, by kernel_rfl, by kernel_rfl⟩
theorem E.slices_breakPatternsOrdered_int : EntOk Try.prog G F.slices_breakPatternsOrdered_int (.rc RC.slices_breakPatternsOrdered_int) := ⟨Try.f69, by unfold F.slices_breakPatternsOrdered_int; exact Try.func69, by kernel_rfl, by kernel_rfl⟩
theorem E.slices_choosePivotOrdered_int : EntOk Try.prog G F.slices_choosePivotOrdered_int (.rc RC.slices_choosePivotOrdered_int) := ⟨Try.f70, by unfold F.slices_choosePivotOrdered_int; exact Try.func70, by kernel_rfl, by kernel_rfl⟩
theorem E.slices_reverseRangeOrdered_int : EntOk Try.prog G F.slices_reverseRangeOrdered_int (.rc RC.slices_reverseRangeOrdered_int) := ⟨Try.f71, by unfold F.slices_reverseRangeOrdered_int; exact Try.func71, by kernel_rfl, by kernel_rfl⟩
theorem E.slices_partialInsertionSortOrdered_int : EntOk Try.prog G F.slices_partialInsertionSortOrdered_int (.rc RC.slices_partialInsertionSortOrdered_int) := ⟨Try.f72, by unfold F.slices_partialInsertionSortOrdered_int; exact Try.func72, by kernel_rfl, by kernel_rfl⟩
theorem E.cmp_Less_int : EntOk Try.prog G F.cmp_Less_int (.rc RC.cmp_Less_int) := ⟨Try.f73, by unfold F.cmp_Less_int; exact Try.func73, by kernel_rfl, by kernel_rfl⟩
theorem E.slices_partitionEqualOrdered_int : EntOk Try.prog G F.slices_partitionEqualOrdered_int (.rc RC.slices_partitionEqualOrdered_int) := ⟨Try.f74, by unfold F.slices_partitionEqualOrdered_int; exact Try.func74, by kernel_rfl, by kernel_rfl⟩
theorem E.slices_partitionOrdered_int : EntOk Try.prog G F.slices_partitionOrdered_int (.rc RC.slices_partitionOrdered_int) := ⟨Try.f75, by unfold F.slices_partitionOrdered_int; exact Try.func75, by kernel_rfl, by kernel_rfl⟩
theorem E.math_bits_Len32 : EntOk Try.prog G F.math_bits_Len32 (.rc RC.math_bits_Len32) := ⟨Try.f76, by unfold F.math_bits_Len32; exact Try.func76, by kernel_rfl, by kernel_rfl⟩
theorem E.math_bits_Len64 : EntOk Try.prog G F.math_bits_Len64 (.rc RC.math_bits_Len64) := ⟨Try.f77, by unfold F.math_bits_Len64; exact Try.func77, by kernel_rfl, by kernel_rfl⟩
theorem E.slices_siftDownOrdered_int : EntOk Try.prog G F.slices_siftDownOrdered_int (.rc RC.slices_siftDownOrdered_int) := ⟨Try.f78, by unfold F.slices_siftDownOrdered_int; exact Try.func78, by kernel_rfl, by kernel_rfl⟩
theorem E.slices_nextPowerOfTwo : EntOk Try.prog G F.slices_nextPowerOfTwo (.rc RC.slices_nextPowerOfTwo) := ⟨Try.f79, by unfold F.slices_nextPowerOfTwo; exact Try.func79, by kernel_rfl, by kernel_rfl⟩
theorem E.slices_xorshift_Next : EntOk Try.prog G F.slices_xorshift_Next (.rc RC.slices_xorshift_Next) := ⟨Try.f80, by unfold F.slices_xorshift_Next; exact Try.func80, by kernel_rfl, by kernel_rfl⟩
theorem E.slices_medianAdjacentOrdered_int : EntOk Try.prog G F.slices_medianAdjacentOrdered_int (.rc RC.slices_medianAdjacentOrdered_int) := ⟨Try.f81, by unfold F.slices_medianAdjacentOrdered_int; exact Try.func81, by kernel_rfl, by kernel_rfl⟩
theorem E.slices_medianOrdered_int : EntOk Try.prog G F.slices_medianOrdered_int (.rc RC.slices_medianOrdered_int) := ⟨Try.f82, by unfold F.slices_medianOrdered_int; exact Try.func82, by kernel_rfl, by kernel_rfl⟩
theorem E.slices_order2Ordered_int : EntOk Try.prog G F.slices_order2Ordered_int (.rc RC.slices_order2Ordered_int) := ⟨Try.f83, by unfold F.slices_order2Ordered_int; exact Try.func83, by kernel_rfl, by kernel_rfl⟩
theorem E.slices_Sorted_int : EntOk Try.prog G F.slices_Sorted_int (.ext X.sk) := ⟨⟨Try.f47, by unfold F.slices_Sorted_int; exact Try.func47, by kernel_rfl, by kernel_rfl⟩, X.sk_frame, by unfold F.slices_Sorted_int; exact X.sk_sim⟩
theorem ents : EntsOk Try.prog G tab0 := ⟨E.law26_StageNobody, E.stage_New, E.stage_Stage_Staged, E.stage_Stage_Active, E.stage_Stage_Set, E.ref16_Same, E.stage_Stage_Turn, E.law26_awake, E.law26_one, E.stage_Stage_Cut, E.stage_Stage_Fresh, E.stage_Stage_Turns, E.plan_Check, E.stage_Stage_none, E.stage_own, E.ref16_SamePlace, E.diff_Moved, E.plan_Find, E.plan_Drop, E.plan_Same, E.plan_place, E.plan_apart, E.plan_Splits, E.plan_Cores, E.plan_left, E.diff_some, E.diff_Moved_1, E.diff_moved, E.plan_find, E.slices_Clone_api_Piece_api_Piece, E.plan_clone, E.slices_Delete_api_Place_api_Place, E.slices_EqualFunc_api_Place_api_Place_api_Place_api_Place, E.plan_SamePlace, E.order_Kind, E.plan_split, E.plan_pieces, E.plan_has, E.mask_Count, E.plan_Windows, E.plan_Wholes, E.diff_places, E.maps_Keys_map_int_api_Place_int_api_Place, E.slices_Sort_int_int, E.slices_DeleteFunc_int_int, E.slices_Compact_int_int, E.diff_some_1, E.slices_Equal_api_Piece_api_Piece, E.slices_BinarySearchFunc_api_Place_api_Place_int, E.plan_find_1, E.cmp_Compare_int, E.mask_All, E.math_bits_OnesCount64, E.maps_Keys_map_int_api_Place_int_api_Place_1, E.slices_pdqsortOrdered_int, E.math_bits_Len, E.slices_IndexFunc_int_int, E.cmp_isNaN_int, E.mask_frame, E.slices_insertionSortOrdered_int, E.slices_heapSortOrdered_int, E.slices_breakPatternsOrdered_int, E.slices_choosePivotOrdered_int, E.slices_reverseRangeOrdered_int, E.slices_partialInsertionSortOrdered_int, E.cmp_Less_int, E.slices_partitionEqualOrdered_int, E.slices_partitionOrdered_int, E.math_bits_Len32, E.math_bits_Len64, E.slices_siftDownOrdered_int, E.slices_nextPowerOfTwo, E.slices_xorshift_Next, E.slices_medianAdjacentOrdered_int, E.slices_medianOrdered_int, E.slices_order2Ordered_int, E.slices_Sorted_int, trivial⟩
theorem tabOk0 : TabOk Try.prog G R0 := TabOk.of ents
theorem C.law26_awake : EntOk Try.prog G F.law26_awake (.ext X.ok) := X.ok_sim (const_sim hmix tabOk0 (n := 1000) (by kernel_rfl))
theorem tabOk : TabOk Try.prog G R := TabOk.of (l := tab) (⟨C.law26_awake, ents⟩)
end Go.Am


/- StageNobody, run. -/
namespace Go.Am
theorem law26_StageNobody_dead (us : List Value) (h : DdAs [(true, [.int .i64, .int .u32, .sl [.int .i64, .int .i64, .int .i64, .sl [.int .i64, .int .u64]]]), (false, [.int .i64])] us) : ∃ n, (eFn R n F.law26_StageNobody us memD).map Prod.fst = some (.bool true) := by
  obtain ⟨_, _, rfl, h1, h⟩ := h.one; obtain ⟨_, _, rfl, h2, h⟩ := h.one; cases h.none
  obtain ⟨u, rfl, -⟩ := h2.c.int
  obtain ⟨cs, rfl, g0⟩ := h1.agg
  obtain ⟨_, _, rfl, k1, g1⟩ := g0.one; obtain ⟨_, _, rfl, k2, g2⟩ := g1.one; obtain ⟨_, _, rfl, k3, g3⟩ := g2.one
  cases g3.none
  obtain ⟨a, rfl, -⟩ := k1.int; obtain ⟨b, rfl, -⟩ := k2.int
  refine ⟨300, ?_⟩
  rcases k3.sl with rfl | ⟨x, y, rfl⟩ <;> kernel_rfl
end Go.Am
