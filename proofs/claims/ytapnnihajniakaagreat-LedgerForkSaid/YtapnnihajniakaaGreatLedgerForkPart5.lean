/- Parts of the proofs of the statements of this seat: LedgerzKeys, LedgerzCln, AmTieLedgerz, AmBlk, AmSl2, AmSl3, AmMap, LedgerzRosterD, LedgerzOrderUnits, LedgerzRosterW1, LedgerzRosterW2, LedgerzRosterW3, LedgerzRosterW4, AmCut, LedgerzRosterW5, LedgerzRosterW6, SpansD, LedgerzOrderD, AmOwnQ, LedgerzOrderW, LedgerzRosterW7, LedgerzRosterP1. No conditions. -/
import Derived.Test.YtapnnihajniakaaGreatLedgerForkPart3
import Derived.Test.YtapnnihajniakaaGreatProg
import Derived.Test.YtapnnihajniakaaGreatRows
import Derived.Test.YtapnnihajniakaaGreatLedgerForkPart4
set_option linter.unusedVariables false
set_option linter.unusedSimpArgs false

/- slices.Sorted of a map's keys, at this program: the kit's contracts laid in plain words (laykeys.py); what stands for the call. -/
namespace Go.Proofs
open Go.Shelf
def Tryz.keys106_ren : Go.Shelf.Ren := ⟨fun | 10 => 106 | n => n, fun | 33 => 143 | 23 => 86 | 0 => 0 | 4 => 4 | 26 => 3 | 3 => 77 | n => n, fun | n => n⟩
theorem Tryz.keys106 : Go.Proofs.SlLaysZI.n10 Tryz.prog Tryz.keys106_ren := {
  mixed := by kernel_rfl,
  f10 := ⟨Tryz.f106.name, by decide, Tryz.func106.trans (congrArg some (by kernel_rfl))⟩,
  t0 := Tryz.underlying0,
  a0 := Tryz.isAgg0,
  z0 := Tryz.sizeOf0,
  v0 := Tryz.zeroValue0,
  t4 := Tryz.underlying4,
  a4 := Tryz.isAgg4,
  z4 := Tryz.sizeOf4,
  v4 := Tryz.zeroValue4,
  t23 := Tryz.underlying86,
  a23 := Tryz.isAgg86,
  z23 := Tryz.sizeOf86,
  v23 := Tryz.zeroValue86,
  t26 := Tryz.underlying3,
  a26 := Tryz.isAgg3,
  z26 := Tryz.sizeOf3,
  v26 := Tryz.zeroValue3,
  t33 := Tryz.underlying143,
  a33 := Tryz.isAgg143,
  z33 := Tryz.sizeOf143,
  v33 := Tryz.zeroValue143 }
def Tryz.keys107_ren : Go.Shelf.Ren := ⟨fun | 10 => 107 | n => n, fun | 33 => 143 | 23 => 87 | 0 => 0 | 4 => 4 | 26 => 3 | 3 => 109 | n => n, fun | n => n⟩
theorem Tryz.keys107 : Go.Proofs.SlLaysZI.n10 Tryz.prog Tryz.keys107_ren := {
  mixed := by kernel_rfl,
  f10 := ⟨Tryz.f107.name, by decide, Tryz.func107.trans (congrArg some (by kernel_rfl))⟩,
  t0 := Tryz.underlying0,
  a0 := Tryz.isAgg0,
  z0 := Tryz.sizeOf0,
  v0 := Tryz.zeroValue0,
  t4 := Tryz.underlying4,
  a4 := Tryz.isAgg4,
  z4 := Tryz.sizeOf4,
  v4 := Tryz.zeroValue4,
  t23 := Tryz.underlying87,
  a23 := Tryz.isAgg87,
  z23 := Tryz.sizeOf87,
  v23 := Tryz.zeroValue87,
  t26 := Tryz.underlying3,
  a26 := Tryz.isAgg3,
  z26 := Tryz.sizeOf3,
  v26 := Tryz.zeroValue3,
  t33 := Tryz.underlying143,
  a33 := Tryz.isAgg143,
  z33 := Tryz.sizeOf143,
  v33 := Tryz.zeroValue143 }
def Tryz.sorted_ren : Go.Shelf.Ren := ⟨fun | 6 => 89 | 8 => 104 | 9 => 105 | 11 => 109 | 13 => 111 | 12 => 110 | 23 => 121 | 24 => 122 | 14 => 112 | 15 => 113 | 16 => 114 | 17 => 115 | 18 => 116 | 19 => 117 | 20 => 118 | 21 => 119 | 22 => 120 | 25 => 123 | 26 => 124 | 27 => 125 | 28 => 126 | 29 => 127 | 30 => 128 | 31 => 129 | n => n, fun | 26 => 3 | 28 => 131 | 24 => 36 | 0 => 0 | 3 => 3 | 37 => 115 | 48 => 51 | 50 => 138 | 4 => 4 | 40 => 155 | 39 => 154 | 45 => 81 | 5 => 5 | 9 => 9 | 51 => 162 | 55 => 166 | 57 => 168 | 58 => 169 | 33 => 143 | n => n, fun | n => n⟩
theorem Tryz.sorted : Go.Proofs.SlLaysZI.n6 Tryz.prog Tryz.sorted_ren := {
  mixed := by kernel_rfl,
  f6 := ⟨Tryz.f89.name, by decide, Tryz.func89.trans (congrArg some (by kernel_rfl))⟩,
  f8 := ⟨Tryz.f104.name, by decide, Tryz.func104.trans (congrArg some (by kernel_rfl))⟩,
  f11 := ⟨Tryz.f109.name, by decide, Tryz.func109.trans (congrArg some (by kernel_rfl))⟩,
  t0 := Tryz.underlying0,
  a0 := Tryz.isAgg0,
  z0 := Tryz.sizeOf0,
  v0 := Tryz.zeroValue0,
  t24 := Tryz.underlying36,
  a24 := Tryz.isAgg36,
  z24 := Tryz.sizeOf36,
  v24 := Tryz.zeroValue36,
  t26 := Tryz.underlying3,
  a26 := Tryz.isAgg3,
  z26 := Tryz.sizeOf3,
  v26 := Tryz.zeroValue3,
  t28 := Tryz.underlying131,
  a28 := Tryz.isAgg131,
  z28 := Tryz.sizeOf131,
  v28 := Tryz.zeroValue131,
  i26 := by kernel_rfl }
def Tryz.sort_ren : Go.Shelf.Ren := ⟨fun | 5 => 105 | 8 => 111 | 7 => 110 | 19 => 121 | 20 => 122 | 10 => 112 | 11 => 113 | 12 => 114 | 13 => 115 | 14 => 116 | 15 => 117 | 16 => 118 | 17 => 119 | 18 => 120 | 30 => 123 | 31 => 124 | 32 => 125 | 33 => 126 | 34 => 127 | 35 => 128 | 40 => 129 | n => n, fun | 23 => 36 | 25 => 3 | 3 => 3 | 32 => 115 | 22 => 36 | 0 => 0 | 44 => 51 | 46 => 138 | 4 => 4 | 36 => 155 | 35 => 154 | 41 => 81 | 5 => 5 | 9 => 9 | 53 => 162 | 57 => 166 | 63 => 168 | 64 => 169 | n => n, fun | n => n⟩
theorem Tryz.sort : Go.Proofs.SlLaysM.n5 Tryz.prog Tryz.sort_ren := {
  mixed := by kernel_rfl,
  f5 := ⟨Tryz.f105.name, by decide, Tryz.func105.trans (congrArg some (by kernel_rfl))⟩,
  f7 := ⟨Tryz.f110.name, by decide, Tryz.func110.trans (congrArg some (by kernel_rfl))⟩,
  f8 := Tryz.func111.trans (congrArg some (by kernel_rfl)),
  f10 := ⟨Tryz.f112.name, by decide, Tryz.func112.trans (congrArg some (by kernel_rfl))⟩,
  f11 := ⟨Tryz.f113.name, by decide, Tryz.func113.trans (congrArg some (by kernel_rfl))⟩,
  f12 := ⟨Tryz.f114.name, by decide, Tryz.func114.trans (congrArg some (by kernel_rfl))⟩,
  f13 := ⟨Tryz.f115.name, by decide, Tryz.func115.trans (congrArg some (by kernel_rfl))⟩,
  f14 := ⟨Tryz.f116.name, by decide, Tryz.func116.trans (congrArg some (by kernel_rfl))⟩,
  f15 := ⟨Tryz.f117.name, by decide, Tryz.func117.trans (congrArg some (by kernel_rfl))⟩,
  f16 := ⟨Tryz.f118.name, by decide, Tryz.func118.trans (congrArg some (by kernel_rfl))⟩,
  f17 := ⟨Tryz.f119.name, by decide, Tryz.func119.trans (congrArg some (by kernel_rfl))⟩,
  f18 := ⟨Tryz.f120.name, by decide, Tryz.func120.trans (congrArg some (by kernel_rfl))⟩,
  f19 := Tryz.func121.trans (congrArg some (by kernel_rfl)),
  f20 := Tryz.func122.trans (congrArg some (by kernel_rfl)),
  f30 := ⟨Tryz.f123.name, by decide, Tryz.func123.trans (congrArg some (by kernel_rfl))⟩,
  f31 := Tryz.func124.trans (congrArg some (by kernel_rfl)),
  f32 := Tryz.func125.trans (congrArg some (by kernel_rfl)),
  f33 := ⟨Tryz.f126.name, by decide, Tryz.func126.trans (congrArg some (by kernel_rfl))⟩,
  f34 := ⟨Tryz.f127.name, by decide, Tryz.func127.trans (congrArg some (by kernel_rfl))⟩,
  f35 := ⟨Tryz.f128.name, by decide, Tryz.func128.trans (congrArg some (by kernel_rfl))⟩,
  f40 := ⟨Tryz.f129.name, by decide, Tryz.func129.trans (congrArg some (by kernel_rfl))⟩,
  t0 := Tryz.underlying0,
  a0 := Tryz.isAgg0,
  z0 := Tryz.sizeOf0,
  v0 := Tryz.zeroValue0,
  t3 := Tryz.underlying3,
  a3 := Tryz.isAgg3,
  z3 := Tryz.sizeOf3,
  v3 := Tryz.zeroValue3,
  t4 := Tryz.underlying4,
  a4 := Tryz.isAgg4,
  z4 := Tryz.sizeOf4,
  v4 := Tryz.zeroValue4,
  t5 := Tryz.underlying5,
  a5 := Tryz.isAgg5,
  z5 := Tryz.sizeOf5,
  v5 := Tryz.zeroValue5,
  t9 := Tryz.underlying9,
  a9 := Tryz.isAgg9,
  z9 := Tryz.sizeOf9,
  v9 := Tryz.zeroValue9,
  t22 := Tryz.underlying36,
  a22 := Tryz.isAgg36,
  z22 := Tryz.sizeOf36,
  v22 := Tryz.zeroValue36,
  t23 := Tryz.underlying36,
  a23 := Tryz.isAgg36,
  z23 := Tryz.sizeOf36,
  v23 := Tryz.zeroValue36,
  t25 := Tryz.underlying3,
  a25 := Tryz.isAgg3,
  z25 := Tryz.sizeOf3,
  v25 := Tryz.zeroValue3,
  t32 := Tryz.underlying115,
  a32 := Tryz.isAgg115,
  z32 := Tryz.sizeOf115,
  v32 := Tryz.zeroValue115,
  t35 := Tryz.underlying154,
  a35 := Tryz.isAgg154,
  z35 := Tryz.sizeOf154,
  v35 := Tryz.zeroValue154,
  t36 := Tryz.underlying155,
  a36 := Tryz.isAgg155,
  z36 := Tryz.sizeOf155,
  v36 := Tryz.zeroValue155,
  t41 := Tryz.underlying81,
  a41 := Tryz.isAgg81,
  z41 := Tryz.sizeOf81,
  v41 := Tryz.zeroValue81,
  t44 := Tryz.underlying51,
  a44 := Tryz.isAgg51,
  z44 := Tryz.sizeOf51,
  v44 := Tryz.zeroValue51,
  t46 := Tryz.underlying138,
  a46 := Tryz.isAgg138,
  z46 := Tryz.sizeOf138,
  v46 := Tryz.zeroValue138,
  t53 := Tryz.underlying162,
  a53 := Tryz.isAgg162,
  z53 := Tryz.sizeOf162,
  v53 := Tryz.zeroValue162,
  t57 := Tryz.underlying166,
  a57 := Tryz.isAgg166,
  z57 := Tryz.sizeOf166,
  v57 := Tryz.zeroValue166,
  t63 := Tryz.underlying168,
  a63 := Tryz.isAgg168,
  z63 := Tryz.sizeOf168,
  v63 := Tryz.zeroValue168,
  t64 := Tryz.underlying169,
  a64 := Tryz.isAgg169,
  z64 := Tryz.sizeOf169,
  v64 := Tryz.zeroValue169 }
end Go.Proofs
namespace Go.Am
open Go.Proofs
theorem X.sk_sim {G : Nat → World → Prop} (args : List Value) (m : Mem) (v : Value) (m' : Mem) (h : X.sk args m = some (v, m')) : SimCall Tryz.prog G 89 args m v m' := by
  refine X.skeys_sim (ρs := Tryz.sorted_ren) (ρq := Tryz.sort_ren) Tryz.sorted Tryz.sort rfl (enters_of Tryz.func105 (by kernel_rfl) rfl) ?_ args m v m' h
  intro g hg
  simp only [List.mem_cons, List.not_mem_nil, or_false] at hg
  rcases hg with rfl | rfl
  · exact ⟨Tryz.keys106_ren, rfl, Tryz.keys106, rfl, enters_of Tryz.func106 (by kernel_rfl) rfl⟩
  · exact ⟨Tryz.keys107_ren, rfl, Tryz.keys107, rfl, enters_of Tryz.func107 (by kernel_rfl) rfl⟩
end Go.Am


/- maps.Clone, at this program: the kit's contract laid in plain words (laykeys.py). -/
namespace Go.Proofs
open Go.Shelf
def Tryz.clone66_ren : Go.Shelf.Ren := ⟨fun | 5 => 66 | 7 => 92 | n => n, fun | 23 => 86 | 25 => 3 | 3 => 77 | 4 => 4 | 20 => 20 | n => n, fun | n => n⟩
theorem Tryz.clone66 : Go.Proofs.SlLaysW.n5 Tryz.prog Tryz.clone66_ren := {
  mixed := by kernel_rfl,
  f5 := ⟨Tryz.f66.name, by decide, Tryz.func66.trans (congrArg some (by kernel_rfl))⟩,
  f7 := Tryz.func92.trans (congrArg some (by kernel_rfl)),
  t4 := Tryz.underlying4,
  a4 := Tryz.isAgg4,
  z4 := Tryz.sizeOf4,
  v4 := Tryz.zeroValue4,
  t20 := Tryz.underlying20,
  a20 := Tryz.isAgg20,
  z20 := Tryz.sizeOf20,
  v20 := Tryz.zeroValue20,
  t23 := Tryz.underlying86,
  a23 := Tryz.isAgg86,
  z23 := Tryz.sizeOf86,
  v23 := Tryz.zeroValue86 }
def Tryz.clone67_ren : Go.Shelf.Ren := ⟨fun | 5 => 67 | 7 => 92 | n => n, fun | 23 => 87 | 25 => 3 | 3 => 109 | 4 => 4 | 20 => 20 | n => n, fun | n => n⟩
theorem Tryz.clone67 : Go.Proofs.SlLaysW.n5 Tryz.prog Tryz.clone67_ren := {
  mixed := by kernel_rfl,
  f5 := ⟨Tryz.f67.name, by decide, Tryz.func67.trans (congrArg some (by kernel_rfl))⟩,
  f7 := Tryz.func92.trans (congrArg some (by kernel_rfl)),
  t4 := Tryz.underlying4,
  a4 := Tryz.isAgg4,
  z4 := Tryz.sizeOf4,
  v4 := Tryz.zeroValue4,
  t20 := Tryz.underlying20,
  a20 := Tryz.isAgg20,
  z20 := Tryz.sizeOf20,
  v20 := Tryz.zeroValue20,
  t23 := Tryz.underlying87,
  a23 := Tryz.isAgg87,
  z23 := Tryz.sizeOf87,
  v23 := Tryz.zeroValue87 }
end Go.Proofs
namespace Go.Am
open Go.Proofs
theorem X.mc66_sim {G : Nat → World → Prop} (args : List Value) (m : Mem) (v : Value) (m' : Mem) (h : X.mc66 args m = some (v, m')) : SimCall Tryz.prog G 66 args m v m' := X.mcl_sim (ρ := Tryz.clone66_ren) Tryz.clone66 args m v m' h
theorem X.mc67_sim {G : Nat → World → Prop} (args : List Value) (m : Mem) (v : Value) (m' : Mem) (h : X.mc67 args m = some (v, m')) : SimCall Tryz.prog G 67 args m v m' := X.mcl_sim (ρ := Tryz.clone67_ren) Tryz.clone67 args m v m' h
end Go.Am


/- The table of the layer ledgerz is as the program has it. Printed by lawgen.py. -/
namespace Go.Am
open Go.Proofs
set_option maxRecDepth 100000

/-- Nothing is asked of the world. -/
def G : Nat → World → Prop := fun _ _ => True
instance : Keeps G := ⟨fun _ _ _ _ h => h⟩
instance : Rises G := ⟨fun _ _ _ _ h => h⟩
theorem hmix : Tryz.prog.follows .mixedOrders = true := by kernel_rfl
theorem E.law29_LedgerPlays : EntOk Tryz.prog G F.law29_LedgerPlays (.rc RC.law29_LedgerPlays) := ⟨Tryz.f3, by unfold F.law29_LedgerPlays; exact Tryz.func3, by kernel_rfl, by kernel_rfl⟩
theorem E.law29_LedgerFork : EntOk Tryz.prog G F.law29_LedgerFork (.rc RC.law29_LedgerFork) := ⟨Tryz.f4, by unfold F.law29_LedgerFork; exact Tryz.func4, by kernel_rfl, by kernel_rfl⟩
theorem E.ledger_New : EntOk Tryz.prog G F.ledger_New (.rc RC.ledger_New) := ⟨Tryz.f5, by unfold F.ledger_New; exact Tryz.func5, by kernel_rfl, by kernel_rfl⟩
theorem E.ledger_Check : EntOk Tryz.prog G F.ledger_Check (.rc RC.ledger_Check) := ⟨Tryz.f6, by unfold F.ledger_Check; exact Tryz.func6, by kernel_rfl, by kernel_rfl⟩
theorem E.ref29_Right : EntOk Tryz.prog G F.ref29_Right (.rc RC.ref29_Right) := ⟨Tryz.f7, by unfold F.ref29_Right; exact Tryz.func7, by kernel_rfl, by kernel_rfl⟩
theorem E.law29_awake : EntOk Tryz.prog G F.law29_awake (.rc RC.law29_awake) := ⟨Tryz.f8, by unfold F.law29_awake; exact Tryz.func8, by kernel_rfl, by kernel_rfl⟩
theorem E.ref29_New : EntOk Tryz.prog G F.ref29_New (.rc RC.ref29_New) := ⟨Tryz.f9, by unfold F.ref29_New; exact Tryz.func9, by kernel_rfl, by kernel_rfl⟩
theorem E.ref29_Do : EntOk Tryz.prog G F.ref29_Do (.rc RC.ref29_Do) := ⟨Tryz.f10, by unfold F.ref29_Do; exact Tryz.func10, by kernel_rfl, by kernel_rfl⟩
theorem E.ledger_Ledger_Do : EntOk Tryz.prog G F.ledger_Ledger_Do (.rc RC.ledger_Ledger_Do) := ⟨Tryz.f11, by unfold F.ledger_Ledger_Do; exact Tryz.func11, by kernel_rfl, by kernel_rfl⟩
theorem E.law29_Alike : EntOk Tryz.prog G F.law29_Alike (.rc RC.law29_Alike) := ⟨Tryz.f12, by unfold F.law29_Alike; exact Tryz.func12, by kernel_rfl, by kernel_rfl⟩
theorem E.ledger_Ledger_Fork : EntOk Tryz.prog G F.ledger_Ledger_Fork (.rc RC.ledger_Ledger_Fork) := ⟨Tryz.f13, by unfold F.ledger_Ledger_Fork; exact Tryz.func13, by kernel_rfl, by kernel_rfl⟩
theorem E.ledger_Ledger_Roster : EntOk Tryz.prog G F.ledger_Ledger_Roster (.rc RC.ledger_Ledger_Roster) := ⟨Tryz.f14, by unfold F.ledger_Ledger_Roster; exact Tryz.func14, by kernel_rfl, by kernel_rfl⟩
theorem E.roster_Roster_Depart : EntOk Tryz.prog G F.roster_Roster_Depart (.rc RC.roster_Roster_Depart) := ⟨Tryz.f15, by unfold F.roster_Roster_Depart; exact Tryz.func15, by kernel_rfl, by kernel_rfl⟩
theorem E.ledger_Ledger_Cores : EntOk Tryz.prog G F.ledger_Ledger_Cores (.rc RC.ledger_Ledger_Cores) := ⟨Tryz.f16, by unfold F.ledger_Ledger_Cores; exact Tryz.func16, by kernel_rfl, by kernel_rfl⟩
theorem E.cores_Set_Turn : EntOk Tryz.prog G F.cores_Set_Turn (.rc RC.cores_Set_Turn) := ⟨Tryz.f17, by unfold F.cores_Set_Turn; exact Tryz.func17, by kernel_rfl, by kernel_rfl⟩
theorem E.ref27_Turn : EntOk Tryz.prog G F.ref27_Turn (.rc RC.ref27_Turn) := ⟨Tryz.f18, by unfold F.ref27_Turn; exact Tryz.func18, by kernel_rfl, by kernel_rfl⟩
theorem E.roster_New : EntOk Tryz.prog G F.roster_New (.rc RC.roster_New) := ⟨Tryz.f19, by unfold F.roster_New; exact Tryz.func19, by kernel_rfl, by kernel_rfl⟩
theorem E.cores_New : EntOk Tryz.prog G F.cores_New (.rc RC.cores_New) := ⟨Tryz.f20, by unfold F.cores_New; exact Tryz.func20, by kernel_rfl, by kernel_rfl⟩
theorem E.law29_Fit : EntOk Tryz.prog G F.law29_Fit (.rc RC.law29_Fit) := ⟨Tryz.f21, by unfold F.law29_Fit; exact Tryz.func21, by kernel_rfl, by kernel_rfl⟩
theorem E.ledger_Ledger_Free : EntOk Tryz.prog G F.ledger_Ledger_Free (.rc RC.ledger_Ledger_Free) := ⟨Tryz.f22, by unfold F.ledger_Ledger_Free; exact Tryz.func22, by kernel_rfl, by kernel_rfl⟩
theorem E.ref27_New : EntOk Tryz.prog G F.ref27_New (.rc RC.ref27_New) := ⟨Tryz.f23, by unfold F.ref27_New; exact Tryz.func23, by kernel_rfl, by kernel_rfl⟩
theorem E.ref27_Plug : EntOk Tryz.prog G F.ref27_Plug (.rc RC.ref27_Plug) := ⟨Tryz.f24, by unfold F.ref27_Plug; exact Tryz.func24, by kernel_rfl, by kernel_rfl⟩
theorem E.ref27_Unplug : EntOk Tryz.prog G F.ref27_Unplug (.rc RC.ref27_Unplug) := ⟨Tryz.f25, by unfold F.ref27_Unplug; exact Tryz.func25, by kernel_rfl, by kernel_rfl⟩
theorem E.ref29_tick : EntOk Tryz.prog G F.ref29_tick (.rc RC.ref29_tick) := ⟨Tryz.f26, by unfold F.ref29_tick; exact Tryz.func26, by kernel_rfl, by kernel_rfl⟩
theorem E.ref28_Find : EntOk Tryz.prog G F.ref28_Find (.rc RC.ref28_Find) := ⟨Tryz.f27, by unfold F.ref28_Find; exact Tryz.func27, by kernel_rfl, by kernel_rfl⟩
theorem E.ref28_Do : EntOk Tryz.prog G F.ref28_Do (.rc RC.ref28_Do) := ⟨Tryz.f28, by unfold F.ref28_Do; exact Tryz.func28, by kernel_rfl, by kernel_rfl⟩
theorem E.ref29_Free : EntOk Tryz.prog G F.ref29_Free (.rc RC.ref29_Free) := ⟨Tryz.f29, by unfold F.ref29_Free; exact Tryz.func29, by kernel_rfl, by kernel_rfl⟩
theorem E.ledger_Ledger_none : EntOk Tryz.prog G F.ledger_Ledger_none (.rc RC.ledger_Ledger_none) := ⟨Tryz.f30, by unfold F.ledger_Ledger_none; exact Tryz.func30, by kernel_rfl, by kernel_rfl⟩
theorem E.ledger_Ledger_tasks : EntOk Tryz.prog G F.ledger_Ledger_tasks (.rc RC.ledger_Ledger_tasks) := ⟨Tryz.f31, by unfold F.ledger_Ledger_tasks; exact Tryz.func31, by kernel_rfl, by kernel_rfl⟩
theorem E.ledger_Ledger_plug : EntOk Tryz.prog G F.ledger_Ledger_plug (.rc RC.ledger_Ledger_plug) := ⟨Tryz.f32, by unfold F.ledger_Ledger_plug; exact Tryz.func32, by kernel_rfl, by kernel_rfl⟩
theorem E.ledger_Ledger_ticks : EntOk Tryz.prog G F.ledger_Ledger_ticks (.rc RC.ledger_Ledger_ticks) := ⟨Tryz.f33, by unfold F.ledger_Ledger_ticks; exact Tryz.func33, by kernel_rfl, by kernel_rfl⟩
theorem E.roster_Roster_Task : EntOk Tryz.prog G F.roster_Roster_Task (.rc RC.roster_Roster_Task) := ⟨Tryz.f34, by unfold F.roster_Roster_Task; exact Tryz.func34, by kernel_rfl, by kernel_rfl⟩
theorem E.ledger_Ledger_Clock : EntOk Tryz.prog G F.ledger_Ledger_Clock (.rc RC.ledger_Ledger_Clock) := ⟨Tryz.f35, by unfold F.ledger_Ledger_Clock; exact Tryz.func35, by kernel_rfl, by kernel_rfl⟩
theorem E.law28_Alike : EntOk Tryz.prog G F.law28_Alike (.rc RC.law28_Alike) := ⟨Tryz.f36, by unfold F.law28_Alike; exact Tryz.func36, by kernel_rfl, by kernel_rfl⟩
theorem E.cores_Set_Len : EntOk Tryz.prog G F.cores_Set_Len (.rc RC.cores_Set_Len) := ⟨Tryz.f37, by unfold F.cores_Set_Len; exact Tryz.func37, by kernel_rfl, by kernel_rfl⟩
theorem E.cores_Set_State : EntOk Tryz.prog G F.cores_Set_State (.rc RC.cores_Set_State) := ⟨Tryz.f38, by unfold F.cores_Set_State; exact Tryz.func38, by kernel_rfl, by kernel_rfl⟩
theorem E.roster_Roster_Fork : EntOk Tryz.prog G F.roster_Roster_Fork (.rc RC.roster_Roster_Fork) := ⟨Tryz.f39, by unfold F.roster_Roster_Fork; exact Tryz.func39, by kernel_rfl, by kernel_rfl⟩
theorem E.cores_Set_Fork : EntOk Tryz.prog G F.cores_Set_Fork (.rc RC.cores_Set_Fork) := ⟨Tryz.f40, by unfold F.cores_Set_Fork; exact Tryz.func40, by kernel_rfl, by kernel_rfl⟩
theorem E.roster_Roster_one : EntOk Tryz.prog G F.roster_Roster_one (.rc RC.roster_Roster_one) := ⟨Tryz.f41, by unfold F.roster_Roster_one; exact Tryz.func41, by kernel_rfl, by kernel_rfl⟩
theorem E.roster_Roster_count : EntOk Tryz.prog G F.roster_Roster_count (.rc RC.roster_Roster_count) := ⟨Tryz.f42, by unfold F.roster_Roster_count; exact Tryz.func42, by kernel_rfl, by kernel_rfl⟩
theorem E.slices_Repeat_int_int : EntOk Tryz.prog G F.slices_Repeat_int_int (.rc RC.slices_Repeat_int_int) := ⟨Tryz.f43, by unfold F.slices_Repeat_int_int; exact Tryz.func43, by kernel_rfl, by kernel_rfl⟩
theorem E.cores_Set_Count : EntOk Tryz.prog G F.cores_Set_Count (.rc RC.cores_Set_Count) := ⟨Tryz.f44, by unfold F.cores_Set_Count; exact Tryz.func44, by kernel_rfl, by kernel_rfl⟩
theorem E.roster_Roster_Total : EntOk Tryz.prog G F.roster_Roster_Total (.rc RC.roster_Roster_Total) := ⟨Tryz.f45, by unfold F.roster_Roster_Total; exact Tryz.func45, by kernel_rfl, by kernel_rfl⟩
theorem E.ref27_with : EntOk Tryz.prog G F.ref27_with (.rc RC.ref27_with) := ⟨Tryz.f46, by unfold F.ref27_with; exact Tryz.func46, by kernel_rfl, by kernel_rfl⟩
theorem E.ref27_Count : EntOk Tryz.prog G F.ref27_Count (.rc RC.ref27_Count) := ⟨Tryz.f47, by unfold F.ref27_Count; exact Tryz.func47, by kernel_rfl, by kernel_rfl⟩
theorem E.ref28_find : EntOk Tryz.prog G F.ref28_find (.rc RC.ref28_find) := ⟨Tryz.f48, by unfold F.ref28_find; exact Tryz.func48, by kernel_rfl, by kernel_rfl⟩
theorem E.ref28_tasks : EntOk Tryz.prog G F.ref28_tasks (.rc RC.ref28_tasks) := ⟨Tryz.f49, by unfold F.ref28_tasks; exact Tryz.func49, by kernel_rfl, by kernel_rfl⟩
theorem E.ref28_groups : EntOk Tryz.prog G F.ref28_groups (.rc RC.ref28_groups) := ⟨Tryz.f50, by unfold F.ref28_groups; exact Tryz.func50, by kernel_rfl, by kernel_rfl⟩
theorem E.ref28_enter : EntOk Tryz.prog G F.ref28_enter (.rc RC.ref28_enter) := ⟨Tryz.f51, by unfold F.ref28_enter; exact Tryz.func51, by kernel_rfl, by kernel_rfl⟩
theorem E.ref28_members : EntOk Tryz.prog G F.ref28_members (.rc RC.ref28_members) := ⟨Tryz.f52, by unfold F.ref28_members; exact Tryz.func52, by kernel_rfl, by kernel_rfl⟩
theorem E.ref28_Total : EntOk Tryz.prog G F.ref28_Total (.rc RC.ref28_Total) := ⟨Tryz.f53, by unfold F.ref28_Total; exact Tryz.func53, by kernel_rfl, by kernel_rfl⟩
theorem E.ledger_list : EntOk Tryz.prog G F.ledger_list (.rc RC.ledger_list) := ⟨Tryz.f54, by unfold F.ledger_list; exact Tryz.func54, by kernel_rfl, by kernel_rfl⟩
theorem E.ledger_Ledger_room : EntOk Tryz.prog G F.ledger_Ledger_room (.rc RC.ledger_Ledger_room) := ⟨Tryz.f55, by unfold F.ledger_Ledger_room; exact Tryz.func55, by kernel_rfl, by kernel_rfl⟩
theorem E.cores_Set_Plug : EntOk Tryz.prog G F.cores_Set_Plug (.rc RC.cores_Set_Plug) := ⟨Tryz.f56, by unfold F.cores_Set_Plug; exact Tryz.func56, by kernel_rfl, by kernel_rfl⟩
theorem E.cores_Set_Unplug : EntOk Tryz.prog G F.cores_Set_Unplug (.rc RC.cores_Set_Unplug) := ⟨Tryz.f57, by unfold F.cores_Set_Unplug; exact Tryz.func57, by kernel_rfl, by kernel_rfl⟩
theorem E.roster_Roster_Tasks : EntOk Tryz.prog G F.roster_Roster_Tasks (.rc RC.roster_Roster_Tasks) := ⟨Tryz.f58, by unfold F.roster_Roster_Tasks; exact Tryz.func58, by kernel_rfl, by kernel_rfl⟩
theorem E.roster_Roster_Groups : EntOk Tryz.prog G F.roster_Roster_Groups (.rc RC.roster_Roster_Groups) := ⟨Tryz.f59, by unfold F.roster_Roster_Groups; exact Tryz.func59, by kernel_rfl, by kernel_rfl⟩
theorem E.ref08_Same : EntOk Tryz.prog G F.ref08_Same (.rc RC.ref08_Same) := ⟨Tryz.f60, by unfold F.ref08_Same; exact Tryz.func60, by kernel_rfl, by kernel_rfl⟩
theorem E.roster_Roster_Units : EntOk Tryz.prog G F.roster_Roster_Units (.rc RC.roster_Roster_Units) := ⟨Tryz.f61, by unfold F.roster_Roster_Units; exact Tryz.func61, by kernel_rfl, by kernel_rfl⟩
theorem E.ref28_Units : EntOk Tryz.prog G F.ref28_Units (.rc RC.ref28_Units) := ⟨Tryz.f62, by unfold F.ref28_Units; exact Tryz.func62, by kernel_rfl, by kernel_rfl⟩
theorem E.ref28_Group0 : EntOk Tryz.prog G F.ref28_Group0 (.rc RC.ref28_Group0) := ⟨Tryz.f63, by unfold F.ref28_Group0; exact Tryz.func63, by kernel_rfl, by kernel_rfl⟩
theorem E.ref28_Members : EntOk Tryz.prog G F.ref28_Members (.rc RC.ref28_Members) := ⟨Tryz.f64, by unfold F.ref28_Members; exact Tryz.func64, by kernel_rfl, by kernel_rfl⟩
theorem E.roster_Roster_none : EntOk Tryz.prog G F.roster_Roster_none (.rc RC.roster_Roster_none) := ⟨Tryz.f65, by unfold F.roster_Roster_none; exact Tryz.func65, by kernel_rfl, by kernel_rfl⟩
theorem E.slices_Clone_int_int : EntOk Tryz.prog G F.slices_Clone_int_int (.rc RC.slices_Clone_int_int) := ⟨Tryz.f68, by unfold F.slices_Clone_int_int; exact Tryz.func68, by kernel_rfl, by kernel_rfl⟩
theorem E.math_bits_Mul : EntOk Tryz.prog G F.math_bits_Mul (.rc RC.math_bits_Mul) := ⟨Tryz.f69, by unfold F.math_bits_Mul; exact Tryz.func69, by kernel_rfl, by kernel_rfl⟩
theorem E.math_bits_OnesCount32 : EntOk Tryz.prog G F.math_bits_OnesCount32 (.rc RC.math_bits_OnesCount32) := ⟨Tryz.f70, by unfold F.math_bits_OnesCount32; exact Tryz.func70, by kernel_rfl, by kernel_rfl⟩
theorem E.cores_Set_In : EntOk Tryz.prog G F.cores_Set_In (.rc RC.cores_Set_In) := ⟨Tryz.f71, by unfold F.cores_Set_In; exact Tryz.func71, by kernel_rfl, by kernel_rfl⟩
theorem E.order_Total : EntOk Tryz.prog G F.order_Total (.rc RC.order_Total) := ⟨Tryz.f72, by unfold F.order_Total; exact Tryz.func72, by kernel_rfl, by kernel_rfl⟩
theorem E.ref28_share : EntOk Tryz.prog G F.ref28_share (.rc RC.ref28_share) := ⟨Tryz.f73, by unfold F.ref28_share; exact Tryz.func73, by kernel_rfl, by kernel_rfl⟩
theorem E.ref28_with : EntOk Tryz.prog G F.ref28_with (.rc RC.ref28_with) := ⟨Tryz.f74, by unfold F.ref28_with; exact Tryz.func74, by kernel_rfl, by kernel_rfl⟩
theorem E.ref28_without : EntOk Tryz.prog G F.ref28_without (.rc RC.ref28_without) := ⟨Tryz.f75, by unfold F.ref28_without; exact Tryz.func75, by kernel_rfl, by kernel_rfl⟩
theorem E.ref28_groupWith : EntOk Tryz.prog G F.ref28_groupWith (.rc RC.ref28_groupWith) := ⟨Tryz.f76, by unfold F.ref28_groupWith; exact Tryz.func76, by kernel_rfl, by kernel_rfl⟩
theorem E.roster_Roster_Arrive : EntOk Tryz.prog G F.roster_Roster_Arrive (.rc RC.roster_Roster_Arrive) := ⟨Tryz.f77, by unfold F.roster_Roster_Arrive; exact Tryz.func77, by kernel_rfl, by kernel_rfl⟩
theorem E.roster_Roster_Reweight : EntOk Tryz.prog G F.roster_Roster_Reweight (.rc RC.roster_Roster_Reweight) := ⟨Tryz.f78, by unfold F.roster_Roster_Reweight; exact Tryz.func78, by kernel_rfl, by kernel_rfl⟩
theorem E.roster_Roster_Block : EntOk Tryz.prog G F.roster_Roster_Block (.rc RC.roster_Roster_Block) := ⟨Tryz.f79, by unfold F.roster_Roster_Block; exact Tryz.func79, by kernel_rfl, by kernel_rfl⟩
theorem E.roster_Roster_Wake : EntOk Tryz.prog G F.roster_Roster_Wake (.rc RC.roster_Roster_Wake) := ⟨Tryz.f80, by unfold F.roster_Roster_Wake; exact Tryz.func80, by kernel_rfl, by kernel_rfl⟩
theorem E.roster_Roster_Found : EntOk Tryz.prog G F.roster_Roster_Found (.rc RC.roster_Roster_Found) := ⟨Tryz.f81, by unfold F.roster_Roster_Found; exact Tryz.func81, by kernel_rfl, by kernel_rfl⟩
theorem E.roster_Roster_Fund : EntOk Tryz.prog G F.roster_Roster_Fund (.rc RC.roster_Roster_Fund) := ⟨Tryz.f82, by unfold F.roster_Roster_Fund; exact Tryz.func82, by kernel_rfl, by kernel_rfl⟩
theorem E.roster_Roster_Disband : EntOk Tryz.prog G F.roster_Roster_Disband (.rc RC.roster_Roster_Disband) := ⟨Tryz.f83, by unfold F.roster_Roster_Disband; exact Tryz.func83, by kernel_rfl, by kernel_rfl⟩
theorem E.roster_Roster_Enter : EntOk Tryz.prog G F.roster_Roster_Enter (.rc RC.roster_Roster_Enter) := ⟨Tryz.f84, by unfold F.roster_Roster_Enter; exact Tryz.func84, by kernel_rfl, by kernel_rfl⟩
theorem E.roster_Roster_Weigh : EntOk Tryz.prog G F.roster_Roster_Weigh (.rc RC.roster_Roster_Weigh) := ⟨Tryz.f85, by unfold F.roster_Roster_Weigh; exact Tryz.func85, by kernel_rfl, by kernel_rfl⟩
theorem E.roster_Roster_Limit : EntOk Tryz.prog G F.roster_Roster_Limit (.rc RC.roster_Roster_Limit) := ⟨Tryz.f86, by unfold F.roster_Roster_Limit; exact Tryz.func86, by kernel_rfl, by kernel_rfl⟩
theorem E.roster_Roster_Move : EntOk Tryz.prog G F.roster_Roster_Move (.rc RC.roster_Roster_Move) := ⟨Tryz.f87, by unfold F.roster_Roster_Move; exact Tryz.func87, by kernel_rfl, by kernel_rfl⟩
theorem E.cores_Set_change : EntOk Tryz.prog G F.cores_Set_change (.rc RC.cores_Set_change) := ⟨Tryz.f88, by unfold F.cores_Set_change; exact Tryz.func88, by kernel_rfl, by kernel_rfl⟩
theorem E.maps_Keys_map_int_roster_Task_int_roster_Task : EntOk Tryz.prog G F.maps_Keys_map_int_roster_Task_int_roster_Task (.rc RC.maps_Keys_map_int_roster_Task_int_roster_Task) := ⟨Tryz.f90, by unfold F.maps_Keys_map_int_roster_Task_int_roster_Task; exact Tryz.func90, by kernel_rfl, by kernel_rfl⟩
theorem E.maps_Keys_map_int_roster_Group_int_roster_Group : EntOk Tryz.prog G F.maps_Keys_map_int_roster_Group_int_roster_Group (.rc RC.maps_Keys_map_int_roster_Group_int_roster_Group) := ⟨Tryz.f91, by unfold F.maps_Keys_map_int_roster_Group_int_roster_Group; exact Tryz.func91, by kernel_rfl, by kernel_rfl⟩
theorem E.math_bits_Mul32 : EntOk Tryz.prog G F.math_bits_Mul32 (.rc RC.math_bits_Mul32) := ⟨Tryz.f93, by unfold F.math_bits_Mul32; exact Tryz.func93, by kernel_rfl, by kernel_rfl⟩
theorem E.math_bits_Mul64 : EntOk Tryz.prog G F.math_bits_Mul64 (.rc RC.math_bits_Mul64) := ⟨Tryz.f94, by unfold F.math_bits_Mul64; exact Tryz.func94, by kernel_rfl, by kernel_rfl⟩
theorem E.slices_Contains_int_int : EntOk Tryz.prog G F.slices_Contains_int_int (.rc RC.slices_Contains_int_int) := ⟨Tryz.f95, by unfold F.slices_Contains_int_int; exact Tryz.func95, by kernel_rfl, by kernel_rfl⟩
theorem E.fixq_Add : EntOk Tryz.prog G F.fixq_Add (.rc RC.fixq_Add) := ⟨Tryz.f96, by unfold F.fixq_Add; exact Tryz.func96, by kernel_rfl, by kernel_rfl⟩
theorem E.roster_Roster_fresh : EntOk Tryz.prog G F.roster_Roster_fresh (.rc RC.roster_Roster_fresh) := ⟨Tryz.f97, by unfold F.roster_Roster_fresh; exact Tryz.func97, by kernel_rfl, by kernel_rfl⟩
theorem E.roster_Roster_share : EntOk Tryz.prog G F.roster_Roster_share (.rc RC.roster_Roster_share) := ⟨Tryz.f98, by unfold F.roster_Roster_share; exact Tryz.func98, by kernel_rfl, by kernel_rfl⟩
theorem E.roster_Roster_member : EntOk Tryz.prog G F.roster_Roster_member (.rc RC.roster_Roster_member) := ⟨Tryz.f99, by unfold F.roster_Roster_member; exact Tryz.func99, by kernel_rfl, by kernel_rfl⟩
theorem E.roster_Roster_off : EntOk Tryz.prog G F.roster_Roster_off (.rc RC.roster_Roster_off) := ⟨Tryz.f100, by unfold F.roster_Roster_off; exact Tryz.func100, by kernel_rfl, by kernel_rfl⟩
theorem E.order_Unit : EntOk Tryz.prog G F.order_Unit (.rc RC.order_Unit) := ⟨Tryz.f101, by unfold F.order_Unit; exact Tryz.func101, by kernel_rfl, by kernel_rfl⟩
theorem E.roster_Roster_group : EntOk Tryz.prog G F.roster_Roster_group (.rc RC.roster_Roster_group) := ⟨Tryz.f102, by unfold F.roster_Roster_group; exact Tryz.func102, by kernel_rfl, by kernel_rfl⟩
theorem E.roster_weight : EntOk Tryz.prog G F.roster_weight (.rc RC.roster_weight) := ⟨Tryz.f103, by unfold F.roster_weight; exact Tryz.func103, by kernel_rfl, by kernel_rfl⟩
theorem E.maps_Keys_map_int_roster_Task_int_roster_Task_1 : EntOk Tryz.prog G F.maps_Keys_map_int_roster_Task_int_roster_Task_1 (.rc RC.maps_Keys_map_int_roster_Task_int_roster_Task_1) := ⟨Tryz.f106, by unfold F.maps_Keys_map_int_roster_Task_int_roster_Task_1; exact Tryz.func106, by kernel_rfl, by kernel_rfl⟩
theorem E.maps_Keys_map_int_roster_Group_int_roster_Group_1 : EntOk Tryz.prog G F.maps_Keys_map_int_roster_Group_int_roster_Group_1 (.rc RC.maps_Keys_map_int_roster_Group_int_roster_Group_1) := ⟨Tryz.f107, by unfold F.maps_Keys_map_int_roster_Group_int_roster_Group_1; exact Tryz.func107, by kernel_rfl, by kernel_rfl⟩
theorem E.slices_Index_int_int : EntOk Tryz.prog G F.slices_Index_int_int (.rc RC.slices_Index_int_int) := ⟨Tryz.f108, by unfold F.slices_Index_int_int; exact Tryz.func108, by kernel_rfl, by kernel_rfl⟩
theorem E.slices_Sorted_int : EntOk Tryz.prog G F.slices_Sorted_int (.ext X.sk) := ⟨⟨Tryz.f89, by unfold F.slices_Sorted_int; exact Tryz.func89, by kernel_rfl, by kernel_rfl⟩, X.sk_frame, by unfold F.slices_Sorted_int; exact X.sk_sim⟩
theorem E.maps_Clone_map_int_roster_Task_int_roster_Task : EntOk Tryz.prog G F.maps_Clone_map_int_roster_Task_int_roster_Task (.ext X.mc66) := ⟨⟨Tryz.f66, by unfold F.maps_Clone_map_int_roster_Task_int_roster_Task; exact Tryz.func66, by kernel_rfl, by kernel_rfl⟩, X.mc66_frame, by unfold F.maps_Clone_map_int_roster_Task_int_roster_Task; exact X.mc66_sim⟩
theorem E.maps_Clone_map_int_roster_Group_int_roster_Group : EntOk Tryz.prog G F.maps_Clone_map_int_roster_Group_int_roster_Group (.ext X.mc67) := ⟨⟨Tryz.f67, by unfold F.maps_Clone_map_int_roster_Group_int_roster_Group; exact Tryz.func67, by kernel_rfl, by kernel_rfl⟩, X.mc67_frame, by unfold F.maps_Clone_map_int_roster_Group_int_roster_Group; exact X.mc67_sim⟩
theorem ents : EntsOk Tryz.prog G tab0 := ⟨E.law29_LedgerPlays, E.law29_LedgerFork, E.ledger_New, E.ledger_Check, E.ref29_Right, E.law29_awake, E.ref29_New, E.ref29_Do, E.ledger_Ledger_Do, E.law29_Alike, E.ledger_Ledger_Fork, E.ledger_Ledger_Roster, E.roster_Roster_Depart, E.ledger_Ledger_Cores, E.cores_Set_Turn, E.ref27_Turn, E.roster_New, E.cores_New, E.law29_Fit, E.ledger_Ledger_Free, E.ref27_New, E.ref27_Plug, E.ref27_Unplug, E.ref29_tick, E.ref28_Find, E.ref28_Do, E.ref29_Free, E.ledger_Ledger_none, E.ledger_Ledger_tasks, E.ledger_Ledger_plug, E.ledger_Ledger_ticks, E.roster_Roster_Task, E.ledger_Ledger_Clock, E.law28_Alike, E.cores_Set_Len, E.cores_Set_State, E.roster_Roster_Fork, E.cores_Set_Fork, E.roster_Roster_one, E.roster_Roster_count, E.slices_Repeat_int_int, E.cores_Set_Count, E.roster_Roster_Total, E.ref27_with, E.ref27_Count, E.ref28_find, E.ref28_tasks, E.ref28_groups, E.ref28_enter, E.ref28_members, E.ref28_Total, E.ledger_list, E.ledger_Ledger_room, E.cores_Set_Plug, E.cores_Set_Unplug, E.roster_Roster_Tasks, E.roster_Roster_Groups, E.ref08_Same, E.roster_Roster_Units, E.ref28_Units, E.ref28_Group0, E.ref28_Members, E.roster_Roster_none, E.slices_Clone_int_int, E.math_bits_Mul, E.math_bits_OnesCount32, E.cores_Set_In, E.order_Total, E.ref28_share, E.ref28_with, E.ref28_without, E.ref28_groupWith, E.roster_Roster_Arrive, E.roster_Roster_Reweight, E.roster_Roster_Block, E.roster_Roster_Wake, E.roster_Roster_Found, E.roster_Roster_Fund, E.roster_Roster_Disband, E.roster_Roster_Enter, E.roster_Roster_Weigh, E.roster_Roster_Limit, E.roster_Roster_Move, E.cores_Set_change, E.maps_Keys_map_int_roster_Task_int_roster_Task, E.maps_Keys_map_int_roster_Group_int_roster_Group, E.math_bits_Mul32, E.math_bits_Mul64, E.slices_Contains_int_int, E.fixq_Add, E.roster_Roster_fresh, E.roster_Roster_share, E.roster_Roster_member, E.roster_Roster_off, E.order_Unit, E.roster_Roster_group, E.roster_weight, E.maps_Keys_map_int_roster_Task_int_roster_Task_1, E.maps_Keys_map_int_roster_Group_int_roster_Group_1, E.slices_Index_int_int, E.slices_Sorted_int, E.maps_Clone_map_int_roster_Task_int_roster_Task, E.maps_Clone_map_int_roster_Group_int_roster_Group, trivial⟩
theorem tabOk0 : TabOk Tryz.prog G R0 := TabOk.of ents
theorem C.law29_awake : EntOk Tryz.prog G F.law29_awake (.ext X.ok) := X.ok_sim (const_sim hmix tabOk0 (n := 1000) (by kernel_rfl))
theorem tabOk : TabOk Tryz.prog G R := TabOk.of (l := tab) (⟨C.law29_awake, ents⟩)
end Go.Am


/- Blocks, by their numbers: loads and stores as what they do to a block's cells. -/
set_option linter.unusedVariables false
namespace Go.Am

def ldW : Option AObj → Nat → Option Value
  | some (.cells c _), o => c[o]?
  | _, _ => none
def ldA : Option AObj → Nat → Nat → Option Value
  | some (.cells c _), o, sz => if o + sz ≤ c.length then some (.agg ((c.drop o).take sz).toArray) else none
  | _, _, _ => none
def stB (m : Mem) (b : Nat) : Option AObj → Nat → List Value → Option Mem
  | some (.cells c (some u)), o, vs => if o + vs.length ≤ c.length ∧ oneCells vs = true then some (m.set b (some (.cells (writeL c o vs) (some u)))) else none
  | _, _, _ => none

theorem ldW_c {c : List Value} {own : Option Nat} {o : Nat} : ldW (some (.cells c own)) o = c[o]? := rfl
theorem ldA_c {c : List Value} {own : Option Nat} {o sz : Nat} : ldA (some (.cells c own)) o sz = if o + sz ≤ c.length then some (.agg ((c.drop o).take sz).toArray) else none := rfl
theorem stB_c {m : Mem} {b u o : Nat} {c vs : List Value} : stB m b (some (.cells c (some u))) o vs = if o + vs.length ≤ c.length ∧ oneCells vs = true then some (m.set b (some (.cells (writeL c o vs) (some u)))) else none := rfl

theorem load_w {m : Mem} {sz b o : Nat} : aLoad false sz m (.pointer (some ⟨b, o, none⟩)) = ldW (m.blk b) o := by
  simp only [aLoad, Bool.false_eq_true, if_false]
  unfold ldW
  split <;> simp_all
theorem load_a {m : Mem} {sz b o : Nat} : aLoad true sz m (.pointer (some ⟨b, o, none⟩)) = ldA (m.blk b) o sz := by
  simp only [aLoad, if_true]
  unfold ldA
  split <;> simp_all
theorem store_b {m : Mem} {sz b o : Nat} {v : Value} : aStore sz m (.pointer (some ⟨b, o, none⟩)) v = if v.cells.size = sz then stB m b (m.blk b) o v.cells.toList else none := by
  simp only [aStore]
  split
  · unfold aWrite stB
    split <;> simp_all
  · rfl
theorem idxS_b {u b o n c : Nat} {k : IntKind} {i : Int} : aIdxS u (.slice (some ⟨b, o, none⟩) n c) (.int k i) = if 0 ≤ i ∧ i < n then some (.pointer (some ⟨b, o + i.toNat * u, none⟩)) else none := rfl
theorem set_blk {m : Mem} {b k : Nat} {o : Option AObj} : (m.set b o).blk k = if k = b then o else m.blk k := rfl
theorem new_blk {m : Mem} {k : Nat} {o : AObj} : (m.new o).blk k = if k = m.next then some o else m.blk k := rfl
theorem set_next {m : Mem} {b : Nat} {o : Option AObj} : (m.set b o).next = m.next := rfl
theorem new_next {m : Mem} {o : AObj} : (m.new o).next = m.next + 1 := rfl
theorem len_s {a : Option Addr} {n c : Nat} : aLen (.slice a n c) = some (.int .i64 n) := rfl
theorem writeL_one {cs : List Value} {i : Nat} {v : Value} (h : i < cs.length) : writeL cs i [v] = cs.set i v := writeL_set h
theorem toArr_one {v : Value} : (#[v] : Array Value).toList = [v] := rfl
theorem size_one {v : Value} : (#[v] : Array Value).size = 1 := rfl
theorem toList_toArr {l : List Value} : l.toArray.toList = l := rfl
theorem size_toArr {l : List Value} : l.toArray.size = l.length := by simp

/-- What is at these blocks may have changed; all else is as it was. -/
structure Upd (m m' : Mem) (fp : List Nat) : Prop where
  next : m.next ≤ m'.next
  same : ∀ b, b < m.next → b ∉ fp → m'.blk b = m.blk b

theorem Upd.refl (m : Mem) (fp : List Nat) : Upd m m fp := ⟨Nat.le_refl _, fun _ _ _ => rfl⟩
theorem Upd.trans {a b c : Mem} {fp fq fr : List Nat} (h : Upd a b fp) (k : Upd b c fq) (h1 : ∀ x ∈ fp, x ∈ fr) (h2 : ∀ x ∈ fq, x ∈ fr ∨ a.next ≤ x) : Upd a c fr :=
  ⟨Nat.le_trans h.next k.next, fun x hx hn => by
    rw [k.same x (Nat.lt_of_lt_of_le hx h.next) (fun hm => by rcases h2 x hm with h3 | h3; exact hn h3; omega), h.same x hx (fun hm => hn (h1 x hm))]⟩
theorem Ext.upd {m m' : Mem} (h : Ext m m') {fp : List Nat} : Upd m m' fp := ⟨h.next, fun b hb _ => h.same b hb⟩
theorem Upd.ext {m m' : Mem} (h : Upd m m' []) : Ext m m' := ⟨h.next, fun b hb => h.same b hb (by simp)⟩
theorem Upd.set {m : Mem} {b : Nat} {o : Option AObj} {fp : List Nat} (h : b ∈ fp) : Upd m (m.set b o) fp :=
  ⟨Nat.le_refl _, fun x hx hn => by rw [set_blk, if_neg (fun e => hn (by rw [e]; exact h))]⟩
/-- Only blocks from some number on have changed. -/
theorem Upd.ext_of {m0 m m' : Mem} {fp : List Nat} (h0 : Ext m0 m) (h : Upd m m' fp) (hf : ∀ x ∈ fp, m0.next ≤ x) : Ext m0 m' :=
  ⟨Nat.le_trans h0.next h.next, fun b hb => by
    rw [h.same b (Nat.lt_of_lt_of_le hb h0.next) (fun hm => by have := hf b hm; omega), h0.same b hb]⟩
set_option linter.defProp false in
/-- All rules for blocks. -/
def ruB := And.intro @load_w (And.intro @load_a (And.intro @store_b (And.intro @idxS_b (And.intro @set_blk (And.intro @new_blk (And.intro @set_next (And.intro @new_next (And.intro @len_s (And.intro @ldW_c (And.intro @ldA_c (And.intro @stB_c (And.intro @toArr_one (And.intro @size_one (And.intro @toList_toArr (And.intro @size_toArr (And.intro @List.length_cons.{0} (And.intro @List.length_nil.{0} (And.intro @List.getElem?_cons_zero.{0} (And.intro @List.getElem?_cons_succ.{0} (And.intro @Nat.zero_add (@Nat.add_zero)))))))))))))))))))))
set_option linter.defProp false in
def ruBz := And.intro @load_w (And.intro @load_a (And.intro @store_b (And.intro @idxS_b (And.intro @set_blk (And.intro @new_blk (And.intro @set_next (And.intro @new_next (And.intro @len_s (And.intro @ldW_c (And.intro @ldA_c (And.intro @toArr_one (And.intro @size_one (And.intro @toList_toArr (And.intro @size_toArr (And.intro @List.length_cons.{0} (And.intro @List.length_nil.{0} (And.intro @List.getElem?_cons_zero.{0} (And.intro @List.getElem?_cons_succ.{0} (And.intro @Nat.zero_add (@Nat.add_zero))))))))))))))))))))
end Go.Am


/- More of slices that grow: whole slices put behind. -/
set_option linter.unusedVariables false
namespace Go.Am

theorem Sl.src {m : Mem} {u k : Nat} {xs : List Value} {x : Value} (h : Sl m u k xs x) : aSrc u k m x = some xs ∧ sliceLen x = some k := by
  cases h with
  | nil h hc => subst h; subst hc; exact ⟨rfl, rfl⟩
  | «at» hc h =>
    refine ⟨?_, rfl⟩
    simp only [aSrc]
    split
    · rename_i e; subst e
      have := aCells_len h
      rw [Nat.zero_mul] at this
      rw [List.eq_nil_of_length_eq_zero this]
    · rw [if_pos (Nat.le_refl _)]; exact h

/-- The same, with where it stands. -/
theorem app_copy_at {m : Mem} {u k by_ : Nat} {xs : List Value} {x : Value} (hs : Sl (m.new (.cells [] (some u))) u k xs x) (h1 : oneCells xs = true) (hby : k * by_ ≤ 2 ^ 47) (hn : k < 2 ^ 62) (hk : k ≠ 0) :
    ∃ m', aApp none u by_ (m.new (.cells [] (some u))) (.slice (some ⟨m.next, 0, none⟩) 0 0) x = some (.slice (some ⟨m.next + 1, 0, none⟩) k k, m') ∧ m'.blk (m.next + 1) = some (.cells xs (some u)) ∧ m'.next = m.next + 2 ∧ Ext m m' := by
  obtain ⟨hsrc, hlen⟩ := hs.src
  refine ⟨((m.new (.cells [] (some u))).set m.next none).new (.cells xs (some u)), ?_, by simp [Mem.new, Mem.set], by simp [Mem.new, Mem.set], (Ext.new.set (Nat.le_refl _)).trans Ext.new⟩
  have hb : (m.new (.cells [] (some u))).blk m.next = some (.cells [] (some u)) := by simp [Mem.new]
  simp only [aApp, hlen, Option.bind_some, hsrc, hk, if_false, Nat.zero_add]
  rw [if_neg (by omega), hb]
  simp only [List.drop_nil, List.take_nil, Nat.zero_mul, List.length_nil, List.nil_append]
  rw [if_pos ⟨by simpa using hby, by simpa using hn, h1, by first | rfl | trivial, Nat.le_refl _, Nat.le_refl _, .inr ⟨by first | rfl | trivial, .inr (by first | rfl | trivial)⟩⟩]
  simp [place, Mem.new, Mem.set]
  rfl

/-- A slice whose block is none of some. -/
def SlOff (fp : List Nat) : Value → Prop
  | .slice (some a) _ _ => a.block ∉ fp
  | _ => True

theorem Sl.upd {m m' : Mem} {u n : Nat} {cs : List Value} {v : Value} {fp : List Nat} (h : Sl m u n cs v) (hb : SlLt m v) (ho : SlOff fp v) (hx : Upd m m' fp) : Sl m' u n cs v := by
  cases h with
  | nil h hc => exact .nil h hc
  | «at» hc h =>
    refine .at hc ?_
    unfold aCells at h ⊢
    rw [hx.same _ hb ho]; exact h

theorem SlLt.upd {m m' : Mem} {v : Value} {fp : List Nat} (h : SlLt m v) (hx : Upd m m' fp) : SlLt m' v := by
  unfold SlLt at *
  split <;> simp_all
  exact Nat.lt_of_lt_of_le h hx.next

theorem Own.lt {m0 m : Mem} {u n : Nat} {cs : List Value} {v : Value} (h : Own m0 m u n cs v) : SlLt m v := by
  cases h with
  | nil h hc => trivial
  | «at» hb hb2 hn hm hl hcs h1 => exact hb2
theorem Own.off {m0 m : Mem} {u n : Nat} {cs : List Value} {v : Value} {fp : List Nat} (h : Own m0 m u n cs v) (hf : ∀ x ∈ fp, x < m0.next) : SlOff fp v := by
  cases h with
  | nil h hc => trivial
  | «at» hb hb2 hn hm hl hcs h1 => intro hm; have := hf _ hm; simp only at this; omega

/-- What a loop leaves may be told ahead, and used later. -/
theorem WL.mono {R : Nat → Option FEnt} {ks : List Nat} {c : RCode} {e : Env} {m : Mem} {Q Q' : Ex → Env → Mem → Prop} (h : WL R ks c e m Q) (hq : ∀ x e m, Q x e m → Q' x e m) : WL R ks c e m Q' := by
  intro Z hZ
  refine h Z fun e m hz => hZ e m (wp.mono (fun x e' m' hx => ?_) hz)
  exact onNormal.mono (fun _ _ _ h => hq _ _ _ h) (fun e m h => h) hx

theorem watchOk_nil {e : Env} {m m' : Mem} : watchOk e m m' [] = True := (rfl)
theorem watchOk_cons {e : Env} {m m' : Mem} {x : Nat} {r : List Nat} : watchOk e m m' (x :: r) = ((match Env.get e x with | some v => (match blkOf v with | some b => m'.blk b = m.blk b | none => True) | none => False) ∧ watchOk e m m' r) := (rfl)
theorem blkOf_ptr {b o : Nat} : blkOf (.pointer (some ⟨b, o, none⟩)) = some b := (rfl)
theorem blkOf_undef : blkOf undef = none := (rfl)
theorem blkOf_int {k : IntKind} {a : Int} : blkOf (.int k a) = none := (rfl)
attribute [go_sem] watchOk_nil watchOk_cons blkOf_ptr blkOf_undef blkOf_int
theorem load_bump {w : Bool} {u n : Nat} {m : Mem} {p : Value} : aLoad w u (m.bump n) p = aLoad w u m p := (rfl)
theorem blk_bump {n : Nat} {m : Mem} : (m.bump n).blk = m.blk := (rfl)
attribute [go_sem] load_bump blk_bump
theorem Ext.bump {m : Mem} {n : Nat} : Ext m (m.bump n) := ⟨by simp, fun b hb => rfl⟩

/-! ### parts of slices, copies -/

theorem unitOk_own {m : Mem} {b u : Nat} {cs : List Value} (h : m.blk b = some (.cells cs (some u))) : unitOk u m b = true := by unfold unitOk; rw [h]; simp

theorem sub_from {m : Mem} {b o n c u : Nat} {k : IntKind} {i : Nat} (hu : unitOk u m b = true) (h : i ≤ n) (hc : n ≤ c) :
    aSub u m (.slice (some ⟨b, o, none⟩) n c) (some (.int k i)) none none = some (.slice (some ⟨b, o + i * u, none⟩) (n - i) (c - i)) := by
  simp only [aSub, hu, if_true, aBounds, aBound]
  simp [h, cutAt, hc, Int.toNat_natCast]

theorem sub_to {m : Mem} {b o n c u : Nat} {k : IntKind} {i : Nat} (hu : unitOk u m b = true) (h : i ≤ c) :
    aSub u m (.slice (some ⟨b, o, none⟩) n c) none (some (.int k i)) none = some (.slice (some ⟨b, o, none⟩) i c) := by
  simp only [aSub, hu, if_true, aBounds, aBound]
  simp [h, cutAt, Int.toNat_natCast]

/-- A copy into one's own block. -/
theorem copy_into {m : Mem} {b o n c u k : Nat} {cs xs : List Value} {x : Value} (hm : m.blk b = some (.cells cs (some u))) (hs : aSrc u (Nat.min k n) m x = some xs) (hl : sliceLen x = some k) (h1 : oneCells xs = true) (hx : xs.length = (Nat.min k n) * u) (ho : o + n * u ≤ cs.length) :
    aCopy u m (.slice (some ⟨b, o, none⟩) n c) x = some (.int .i64 (Nat.min k n : Nat), m.set b (some (.cells (writeL cs o xs) (some u)))) := by
  have hd : sliceLen (.slice (some ⟨b, o, none⟩) n c) = some n := rfl
  simp only [aCopy, hd, hl, Option.bind_some, hs]
  have hle : (Nat.min k n) * u ≤ n * u := Nat.mul_le_mul_right _ (Nat.min_le_right _ _)
  by_cases h0 : Nat.min k n = 0
  · rw [if_pos h0, h0]
    rw [h0, Nat.zero_mul] at hx
    have := List.eq_nil_of_length_eq_zero hx
    subst this
    have e : writeL cs o [] = cs := by unfold writeL; simp
    rw [e]
    have : m.set b (some (.cells cs (some u))) = m := by
      unfold Mem.set; congr 1; funext q; split
      · rename_i e; subst e; exact hm.symm
      · rfl
    rw [this]; rfl
  · rw [if_neg h0]
    unfold aWrite
    rw [hm]
    simp only
    rw [if_pos ⟨by omega, h1⟩]; rfl

theorem make_eq {m : Mem} {u by_ n : Nat} {z : List Value} {k k' : IntKind} (h1 : n < 2 ^ 62) (h2 : n * by_ ≤ 2 ^ 47) (h3 : z.length = u) (h4 : oneCells z = true) :
    aMake none u by_ z m (.int k n) (.int k' n) = some (.slice (some ⟨m.next, 0, none⟩) n n, m.new (.cells (zeros z n) (some u))) := by
  simp only [aMake, place]
  rw [if_pos ⟨by omega, by omega, by omega, by omega, h3, h4⟩, Int.toNat_natCast]

theorem zeros_int {n : Nat} : zeros [.int .i64 0] n = intsZ (List.replicate n 0) := by
  induction n with
  | zero => rfl
  | succ n ih => simp [zeros, ih, intsZ, List.replicate_succ]

/-! ### elements of more than one cell -/

theorem flat_drop {α : Type} {f : α → List Value} {u : Nat} (hf : ∀ a, (f a).length = u) : ∀ {l : List α} {i : Nat} (h : i < l.length), ((l.flatMap f).drop (i * u)).take u = f l[i]
  | a :: l, 0, _ => by rw [Nat.zero_mul, List.drop_zero, List.flatMap_cons, ← hf a, List.take_left]; rfl
  | a :: l, i + 1, h => by
    rw [List.flatMap_cons, show (i + 1) * u = (f a).length + i * u by rw [hf, Nat.succ_mul]; omega, ← List.drop_drop, List.drop_left, flat_drop hf (by simpa using h)]; rfl

/-- What is read of the i-th element. -/
theorem Sl.elem {α : Type} {f : α → List Value} {m : Mem} {u : Nat} {l : List α} {v : Value} (h : Sl m u l.length (l.flatMap f) v) (hf : ∀ a, (f a).length = u) {k : IntKind} {i : Nat} (hi : i < l.length) :
    ∃ b o, aIdxS u v (.int k i) = some (.pointer (some ⟨b, o, none⟩)) ∧ aLoad true u m (.pointer (some ⟨b, o, none⟩)) = some (.agg (f l[i]).toArray) ∧
      (∀ j, j < u → aLoad false 1 m (.pointer (some ⟨b, o + j, none⟩)) = (f l[i])[j]?) ∧ (SlLt m v → b < m.next) := by
  have hb : ∃ b o, aIdxS u v (.int k i) = some (.pointer (some ⟨b, o, none⟩)) ∧ (SlLt m v → b < m.next) := by
    cases h with
    | nil h hc => omega
    | @«at» b o c hc h =>
      refine ⟨b, o + i * u, ?_, fun h => h⟩
      simp only [aIdxS]; rw [if_pos (by omega), Int.toNat_natCast]
  obtain ⟨b, o, h1, h4⟩ := hb
  obtain ⟨b', o', h1', h2, h3⟩ := h.cell (k := k) hi
  rw [h1] at h1'
  cases h1'
  refine ⟨b, o, h1, by rw [h3, flat_drop hf hi], fun j hj => ?_, h4⟩
  rw [h2 j hj, ← flat_drop hf hi, List.getElem?_take, List.getElem?_drop, if_pos hj]

/-- A block that is there. -/
structure Bk (m : Mem) (b : Nat) (cs : List Value) (u : Nat) : Prop where
  at_ : m.blk b = some (.cells cs (some u))
  lt : b < m.next
theorem Bk.new {m : Mem} {cs : List Value} {u : Nat} : Bk (m.new (.cells cs (some u))) m.next cs u := ⟨by simp [Mem.new], by simp [Mem.new]⟩
theorem Bk.ne {m : Mem} {b u : Nat} {cs : List Value} (h : Bk m b cs u) : (b = m.next) = False := eq_false (Nat.ne_of_lt h.lt)
theorem Bk.keep {m m' : Mem} {b u : Nat} {cs : List Value} (h : Bk m b cs u) (hx : Ext m m') : Bk m' b cs u := ⟨by rw [hx.same _ h.lt]; exact h.at_, Nat.lt_of_lt_of_le h.lt hx.next⟩
theorem Bk.upd {m m' : Mem} {b u : Nat} {cs : List Value} {fp : List Nat} (h : Bk m b cs u) (hx : Upd m m' fp) (hn : b ∉ fp) : Bk m' b cs u := ⟨by rw [hx.same _ h.lt hn]; exact h.at_, Nat.lt_of_lt_of_le h.lt hx.next⟩
end Go.Am


/- What putting behind a slice touches: its own block alone. -/
set_option linter.unusedVariables false
namespace Go.Am

/-- The block of a slice. -/
def vb : Value → List Nat
  | .slice (some a) _ _ => [a.block]
  | _ => []

theorem SlOff.vb_iff {v : Value} {fp : List Nat} : SlOff fp v ↔ ∀ b ∈ vb v, b ∉ fp := by
  unfold SlOff vb
  split <;> simp
theorem SlLt.vb_iff {m : Mem} {v : Value} : SlLt m v ↔ ∀ b ∈ vb v, b < m.next := by
  unfold SlLt vb
  split <;> simp

theorem aWrite_upd {m m' : Mem} {b o : Nat} {xs : List Value} (h : aWrite m b o xs = some m') : Upd m m' [b] ∧ m'.next = m.next := by
  unfold aWrite at h
  split at h
  · split at h
    · cases h; exact ⟨Upd.set (by simp), rfl⟩
    · cases h
  · cases h

/-- A function value is called. -/
def gV (R : Nat → Option FEnt) (fv : Value) (vs : List Value) (m : Mem) (Q : Value → Mem → Prop) (_ : Ph Q := ph) : Prop := ∃ f a b, fv = .func (.func f) a b ∧ WC R f (a.toList ++ vs ++ b.toList) m Q
theorem a_callv {R : Nat → Option FEnt} {at_ : Option Nat} {e : Env} {m : Mem} {Q : Value → Mem → Prop} {x : X} {xs : List X} : gpA R at_ e m (.callv x xs) Q = Got (x.ev e) fun fv => Got (evs e xs) fun vs => gV R fv vs m Q := by
  refine propext ⟨?_, ?_⟩
  · rintro ⟨f, a, b, vs, h1, h2, h3⟩; exact ⟨_, h1, _, h2, f, a, b, rfl, h3⟩
  · rintro ⟨_, h1, vs, h2, f, a, b, rfl, h3⟩; exact ⟨f, a, b, vs, h1, h2, h3⟩
theorem gV_func {R : Nat → Option FEnt} {m : Mem} {Q : Value → Mem → Prop} {f : Nat} {vs : List Value} : gV R (.func (.func f) #[] #[]) vs m Q = gC R f vs m Q := by
  refine propext ⟨?_, fun h => ⟨f, #[], #[], rfl, by have h : WC R f vs m Q := h; simpa using h⟩⟩
  rintro ⟨_, _, _, h, k⟩
  cases h
  show WC R f vs m Q
  simpa using k
attribute [go_sem] a_callv gV_func

theorem gV.of {R : Nat → Option FEnt} {fv : Value} {vs : List Value} {m : Mem} {Q Q' : Value → Mem → Prop} (h : gV R fv vs m Q') (k : ∀ v m', Q' v m' → Q v m') : gV R fv vs m Q := by
  obtain ⟨f, a, b, rfl, h2⟩ := h
  exact ⟨f, a, b, rfl, h2.mono k⟩
theorem Own.updq {m0 m m' : Mem} {u n : Nat} {cs : List Value} {v : Value} {fp : List Nat} (h : Own m0 m u n cs v) (hx : Upd m m' fp) (ho : ∀ b ∈ vb v, b ∉ fp) : Own m0 m' u n cs v := by
  cases h with
  | nil h hc => exact .nil h hc
  | @«at» b c all hb hb2 hn hm hl hcs h1 => exact .at hb (Nat.lt_of_lt_of_le hb2 hx.next) hn (by rw [hx.same b hb2 (ho b (by simp [vb]))]; exact hm) hl hcs h1
end Go.Am


/- Maps whose keys are whole numbers. -/
set_option linter.unusedVariables false
namespace Go.Am
variable {α : Type}

def mpL (e : α → Value) (L : List (Int × α)) : List (Value × Value) := L.map fun p => (.int .i64 p.1, e p.2)
def lkp : List (Int × α) → Int → Option α
  | [], _ => none
  | (k, a) :: r, x => if k = x then some a else lkp r x
def updL : List (Int × α) → Int → α → List (Int × α)
  | [], x, a => [(x, a)]
  | (k, b) :: r, x, a => if k = x then (x, a) :: r else (k, b) :: updL r x a
def delL : List (Int × α) → Int → List (Int × α)
  | [], _ => []
  | (k, b) :: r, x => if k = x then r else (k, b) :: delL r x

theorem lkp_upd {L : List (Int × α)} {x y : Int} {a : α} : lkp (updL L x a) y = if y = x then some a else lkp L y := by
  induction L with
  | nil => simp only [updL, lkp]; by_cases h : x = y <;> simp [h]; intro e; exact absurd e.symm h
  | cons p r ih =>
    obtain ⟨k, b⟩ := p
    simp only [updL]
    by_cases h : k = x
    · subst h
      simp only [if_true, lkp]
      by_cases g : k = y
      · subst g; simp
      · rw [if_neg g, if_neg (fun e => g e.symm), if_neg g]
    · simp only [h, if_false, lkp]
      by_cases g : k = y
      · subst g; rw [if_pos rfl, if_neg h, if_pos rfl]
      · rw [if_neg g, ih, if_neg g]

theorem findK_mp {e : α → Value} {x : Int} : ∀ (L : List (Int × α)) (i : Nat), (lkp L x = none → findK .int (.int .i64 x) (mpL e L) i = some none ∧ ∀ a, mpL e L ++ [(.int .i64 x, e a)] = mpL e (updL L x a)) ∧
    ∀ a, lkp L x = some a → ∃ j, findK .int (.int .i64 x) (mpL e L) i = some (some (i + j, e a)) ∧ (∀ b, (mpL e L).set j (.int .i64 x, e b) = mpL e (updL L x b)) ∧ (mpL e L).eraseIdx j = mpL e (delL L x)
  | [], i => ⟨fun _ => ⟨rfl, fun a => rfl⟩, fun a h => by simp [lkp] at h⟩
  | (k, b) :: r, i => by
    by_cases h : k = x
    · subst h
      refine ⟨fun h => by simp [lkp] at h, fun a ha => ?_⟩
      simp only [lkp, if_true, Option.some.injEq] at ha
      subst ha
      refine ⟨0, ?_, fun b => ?_, ?_⟩
      · simp [mpL, findK, keyEq]
      · simp [mpL, updL]
      · simp [mpL, delL]
    · have hk : keyEq .int (.int .i64 x) (.int .i64 k) = some false := by simp [keyEq]; exact fun e => h e.symm
      have hf : findK .int (.int .i64 x) (mpL e ((k, b) :: r)) i = findK .int (.int .i64 x) (mpL e r) (i + 1) := by
        show (match keyEq .int (.int .i64 x) (.int .i64 k) with | some true => _ | some false => _ | none => _) = _
        rw [hk]; rfl
      obtain ⟨h1, h2⟩ := findK_mp (e := e) r (i + 1)
      refine ⟨fun hn => ?_, fun a ha => ?_⟩
      · simp only [lkp, h, if_false] at hn
        obtain ⟨g1, g2⟩ := h1 hn
        refine ⟨by rw [hf, g1], fun a => ?_⟩
        simp only [updL, h, if_false]
        show (.int .i64 k, e b) :: (mpL e r ++ _) = _
        rw [g2]; rfl
      · simp only [lkp, h, if_false] at ha
        obtain ⟨j, g1, g2, g3⟩ := h2 a ha
        refine ⟨j + 1, by rw [hf, g1]; congr 3; omega, fun c => ?_, ?_⟩
        · simp only [updL, h, if_false]
          show (.int .i64 k, e b) :: ((mpL e r).set j _) = _
          rw [g2]; rfl
        · simp only [delL, h, if_false]
          show (.int .i64 k, e b) :: ((mpL e r).eraseIdx j) = _
          rw [g3]; rfl

/-- A map that is there. -/
structure Mp (m : Mem) (r : Nat) (e : α → Value) (L : List (Int × α)) : Prop where
  at_ : m.blk r = some (.map (mpL e L))
  lt : r < m.next
theorem Mp.new {m : Mem} {e : α → Value} : Mp (m.new (.map [])) m.next e [] := ⟨by simp [Mem.new, mpL], by simp [Mem.new]⟩
theorem Mp.keep {m m' : Mem} {r : Nat} {e : α → Value} {L : List (Int × α)} (h : Mp m r e L) (hx : Ext m m') : Mp m' r e L := ⟨by rw [hx.same _ h.lt]; exact h.at_, Nat.lt_of_lt_of_le h.lt hx.next⟩
theorem Mp.upd {m m' : Mem} {r : Nat} {e : α → Value} {L : List (Int × α)} {fp : List Nat} (h : Mp m r e L) (hx : Upd m m' fp) (hn : r ∉ fp) : Mp m' r e L := ⟨by rw [hx.same _ h.lt hn]; exact h.at_, Nat.lt_of_lt_of_le h.lt hx.next⟩
theorem Mp.other {m : Mem} {r b : Nat} {e : α → Value} {L : List (Int × α)} {o : Option AObj} (h : Mp m r e L) (hn : r ≠ b) : Mp (m.set b o) r e L := ⟨by simp [Mem.set, hn]; exact h.at_, h.lt⟩
theorem Mp.self {m : Mem} {r : Nat} {e : α → Value} {L L' : List (Int × α)} (h : Mp m r e L) : Mp (m.set r (some (.map (mpL e L')))) r e L' := ⟨by simp [Mem.set], h.lt⟩

theorem Mp.look {m : Mem} {r : Nat} {e : α → Value} {L : List (Int × α)} (h : Mp m r e L) {x : Int} {z : α} : aLook .int (e z) false m (.map (some r)) (.int .i64 x) = some (e ((lkp L x).getD z)) := by
  simp only [aLook, h.at_, Option.bind_some]
  obtain ⟨h1, h2⟩ := findK_mp (e := e) (x := x) L 0
  cases hl : lkp L x with
  | none => rw [(h1 hl).1]; rfl
  | some a =>
    obtain ⟨j, g, -⟩ := h2 a hl
    rw [g]; rfl
theorem Mp.look_ok {m : Mem} {r : Nat} {e : α → Value} {L : List (Int × α)} (h : Mp m r e L) {x : Int} {z : α} : aLook .int (e z) true m (.map (some r)) (.int .i64 x) = some (.tuple #[e ((lkp L x).getD z), .bool (lkp L x).isSome]) := by
  simp only [aLook, h.at_, Option.bind_some]
  obtain ⟨h1, h2⟩ := findK_mp (e := e) (x := x) L 0
  cases hl : lkp L x with
  | none => rw [(h1 hl).1]; rfl
  | some a =>
    obtain ⟨j, g, -⟩ := h2 a hl
    rw [g]; rfl
theorem Mp.put {m : Mem} {r : Nat} {e : α → Value} {L : List (Int × α)} (h : Mp m r e L) {x : Int} {a : α} : aUpd .int m (.map (some r)) (.int .i64 x) (e a) = some (m.set r (some (.map (mpL e (updL L x a))))) := by
  simp only [aUpd, h.at_]
  obtain ⟨h1, h2⟩ := findK_mp (e := e) (x := x) L 0
  cases hl : lkp L x with
  | none => rw [(h1 hl).1]; simp only [Option.map_some]; rw [(h1 hl).2]
  | some b =>
    obtain ⟨j, g, g2, -⟩ := h2 b hl
    rw [g]; simp only [Option.map_some, Nat.zero_add]; rw [g2]
theorem Mp.del {m : Mem} {r : Nat} {e : α → Value} {L : List (Int × α)} (h : Mp m r e L) {x : Int} : ∃ L', L' = (if (lkp L x).isSome then delL L x else L) ∧ ∃ m', aDel .int m (.map (some r)) (.int .i64 x) = some m' ∧ Mp m' r e L' ∧ Upd m m' [r] := by
  refine ⟨_, rfl, ?_⟩
  simp only [aDel, h.at_]
  obtain ⟨h1, h2⟩ := findK_mp (e := e) (x := x) L 0
  cases hl : lkp L x with
  | none => rw [(h1 hl).1]; exact ⟨m, rfl, h, Upd.refl _ _⟩
  | some b =>
    obtain ⟨j, g, -, g3⟩ := h2 b hl
    rw [g]; simp only [Option.map_some, Nat.zero_add]
    rw [g3]
    exact ⟨_, rfl, h.self, Upd.set (by simp)⟩

end Go.Am


/- RosterD over the table of ledgerz (relayset.py). -/
set_option linter.unusedVariables false
set_option linter.unusedSimpArgs false
namespace Go.Am
open Classical

structure Tk where
  id : Int
  grp : Int
  share : Int
  weight : Int
  cap : Int
  off : Bool
structure Gp where
  id : Int
  share : Int
  mem : Int
def tkV (t : Tk) : List Value := [.int .i64 t.id, .int .i64 t.grp, .int .i64 t.share, .int .i64 t.weight, .int .i64 t.cap, .bool t.off]
def gpV (g : Gp) : List Value := [.int .i64 g.id, .int .i64 g.share, .int .i64 g.mem]
theorem tkV_len (t : Tk) : (tkV t).length = 6 := rfl
theorem gpV_len (t : Gp) : (gpV t).length = 3 := rfl
def tvA (t : Tk) : Value := .agg (tkV t).toArray
def gvA (g : Gp) : Value := .agg (gpV g).toArray
def zT : Tk := ⟨0, 0, 0, 0, 0, false⟩
def zG : Gp := ⟨0, 0, 0⟩

/-- A roster: tasks and groups, by their numbers. -/
structure Rs where
  f : Int
  T : List (Int × Tk)
  G : List (Int × Gp)

/-! ### rows of pairs -/
variable {α : Type}
def kys (L : List (Int × α)) : List Int := L.map Prod.fst
theorem lkp_some {L : List (Int × α)} {x : Int} {a : α} (h : lkp L x = some a) : (x, a) ∈ L := by
  induction L with
  | nil => cases h
  | cons p r ih =>
    obtain ⟨k, b⟩ := p
    simp only [lkp] at h
    split at h
    · rename_i e; cases h; subst e; simp
    · exact List.mem_cons_of_mem _ (ih h)
theorem lkp_none {L : List (Int × α)} {x : Int} (h : lkp L x = none) : x ∉ kys L := by
  induction L with
  | nil => simp [kys]
  | cons p r ih =>
    obtain ⟨k, b⟩ := p
    simp only [lkp] at h
    split at h
    · cases h
    · rename_i e
      simp only [kys, List.map_cons, List.mem_cons, not_or]
      exact ⟨fun e' => e e'.symm, ih h⟩
theorem lkp_not {L : List (Int × α)} {x : Int} (h : x ∉ kys L) : lkp L x = none := by
  cases hl : lkp L x with
  | none => rfl
  | some a => exact absurd (List.mem_map.2 ⟨_, lkp_some hl, rfl⟩) h
theorem lkp_mem {L : List (Int × α)} (hn : (kys L).Nodup) {x : Int} {a : α} (h : (x, a) ∈ L) : lkp L x = some a := by
  induction L with
  | nil => cases h
  | cons p r ih =>
    obtain ⟨k, b⟩ := p
    simp only [kys, List.map_cons, List.nodup_cons] at hn
    rcases List.mem_cons.1 h with e | h
    · cases e; simp [lkp]
    · have : k ≠ x := fun e => hn.1 (by rw [e]; exact List.mem_map.2 ⟨_, h, rfl⟩)
      simp only [lkp, if_neg this]
      exact ih hn.2 h
theorem lkp_isSome {L : List (Int × α)} {x : Int} : (lkp L x).isSome = decide (x ∈ kys L) := by
  cases h : lkp L x with
  | none => rw [decide_eq_false (lkp_none h)]; rfl
  | some a =>
    have : x ∈ kys L := List.mem_map.2 ⟨_, lkp_some h, rfl⟩
    rw [decide_eq_true this]; rfl
def outK (L : List (Int × α)) (x : Int) : List (Int × α) := L.filter fun p => decide (p.1 ≠ x)
theorem outK_not {L : List (Int × α)} {x : Int} (h : x ∉ kys L) : outK L x = L := List.filter_eq_self.2 fun p hp => decide_eq_true fun e => h (by rw [← e]; exact List.mem_map.2 ⟨p, hp, rfl⟩)
theorem kys_out {L : List (Int × α)} (hn : (kys L).Nodup) {x : Int} : (kys (outK L x)).Nodup := hn.sublist (List.Sublist.map _ List.filter_sublist)
theorem mem_kys_out {L : List (Int × α)} {x y : Int} : y ∈ kys (outK L x) ↔ y ∈ kys L ∧ y ≠ x := by
  unfold kys outK
  simp only [List.mem_map, List.mem_filter, decide_eq_true_eq]
  constructor
  · rintro ⟨p, ⟨a, b⟩, rfl⟩; exact ⟨⟨p, a, rfl⟩, b⟩
  · rintro ⟨⟨p, a, rfl⟩, b⟩; exact ⟨p, ⟨a, b⟩, rfl⟩
theorem delL_eq {L : List (Int × α)} (hn : (kys L).Nodup) {x : Int} : delL L x = outK L x := by
  induction L with
  | nil => rfl
  | cons p r ih =>
    obtain ⟨k, b⟩ := p
    simp only [kys, List.map_cons, List.nodup_cons] at hn
    unfold delL outK
    by_cases h : k = x
    · subst h
      rw [if_pos rfl, List.filter_cons_of_neg (by simp)]
      exact (outK_not hn.1).symm
    · rw [if_neg h, List.filter_cons_of_pos (by simp [h]), ih hn.2]; rfl
theorem updL_perm {L : List (Int × α)} (hn : (kys L).Nodup) {x : Int} {a : α} : (updL L x a).Perm (outK L x ++ [(x, a)]) := by
  induction L with
  | nil => exact List.Perm.refl _
  | cons p r ih =>
    obtain ⟨k, b⟩ := p
    simp only [kys, List.map_cons, List.nodup_cons] at hn
    unfold updL
    by_cases h : k = x
    · subst h
      rw [if_pos rfl]
      have e : outK ((k, b) :: r) k = r := by
        unfold outK
        rw [List.filter_cons_of_neg (by simp)]
        exact outK_not hn.1
      rw [e]
      exact (List.perm_append_singleton _ _).symm
    · rw [if_neg h]
      have e : outK ((k, b) :: r) x = (k, b) :: outK r x := by unfold outK; rw [List.filter_cons_of_pos (by simp [h])]
      rw [e]
      exact (ih hn.2).cons _
theorem kys_upd {L : List (Int × α)} (hn : (kys L).Nodup) {x : Int} {a : α} : (kys (updL L x a)).Nodup := by
  have hp := (updL_perm hn (x := x) (a := a)).map Prod.fst
  unfold kys
  rw [hp.nodup_iff, List.map_append, List.nodup_append]
  refine ⟨kys_out hn, by simp, fun y hy z hz => ?_⟩
  simp only [List.map_cons, List.map_nil, List.mem_singleton] at hz
  rw [hz]
  exact (mem_kys_out.1 hy).2
theorem kys_del {L : List (Int × α)} (hn : (kys L).Nodup) {x : Int} : (kys (delL L x)).Nodup := by rw [delL_eq hn]; exact kys_out hn
theorem mem_upd {L : List (Int × α)} (hn : (kys L).Nodup) {x : Int} {a : α} {p : Int × α} : p ∈ updL L x a ↔ (p ∈ L ∧ p.1 ≠ x) ∨ p = (x, a) := by
  rw [(updL_perm hn).mem_iff, List.mem_append, List.mem_singleton]
  unfold outK
  rw [List.mem_filter, decide_eq_true_eq]
theorem mem_del {L : List (Int × α)} (hn : (kys L).Nodup) {x : Int} {p : Int × α} : p ∈ delL L x ↔ p ∈ L ∧ p.1 ≠ x := by
  rw [delL_eq hn]
  unfold outK
  rw [List.mem_filter, decide_eq_true_eq]

/-! ### what commands do -/
def cntU (G : List (Int × Gp)) (k by_ : Int) : List (Int × Gp) := match lkp G k with
  | some g => updL G k { g with mem := g.mem + by_ }
  | none => G
noncomputable def freshE (s : Rs) (id : Int) : Int := if ¬ (1 ≤ id ∧ id ≤ 200) then 20 else if id ∈ kys s.T then 11 else 0
noncomputable def shOk (s : Rs) (n : Int) : Prop := 1 ≤ n ∧ n ≤ s.f
noncomputable def arriveS (s : Rs) (id sh : Int) : Rs × Int :=
  if freshE s id ≠ 0 then (s, freshE s id) else if ¬ shOk s sh then (s, 21) else if 96 ≤ s.T.length then (s, 13) else ({ s with T := updL s.T id ⟨id, 0, sh, 0, 0, false⟩ }, 0)
noncomputable def departS (s : Rs) (id : Int) : Rs × Int := match lkp s.T id with
  | none => (s, 10)
  | some t => ({ s with G := cntU s.G t.grp (-1), T := delL s.T id }, 0)
noncomputable def reweightS (s : Rs) (id sh : Int) : Rs × Int := match lkp s.T id with
  | none => (s, 10)
  | some t => if t.grp ≠ 0 then (s, 14) else if ¬ shOk s sh then (s, 21) else ({ s with T := updL s.T id { t with share := sh } }, 0)
noncomputable def offS (s : Rs) (id : Int) (o : Bool) : Rs × Int := match lkp s.T id with
  | none => (s, 10)
  | some t => if t.off = o then (s, 15) else ({ s with T := updL s.T id { t with off := o } }, 0)
noncomputable def foundS (s : Rs) (k sh : Int) : Rs × Int :=
  if ¬ (1 ≤ k ∧ k ≤ 40) then (s, 25) else if k ∈ kys s.G then (s, 11) else if ¬ shOk s sh then (s, 21) else ({ s with G := updL s.G k ⟨k, sh, 0⟩ }, 0)
noncomputable def fundS (s : Rs) (k sh : Int) : Rs × Int := match lkp s.G k with
  | none => (s, 25)
  | some g => if ¬ shOk s sh then (s, 21) else ({ s with G := updL s.G k { g with share := sh } }, 0)
noncomputable def disbandS (s : Rs) (k : Int) : Rs × Int := match lkp s.G k with
  | none => (s, 25)
  | some g => if 0 < g.mem then (s, 16) else ({ s with G := delL s.G k }, 0)
noncomputable def enterS (s : Rs) (id k w c : Int) : Rs × Int :=
  if freshE s id ≠ 0 then (s, freshE s id) else match lkp s.G k with
  | none => (s, 25)
  | some g => if ¬ (1 ≤ w ∧ w ≤ 1000) then (s, 22) else if c < 0 ∨ s.f < c then (s, 23) else if 96 ≤ s.T.length ∨ 32 ≤ g.mem then (s, 13)
    else ({ s with T := updL s.T id ⟨id, k, 0, w, c, false⟩, G := cntU s.G k 1 }, 0)
noncomputable def weighS (s : Rs) (id w : Int) : Rs × Int := match lkp s.T id with
  | none => (s, 10)
  | some t => if t.grp = 0 then (s, 14) else if ¬ (1 ≤ w ∧ w ≤ 1000) then (s, 22) else ({ s with T := updL s.T id { t with weight := w } }, 0)
noncomputable def limitS (s : Rs) (id c : Int) : Rs × Int := match lkp s.T id with
  | none => (s, 10)
  | some t => if t.grp = 0 then (s, 14) else if c < 0 ∨ s.f < c then (s, 23) else ({ s with T := updL s.T id { t with cap := c } }, 0)
noncomputable def moveS (s : Rs) (id k : Int) : Rs × Int := match lkp s.T id with
  | none => (s, 10)
  | some t => if t.grp = 0 then (s, 14) else match lkp s.G k with
    | none => (s, 25)
    | some g => if t.grp = k then (s, 15) else if 32 ≤ g.mem then (s, 13) else ({ s with G := cntU (cntU s.G t.grp (-1)) k 1, T := updL s.T id { t with grp := k } }, 0)
end Go.Am


/- OrderUnits over the table of ledgerz (relayset.py). -/
set_option linter.unusedVariables false
set_option linter.unusedSimpArgs false
namespace Go.Am
variable {m : Mem}

def uOk (id : Int) (g : Bool) : Prop := 1 ≤ id ∧ (g = true ∧ id ≤ 40 ∨ g = false ∧ id ≤ 200)
theorem Unit_spec {id : Int} {g : Bool} (h1 : -9223372036854775808 ≤ id) (h2 : id ≤ 9223372036854775807) : WC R F.order_Unit [.int .i64 id, .bool g] m fun v m' => ((uOk id g ∧ v = .tuple #[.int .i64 (if g = true then 1000 + id else id), .int .i64 0]) ∨ (¬ uOk id g ∧ v = .tuple #[.int .i64 0, .int .i64 20])) ∧ m' = m := by
  refine WC.of R.order_Unit rfl ?_
  cases g <;> simp only [RC.order_Unit, go_sem]
  repeat' (refine gT.of (fun h => ?_) (fun h => ?_) <;> try simp only [go_sem, *])
  all_goals simp only [decide_eq_true_eq, decide_eq_false_iff_not] at *
  all_goals simp only [uOk]
  · exact .inr (by simp; omega)
  · exact .inr (by simp; omega)
  · exact .inl (by simp; omega)
  · exact .inr (by simp; omega)
  · exact .inr (by simp; omega)
  · exact .inl (by rw [wrap_i64 (by omega) (by omega)]; simp; omega)
end Go.Am


/- RosterW1 over the table of ledgerz (relayset.py). -/
set_option linter.unusedVariables false
set_option linter.unusedSimpArgs false
namespace Go.Am
open Classical
variable {m : Mem}

abbrev pt (b : Nat) : Value := .pointer (some ⟨b, 0, none⟩)
structure RosV (m : Mem) (b q1 q2 : Nat) (s : Rs) : Prop where
  bk : Bk m b [.int .i64 s.f, .map (some q1), .map (some q2)] 3
  t : Mp m q1 tvA s.T
  g : Mp m q2 gvA s.G
  n1 : b ≠ q1
  n2 : b ≠ q2
  n3 : q1 ≠ q2
  fr : 2 ≤ s.f ∧ s.f ≤ 64
theorem RosV.keep {m m' : Mem} {b q1 q2 : Nat} {s : Rs} (h : RosV m b q1 q2 s) (hx : Ext m m') : RosV m' b q1 q2 s := ⟨h.bk.keep hx, h.t.keep hx, h.g.keep hx, h.n1, h.n2, h.n3, h.fr⟩
theorem RosV.upd {m m' : Mem} {b q1 q2 : Nat} {s : Rs} {fp : List Nat} (h : RosV m b q1 q2 s) (hx : Upd m m' fp) (hb : b ∉ fp) (h1 : q1 ∉ fp) (h2 : q2 ∉ fp) : RosV m' b q1 q2 s := ⟨h.bk.upd hx hb, h.t.upd hx h1, h.g.upd hx h2, h.n1, h.n2, h.n3, h.fr⟩

theorem none_spec {b q1 q2 : Nat} {s : Rs} (h : RosV m b q1 q2 s) : WC R F.roster_Roster_none [pt b] m fun r m' => r = .bool false ∧ m' = m := by
  refine WC.of R.roster_Roster_none rfl ?_
  have hf := h.fr
  have e : (s.f == 0) = false := by rw [beq_eq_false_iff_ne]; omega
  simp only [RC.roster_Roster_none, pt, go_sem, ruB, h.bk.at_, e]
theorem share_spec {b q1 q2 : Nat} {s : Rs} {n : Int} (h : RosV m b q1 q2 s) : WC R F.roster_Roster_share [pt b, .int .i64 n] m fun r m' => r = .bool (decide (shOk s n)) ∧ m' = m := by
  refine WC.of R.roster_Roster_share rfl ?_
  simp only [RC.roster_Roster_share, pt, go_sem]
  by_cases h1 : 1 ≤ n
  · by_cases h2 : n ≤ s.f
    · have e : decide (shOk s n) = true := decide_eq_true ⟨h1, h2⟩
      try simp only [go_sem, ruB, decide_eq_true h1, decide_eq_true h2, h.bk.at_, e]
    · have e : decide (shOk s n) = false := decide_eq_false fun h => h2 h.2
      try simp only [go_sem, ruB, decide_eq_true h1, decide_eq_false h2, h.bk.at_, e]
  · have e : decide (shOk s n) = false := decide_eq_false fun h => h1 h.1
    try simp only [go_sem, ruB, decide_eq_false h1, e]
theorem weight_spec {n : Int} : WC R F.roster_weight [.int .i64 n] m fun r m' => r = .bool (decide (1 ≤ n ∧ n ≤ 1000)) ∧ m' = m := by
  refine WC.of R.roster_weight rfl ?_
  simp only [RC.roster_weight, go_sem]
  by_cases h1 : 1 ≤ n
  · by_cases h2 : n ≤ 1000
    · have e : decide (1 ≤ n ∧ n ≤ 1000) = true := decide_eq_true ⟨h1, h2⟩
      try simp only [go_sem, ruB, decide_eq_true h1, decide_eq_true h2, e]
    · have e : decide (1 ≤ n ∧ n ≤ 1000) = false := decide_eq_false fun h => h2 h.2
      try simp only [go_sem, ruB, decide_eq_true h1, decide_eq_false h2, e]
  · have e : decide (1 ≤ n ∧ n ≤ 1000) = false := decide_eq_false fun h => h1 h.1
    try simp only [go_sem, ruB, decide_eq_false h1, e]

theorem lookT {q : Nat} {L : List (Int × Tk)} (h : Mp m q tvA L) {x : Int} : ∀ t ok, (lkp L x).getD zT = t → (lkp L x).isSome = ok → aLook .int (.agg #[.int .i64 0, .int .i64 0, .int .i64 0, .int .i64 0, .int .i64 0, .bool false]) true m (.map (some q)) (.int .i64 x) = some (.tuple #[.agg #[.int .i64 t.id, .int .i64 t.grp, .int .i64 t.share, .int .i64 t.weight, .int .i64 t.cap, .bool t.off], .bool ok]) := by
  rintro t ok rfl rfl
  exact h.look_ok (z := zT)
theorem lookG {q : Nat} {L : List (Int × Gp)} (h : Mp m q gvA L) {x : Int} : ∀ t ok, (lkp L x).getD zG = t → (lkp L x).isSome = ok → aLook .int (.agg #[.int .i64 0, .int .i64 0, .int .i64 0]) true m (.map (some q)) (.int .i64 x) = some (.tuple #[.agg #[.int .i64 t.id, .int .i64 t.share, .int .i64 t.mem], .bool ok]) := by
  rintro t ok rfl rfl
  exact h.look_ok (z := zG)

theorem fresh_spec {b q1 q2 : Nat} {s : Rs} {id : Int} (h : RosV m b q1 q2 s) (hid : -9223372036854775808 ≤ id ∧ id ≤ 9223372036854775807) : WC R F.roster_Roster_fresh [pt b, .int .i64 id] m fun r m' => r = .int .i64 (freshE s id) ∧ Ext m m' := by
  refine WC.of R.roster_Roster_fresh rfl ?_
  simp only [RC.roster_Roster_fresh, pt, go_sem]
  refine gC.of (none_spec h) ?_
  rintro _ _ ⟨rfl, hm⟩
  replace hm := hm.symm
  subst hm
  try simp only [go_sem, ruB]
  refine gC.of (Unit_spec (id := id) (g := false) hid.1 hid.2) ?_
  rintro _ _ ⟨hv, hm⟩
  replace hm := hm.symm
  subst hm
  rcases hv with ⟨ho, rfl⟩ | ⟨ho, rfl⟩
  · have hr : 1 ≤ id ∧ id ≤ 200 := by unfold uOk at ho; simp at ho; omega
    have e0 : ((0 : Int) != 0) = false := rfl
    have lk := lookT h.t (x := id) _ _ rfl lkp_isSome
    generalize (lkp s.T id).getD zT = t at lk
    by_cases hk : id ∈ kys s.T
    · have hf : freshE s id = 11 := by unfold freshE; rw [if_neg (fun h => h hr), if_pos hk]
      rw [decide_eq_true hk] at lk
      rw [hf]
      try simp only [go_sem, ruB, aExt0, aExt1, e0, h.bk.at_, lk]
      exact Ext.new
    · have hf : freshE s id = 0 := by unfold freshE; rw [if_neg (fun h => h hr), if_neg hk]
      rw [decide_eq_false hk] at lk
      rw [hf]
      try simp only [go_sem, ruB, aExt0, aExt1, e0, h.bk.at_, lk]
      exact Ext.new
  · have hr : ¬ (1 ≤ id ∧ id ≤ 200) := by unfold uOk at ho; simp at ho; omega
    have hf : freshE s id = 20 := by unfold freshE; rw [if_pos hr]
    have e0 : ((20 : Int) != 0) = true := rfl
    rw [hf]
    try simp only [go_sem, ruB, aExt0, aExt1, e0]
    exact Ext.refl _

theorem one_spec {b q1 q2 : Nat} {s : Rs} {id : Int} (h : RosV m b q1 q2 s) : WC R F.roster_Roster_one [pt b, .int .i64 id] m fun r m' => r = (match lkp s.T id with | none => .tuple #[tvA zT, .int .i64 10] | some t => .tuple #[tvA t, .int .i64 0]) ∧ Ext m m' := by
  refine WC.of R.roster_Roster_one rfl ?_
  simp only [RC.roster_Roster_one, pt, go_sem]
  have hx1 : Ext m (m.new (.cells [.int .i64 0, .int .i64 0, .int .i64 0, .int .i64 0, .int .i64 0, .bool false] (some 6))) := Ext.new
  have hb1 : Bk (m.new (.cells [.int .i64 0, .int .i64 0, .int .i64 0, .int .i64 0, .int .i64 0, .bool false] (some 6))) m.next [.int .i64 0, .int .i64 0, .int .i64 0, .int .i64 0, .int .i64 0, .bool false] 6 := Bk.new
  generalize m.new (.cells [.int .i64 0, .int .i64 0, .int .i64 0, .int .i64 0, .int .i64 0, .bool false] (some 6)) = m1 at hx1 hb1 ⊢
  have h1 := h.keep hx1
  refine gC.of (none_spec h1) ?_
  rintro _ _ ⟨rfl, hm⟩
  replace hm := hm.symm
  subst hm
  have lk := lookT h1.t (x := id) _ _ rfl rfl
  have hf0 : fillL [.int .i64 0, .int .i64 0, .int .i64 0, .int .i64 0, .int .i64 0, .bool false] [] = some [.int .i64 0, .int .i64 0, .int .i64 0, .int .i64 0, .int .i64 0, .bool false] := rfl
  have hn := hb1.ne
  cases hl : lkp s.T id with
  | none =>
    rw [hl] at lk
    simp only [Option.getD_none, Option.isSome_none, zT] at lk
    try simp only [go_sem, ruB, aExt0, aExt1, h1.bk.at_, lk, hn, hb1.at_, hf0]
    exact ⟨rfl, (hx1.trans Ext.new).set (Nat.le_refl _)⟩
  | some t =>
    rw [hl] at lk
    simp only [Option.getD_some, Option.isSome_some] at lk
    try simp only [go_sem, ruB, aExt0, aExt1, h1.bk.at_, lk, hn, hb1.at_]
    exact ⟨rfl, (hx1.trans Ext.new).set (Nat.le_refl _)⟩

theorem group_spec {b q1 q2 : Nat} {s : Rs} {id : Int} (h : RosV m b q1 q2 s) : WC R F.roster_Roster_group [pt b, .int .i64 id] m fun r m' => r = (match lkp s.G id with | none => .tuple #[gvA zG, .int .i64 25] | some t => .tuple #[gvA t, .int .i64 0]) ∧ Ext m m' := by
  refine WC.of R.roster_Roster_group rfl ?_
  simp only [RC.roster_Roster_group, pt, go_sem]
  have hx1 : Ext m (m.new (.cells [.int .i64 0, .int .i64 0, .int .i64 0] (some 3))) := Ext.new
  have hb1 : Bk (m.new (.cells [.int .i64 0, .int .i64 0, .int .i64 0] (some 3))) m.next [.int .i64 0, .int .i64 0, .int .i64 0] 3 := Bk.new
  generalize m.new (.cells [.int .i64 0, .int .i64 0, .int .i64 0] (some 3)) = m1 at hx1 hb1 ⊢
  have h1 := h.keep hx1
  refine gC.of (none_spec h1) ?_
  rintro _ _ ⟨rfl, hm⟩
  replace hm := hm.symm
  subst hm
  have lk := lookG h1.g (x := id) _ _ rfl rfl
  have hf0 : fillL [.int .i64 0, .int .i64 0, .int .i64 0] [] = some [.int .i64 0, .int .i64 0, .int .i64 0] := rfl
  have hn := hb1.ne
  cases hl : lkp s.G id with
  | none =>
    rw [hl] at lk
    simp only [Option.getD_none, Option.isSome_none, zG] at lk
    try simp only [go_sem, ruB, aExt0, aExt1, h1.bk.at_, lk, hn, hb1.at_, hf0]
    exact ⟨rfl, (hx1.trans Ext.new).set (Nat.le_refl _)⟩
  | some t =>
    rw [hl] at lk
    simp only [Option.getD_some, Option.isSome_some] at lk
    try simp only [go_sem, ruB, aExt0, aExt1, h1.bk.at_, lk, hn, hb1.at_]
    exact ⟨rfl, (hx1.trans Ext.new).set (Nat.le_refl _)⟩

def memE (s : Rs) (id : Int) (w : Bool) : Tk × Int := match lkp s.T id with
  | none => (zT, 10)
  | some t => if (t.grp != 0) = w then (t, 0) else (zT, 14)
theorem member_spec {b q1 q2 : Nat} {s : Rs} {id : Int} {w : Bool} (h : RosV m b q1 q2 s) : WC R F.roster_Roster_member [pt b, .int .i64 id, .bool w] m fun r m' => r = .tuple #[tvA (memE s id w).1, .int .i64 (memE s id w).2] ∧ Ext m m' := by
  refine WC.of R.roster_Roster_member rfl ?_
  simp only [RC.roster_Roster_member, pt, go_sem]
  have hx1 : Ext m (m.new (.cells [.int .i64 0, .int .i64 0, .int .i64 0, .int .i64 0, .int .i64 0, .bool false] (some 6))) := Ext.new
  have hb1 : Bk (m.new (.cells [.int .i64 0, .int .i64 0, .int .i64 0, .int .i64 0, .int .i64 0, .bool false] (some 6))) m.next [.int .i64 0, .int .i64 0, .int .i64 0, .int .i64 0, .int .i64 0, .bool false] 6 := Bk.new
  generalize m.new (.cells [.int .i64 0, .int .i64 0, .int .i64 0, .int .i64 0, .int .i64 0, .bool false] (some 6)) = m1 at hx1 hb1 ⊢
  have h1 := h.keep hx1
  refine gC.of (one_spec (id := id) h1) ?_
  rintro _ m2 ⟨rfl, hx2⟩
  have hb2 := hb1.keep hx2
  have hn := hb2.ne
  have hf0 : fillL [.int .i64 0, .int .i64 0, .int .i64 0, .int .i64 0, .int .i64 0, .bool false] [] = some [.int .i64 0, .int .i64 0, .int .i64 0, .int .i64 0, .int .i64 0, .bool false] := rfl
  have hX := hx1.trans hx2
  unfold memE
  cases hl : lkp s.T id with
  | none =>
    simp only [tvA, tkV, zT]
    have e0 : ((10 : Int) == 0) = false := rfl
    try simp only [go_sem, ruB, aExt0, aExt1, e0, hn, hb2.at_]
    exact (hX.trans Ext.new).set (Nat.le_refl _)
  | some t =>
    simp only [tvA, tkV]
    have e0 : ((0 : Int) == 0) = true := rfl
    by_cases hw : (t.grp != 0) = w
    · have e1 : (!((t.grp != 0) == w)) = false := by rw [hw]; simp
      rw [if_pos hw]
      try simp only [go_sem, ruB, aExt0, aExt1, e0, e1, hn, hb2.at_]
      exact (hX.trans Ext.new).set (Nat.le_refl _)
    · have e1 : (!((t.grp != 0) == w)) = true := by
        have : ((t.grp != 0) == w) = false := by rw [beq_eq_false_iff_ne]; exact hw
        rw [this]; rfl
      rw [if_neg hw]
      simp only [zT]
      try simp only [go_sem, ruB, aExt0, aExt1, e0, e1, hn, hb2.at_, hf0]
      exact (hX.trans Ext.new).set (Nat.le_refl _)

theorem RosV.putG {b q1 q2 : Nat} {s : Rs} (h : RosV m b q1 q2 s) (k : Int) (a : Gp) : ∃ m', aUpd .int m (.map (some q2)) (.int .i64 k) (gvA a) = some m' ∧ RosV m' b q1 q2 { s with G := updL s.G k a } ∧ Upd m m' [q2] := by
  have hU : Upd m (m.set q2 (some (.map (mpL gvA (updL s.G k a))))) [q2] := Upd.set (by simp)
  exact ⟨_, h.g.put, ⟨h.bk.upd hU (by simpa using h.n2), h.t.upd hU (by simpa using h.n3), h.g.self, h.n1, h.n2, h.n3, h.fr⟩, hU⟩
theorem RosV.putT {b q1 q2 : Nat} {s : Rs} (h : RosV m b q1 q2 s) (k : Int) (a : Tk) : ∃ m', aUpd .int m (.map (some q1)) (.int .i64 k) (tvA a) = some m' ∧ RosV m' b q1 q2 { s with T := updL s.T k a } ∧ Upd m m' [q1] := by
  have hU : Upd m (m.set q1 (some (.map (mpL tvA (updL s.T k a))))) [q1] := Upd.set (by simp)
  exact ⟨_, h.t.put, ⟨h.bk.upd hU (by simpa using h.n1), h.t.self, h.g.upd hU (by simpa using fun e => h.n3 e.symm), h.n1, h.n2, h.n3, h.fr⟩, hU⟩
theorem delL_self {α : Type} {L : List (Int × α)} {x : Int} (h : (lkp L x).isSome = false) : delL L x = L := by
  induction L with
  | nil => rfl
  | cons p r ih =>
    obtain ⟨k, b⟩ := p
    simp only [lkp] at h
    unfold delL
    by_cases e : k = x
    · rw [if_pos e] at h; cases h
    · rw [if_neg e] at h ⊢; rw [ih h]
theorem RosV.delT {b q1 q2 : Nat} {s : Rs} (h : RosV m b q1 q2 s) (k : Int) : ∃ m', aDel .int m (.map (some q1)) (.int .i64 k) = some m' ∧ RosV m' b q1 q2 { s with T := delL s.T k } ∧ Upd m m' [q1] := by
  obtain ⟨L', e, m', h1, h2, hU⟩ := h.t.del (x := k)
  refine ⟨m', h1, ⟨h.bk.upd hU (by simpa using h.n1), ?_, h.g.upd hU (by simpa using fun e => h.n3 e.symm), h.n1, h.n2, h.n3, h.fr⟩, hU⟩
  have : L' = delL s.T k := by
    rw [e]
    cases hl : (lkp s.T k).isSome with
    | true => rfl
    | false => rw [delL_self hl]; rfl
  rw [← this]; exact h2
theorem RosV.delG {b q1 q2 : Nat} {s : Rs} (h : RosV m b q1 q2 s) (k : Int) : ∃ m', aDel .int m (.map (some q2)) (.int .i64 k) = some m' ∧ RosV m' b q1 q2 { s with G := delL s.G k } ∧ Upd m m' [q2] := by
  obtain ⟨L', e, m', h1, h2, hU⟩ := h.g.del (x := k)
  refine ⟨m', h1, ⟨h.bk.upd hU (by simpa using h.n2), h.t.upd hU (by simpa using h.n3), ?_, h.n1, h.n2, h.n3, h.fr⟩, hU⟩
  have : L' = delL s.G k := by
    rw [e]
    cases hl : (lkp s.G k).isSome with
    | true => rfl
    | false => rw [delL_self hl]; rfl
  rw [← this]; exact h2

/-- How many members a group has, changed. -/
theorem count_spec {b q1 q2 : Nat} {s : Rs} {k by_ : Int} (h : RosV m b q1 q2 s) (hr : ∀ g, lkp s.G k = some g → -9223372036854775808 ≤ g.mem + by_ ∧ g.mem + by_ ≤ 9223372036854775807) :
    WC R F.roster_Roster_count [pt b, .int .i64 k, .int .i64 by_] m fun r m' => RosV m' b q1 q2 { s with G := cntU s.G k by_ } ∧ Upd m m' [q2] := by
  refine WC.of R.roster_Roster_count rfl ?_
  simp only [RC.roster_Roster_count, pt, go_sem]
  have lk := lookG h.g (x := k) _ _ rfl rfl
  unfold cntU
  have hbn := h.bk.ne
  cases hl : lkp s.G k with
  | none =>
    rw [hl] at lk
    simp only [Option.getD_none, Option.isSome_none, zG] at lk
    try simp only [go_sem, ruB, aExt0, aExt1, h.bk.at_, lk]
    exact ⟨h.keep Ext.new, (Ext.new).upd⟩
  | some t =>
    rw [hl] at lk
    simp only [Option.getD_some, Option.isSome_some] at lk
    have hw : IntKind.wrap .i64 (t.mem + by_) = t.mem + by_ := by have := hr t hl; exact wrap_i64 this.1 this.2
    have hx : Ext m (m.new (.cells [.int .i64 t.id, .int .i64 t.share, .int .i64 (t.mem + by_)] (some 3))) := Ext.new
    obtain ⟨m', e1, e2, e3⟩ := (h.keep hx).putG k { t with mem := t.mem + by_ }
    simp only [gvA, gpV] at e1
    try simp only [go_sem, ruB, aExt0, aExt1, h.bk.at_, lk, hbn, hw, e1]
    exact ⟨e2, hx.upd.trans e3 (fp := []) (fun _ h => by simp at h) (fun _ h => .inl h)⟩
end Go.Am


/- RosterW2 over the table of ledgerz (relayset.py). -/
set_option linter.unusedVariables false
set_option linter.unusedSimpArgs false
namespace Go.Am
open Classical
variable {m : Mem}

def inI (x : Int) : Prop := -9223372036854775808 ≤ x ∧ x ≤ 9223372036854775807
/-- What a command leaves. -/
def Post (m : Mem) (b q1 q2 : Nat) (X : Rs × Int) (r : Value) (m' : Mem) : Prop := r = .int .i64 X.2 ∧ RosV m' b q1 q2 X.1 ∧ Upd m m' [q1, q2]
def memOk (s : Rs) : Prop := ∀ k g, lkp s.G k = some g → 0 ≤ g.mem ∧ g.mem ≤ 1000
theorem Upd.up1 {m m' : Mem} {q1 q2 : Nat} (h : Upd m m' [q1]) : Upd m m' [q1, q2] := ⟨h.next, fun b hb hn => h.same b hb fun hm => hn (by simp at hm; simp [hm])⟩
theorem Upd.up2 {m m' : Mem} {q1 q2 : Nat} (h : Upd m m' [q2]) : Upd m m' [q1, q2] := ⟨h.next, fun b hb hn => h.same b hb fun hm => hn (by simp at hm; simp [hm])⟩
theorem Upd.sameF {a b c : Mem} {fp : List Nat} (h : Upd a b fp) (k : Upd b c fp) : Upd a c fp := h.trans k (fun _ h => h) (fun _ h => .inl h)
theorem kfill_t1 {a b : Int} : fillL [.int .i64 0, .int .i64 0, .int .i64 0, .int .i64 0, .int .i64 0, .bool false] [(0, 1, .int .i64 a), (2, 1, .int .i64 b)] = some [.int .i64 a, .int .i64 0, .int .i64 b, .int .i64 0, .int .i64 0, .bool false] := rfl
theorem lenM_t {q : Nat} {L : List (Int × Tk)} (h : Mp m q tvA L) : aLenM m (.map (some q)) = some (.int .i64 ((L.length : Nat) : Int)) := by
  simp only [aLenM, h.at_, mpL, List.length_map]

theorem Arrive_spec {b q1 q2 : Nat} {s : Rs} {id sh : Int} (h : RosV m b q1 q2 s) (hid : inI id) : WC R F.roster_Roster_Arrive [pt b, .int .i64 id, .int .i64 sh] m (Post m b q1 q2 (arriveS s id sh)) := by
  refine WC.of R.roster_Roster_Arrive rfl ?_
  simp only [RC.roster_Roster_Arrive, pt, go_sem]
  refine gC.of (fresh_spec h hid) ?_
  rintro _ m1 ⟨rfl, hx1⟩
  have h1 := h.keep hx1
  by_cases g1 : freshE s id = 0
  · have e1 : (freshE s id != 0) = false := by rw [bne_eq_false_iff_eq]; exact g1
    try simp only [go_sem, ruB, e1]
    refine gC.of (share_spec (n := sh) h1) ?_
    rintro _ _ ⟨rfl, hm⟩
    replace hm := hm.symm
    subst hm
    by_cases g2 : shOk s sh
    · try simp only [go_sem, ruB, decide_eq_true g2, h1.bk.at_, lenM_t h1.t]
      by_cases g3 : 96 ≤ s.T.length
      · have e3 : decide ((96 : Int) ≤ ((s.T.length : Nat) : Int)) = true := decide_eq_true (by omega)
        have hX : arriveS s id sh = (s, 13) := by unfold arriveS; rw [if_neg (by simpa using g1), if_neg (by simpa using g2), if_pos g3]
        rw [hX]
        try simp only [go_sem, ruB, e3]
        exact ⟨rfl, h1, hx1.upd⟩
      · have e3 : decide ((96 : Int) ≤ ((s.T.length : Nat) : Int)) = false := decide_eq_false (by omega)
        have hX : arriveS s id sh = ({ s with T := updL s.T id ⟨id, 0, sh, 0, 0, false⟩ }, 0) := by unfold arriveS; rw [if_neg (by simpa using g1), if_neg (by simpa using g2), if_neg g3]
        obtain ⟨m', p1, p2, p3⟩ := h1.putT id ⟨id, 0, sh, 0, 0, false⟩
        simp only [tvA, tkV] at p1
        rw [hX]
        try simp only [go_sem, ruB, e3, h1.bk.at_, ↓kfill_t1, p1]
        exact ⟨rfl, p2, hx1.upd.trans p3.up1 (fp := []) (fun _ h => by simp at h) (fun _ h => .inl h)⟩
    · have hX : arriveS s id sh = (s, 21) := by unfold arriveS; rw [if_neg (by simpa using g1), if_pos g2]
      rw [hX]
      try simp only [go_sem, ruB, decide_eq_false g2]
      exact ⟨rfl, h1, hx1.upd⟩
  · have e1 : (freshE s id != 0) = true := by rw [bne_iff_ne]; exact g1
    have hX : arriveS s id sh = (s, freshE s id) := by unfold arriveS; rw [if_pos g1]
    rw [hX]
    try simp only [go_sem, ruB, e1]
    exact ⟨rfl, h1, hx1.upd⟩

theorem Depart_spec {b q1 q2 : Nat} {s : Rs} {id : Int} (h : RosV m b q1 q2 s) (hG : memOk s) : WC R F.roster_Roster_Depart [pt b, .int .i64 id] m (Post m b q1 q2 (departS s id)) := by
  refine WC.of R.roster_Roster_Depart rfl ?_
  simp only [RC.roster_Roster_Depart, pt, go_sem]
  refine gC.of (one_spec (id := id) h) ?_
  rintro _ m1 ⟨rfl, hx1⟩
  have h1 := h.keep hx1
  unfold departS
  cases hl : lkp s.T id with
  | none =>
    simp only [tvA, tkV, zT]
    have e0 : ((10 : Int) != 0) = true := rfl
    try simp only [go_sem, ruB, aExt0, aExt1, e0]
    exact ⟨rfl, h1.keep Ext.new, (hx1.trans Ext.new).upd⟩
  | some t =>
    simp only [tvA, tkV]
    have e0 : ((0 : Int) != 0) = false := rfl
    try simp only [go_sem, ruB, aExt0, aExt1, e0]
    have hx2 : Ext m1 (m1.new (.cells [.int .i64 t.id, .int .i64 t.grp, .int .i64 t.share, .int .i64 t.weight, .int .i64 t.cap, .bool t.off] (some 6))) := Ext.new
    have hb2 : Bk (m1.new (.cells [.int .i64 t.id, .int .i64 t.grp, .int .i64 t.share, .int .i64 t.weight, .int .i64 t.cap, .bool t.off] (some 6))) m1.next [.int .i64 t.id, .int .i64 t.grp, .int .i64 t.share, .int .i64 t.weight, .int .i64 t.cap, .bool t.off] 6 := Bk.new
    generalize m1.new (.cells [.int .i64 t.id, .int .i64 t.grp, .int .i64 t.share, .int .i64 t.weight, .int .i64 t.cap, .bool t.off] (some 6)) = m2 at hx2 hb2 ⊢
    have h2 := h1.keep hx2
    try simp only [go_sem, ruB, hb2.at_]
    refine gC.of (count_spec (k := t.grp) (by_ := -1) h2 (fun g hg => by have := hG _ _ hg; omega)) ?_
    rintro _ m3 ⟨h3, hu3⟩
    obtain ⟨m', p1, p2, p3⟩ := h3.delT id
    try simp only [go_sem, ruB, h3.bk.at_, p1]
    exact ⟨rfl, p2, ((hx1.trans hx2).upd.trans hu3.up2 (fp := []) (fun _ h => by simp at h) (fun _ h => .inl h)).sameF p3.up1⟩

theorem memE_none {s : Rs} {id : Int} {w : Bool} (h : lkp s.T id = none) : memE s id w = (zT, 10) := by unfold memE; rw [h]
theorem memE_in {s : Rs} {id : Int} {w : Bool} {t : Tk} (h : lkp s.T id = some t) (hw : (t.grp != 0) = w) : memE s id w = (t, 0) := by unfold memE; rw [h]; simp only []; rw [if_pos hw]
theorem memE_out {s : Rs} {id : Int} {w : Bool} {t : Tk} (h : lkp s.T id = some t) (hw : (t.grp != 0) ≠ w) : memE s id w = (zT, 14) := by unfold memE; rw [h]; simp only []; rw [if_neg hw]

/-- A task's copy is changed and put back. -/
theorem RosV.mend {b q1 q2 n : Nat} {s : Rs} {m1 : Mem} {cs : List Value} {u : Nat} (h : RosV m b q1 q2 s) (hx : Ext m1 m) (h1 : RosV m1 b q1 q2 s) (hn : m1.next ≤ n) (id : Int) (a : Tk) :
    ∃ m', aUpd .int (m.set n (some (.cells cs (some u)))) (.map (some q1)) (.int .i64 id) (tvA a) = some m' ∧ RosV m' b q1 q2 { s with T := updL s.T id a } ∧ Upd m1 m' [q1, q2] := by
  have hU : Upd m (m.set n (some (.cells cs (some u)))) [n] := Upd.set (by simp)
  have hl1 := h1.bk.lt
  have hl2 := h1.t.lt
  have hl3 := h1.g.lt
  have h3 := h.upd hU (by simp; omega) (by simp; omega) (by simp; omega)
  have hx3 : Ext m1 (m.set n (some (.cells cs (some u)))) := hx.set hn
  obtain ⟨m', p1, p2, p3⟩ := h3.putT id a
  exact ⟨m', p1, p2, hx3.upd.trans p3.up1 (fp := []) (fun _ h => by simp at h) (fun _ h => .inl h)⟩

theorem Reweight_spec {b q1 q2 : Nat} {s : Rs} {id sh : Int} (h : RosV m b q1 q2 s) : WC R F.roster_Roster_Reweight [pt b, .int .i64 id, .int .i64 sh] m (Post m b q1 q2 (reweightS s id sh)) := by
  refine WC.of R.roster_Roster_Reweight rfl ?_
  simp only [RC.roster_Roster_Reweight, pt, go_sem]
  refine gC.of (member_spec (id := id) (w := false) h) ?_
  rintro _ m1 ⟨rfl, hx1⟩
  have h1 := h.keep hx1
  have e10 : ((10 : Int) != 0) = true := rfl
  have e14 : ((14 : Int) != 0) = true := rfl
  have e0 : ((0 : Int) != 0) = false := rfl
  cases hl : lkp s.T id with
  | none =>
    have hX : reweightS s id sh = (s, 10) := by unfold reweightS; rw [hl]
    rw [memE_none hl, hX]
    simp only [tvA, tkV, zT]
    try simp only [go_sem, ruB, aExt0, aExt1, e10]
    exact ⟨rfl, h1.keep Ext.new, (hx1.trans Ext.new).upd⟩
  | some t =>
    by_cases g : t.grp = 0
    · rw [memE_in hl (by rw [bne_eq_false_iff_eq]; exact g)]
      simp only [tvA, tkV]
      try simp only [go_sem, ruB, aExt0, aExt1, e0]
      have hx2 : Ext m1 (m1.new (.cells [.int .i64 t.id, .int .i64 t.grp, .int .i64 t.share, .int .i64 t.weight, .int .i64 t.cap, .bool t.off] (some 6))) := Ext.new
      have hb2 : Bk (m1.new (.cells [.int .i64 t.id, .int .i64 t.grp, .int .i64 t.share, .int .i64 t.weight, .int .i64 t.cap, .bool t.off] (some 6))) m1.next [.int .i64 t.id, .int .i64 t.grp, .int .i64 t.share, .int .i64 t.weight, .int .i64 t.cap, .bool t.off] 6 := Bk.new
      generalize m1.new (.cells [.int .i64 t.id, .int .i64 t.grp, .int .i64 t.share, .int .i64 t.weight, .int .i64 t.cap, .bool t.off] (some 6)) = m2 at hx2 hb2 ⊢
      have h2 := h1.keep hx2
      refine gC.of (share_spec (n := sh) h2) ?_
      rintro _ _ ⟨rfl, hm⟩
      replace hm := hm.symm
      subst hm
      by_cases g2 : shOk s sh
      · have hX : reweightS s id sh = ({ s with T := updL s.T id { t with share := sh } }, 0) := by unfold reweightS; rw [hl]; simp only []; rw [if_neg (by simpa using g), if_neg (by simpa using g2)]
        obtain ⟨m', p1, p2, p3⟩ := h2.mend hx2 h1 (Nat.le_refl _) (cs := [.int .i64 t.id, .int .i64 t.grp, .int .i64 sh, .int .i64 t.weight, .int .i64 t.cap, .bool t.off]) (u := 6) id { t with share := sh }
        simp only [tvA, tkV] at p1
        have nb := h1.bk.ne
        rw [hX]
        try simp only [go_sem, ruB, decide_eq_true g2, hb2.at_, h2.bk.at_, nb, p1]
        exact ⟨rfl, p2, hx1.upd.trans p3 (fp := []) (fun _ h => by simp at h) (fun _ h => .inl h)⟩
      · have hX : reweightS s id sh = (s, 21) := by unfold reweightS; rw [hl]; simp only []; rw [if_neg (by simpa using g), if_pos g2]
        rw [hX]
        try simp only [go_sem, ruB, decide_eq_false g2]
        exact ⟨rfl, h2, (hx1.trans hx2).upd⟩
    · have hX : reweightS s id sh = (s, 14) := by unfold reweightS; rw [hl]; simp only []; rw [if_pos g]
      rw [memE_out hl (by simpa using g), hX]
      simp only [tvA, tkV, zT]
      try simp only [go_sem, ruB, aExt0, aExt1, e14]
      exact ⟨rfl, h1.keep Ext.new, (hx1.trans Ext.new).upd⟩

theorem off_spec {b q1 q2 : Nat} {s : Rs} {id : Int} {o : Bool} (h : RosV m b q1 q2 s) : WC R F.roster_Roster_off [pt b, .int .i64 id, .bool o] m (Post m b q1 q2 (offS s id o)) := by
  refine WC.of R.roster_Roster_off rfl ?_
  simp only [RC.roster_Roster_off, pt, go_sem]
  refine gC.of (one_spec (id := id) h) ?_
  rintro _ m1 ⟨rfl, hx1⟩
  have h1 := h.keep hx1
  have e10 : ((10 : Int) != 0) = true := rfl
  have e0 : ((0 : Int) != 0) = false := rfl
  cases hl : lkp s.T id with
  | none =>
    have hX : offS s id o = (s, 10) := by unfold offS; rw [hl]
    rw [hX]
    simp only [tvA, tkV, zT]
    try simp only [go_sem, ruB, aExt0, aExt1, e10]
    exact ⟨rfl, h1.keep Ext.new, (hx1.trans Ext.new).upd⟩
  | some t =>
    simp only [tvA, tkV]
    by_cases g : t.off = o
    · have hX : offS s id o = (s, 15) := by unfold offS; rw [hl]; simp only []; rw [if_pos g]
      have e1 : (t.off == o) = true := by rw [g]; simp
      rw [hX]
      try simp only [go_sem, ruB, aExt0, aExt1, e0, e1]
      exact ⟨rfl, h1.keep Ext.new, (hx1.trans Ext.new).upd⟩
    · have hX : offS s id o = ({ s with T := updL s.T id { t with off := o } }, 0) := by unfold offS; rw [hl]; simp only []; rw [if_neg g]
      have e1 : (t.off == o) = false := by rw [beq_eq_false_iff_ne]; exact g
      have hx2 : Ext m1 (m1.new (.cells [.int .i64 t.id, .int .i64 t.grp, .int .i64 t.share, .int .i64 t.weight, .int .i64 t.cap, .bool t.off] (some 6))) := Ext.new
      have h2 := h1.keep hx2
      obtain ⟨m', p1, p2, p3⟩ := h2.mend hx2 h1 (Nat.le_refl _) (cs := [.int .i64 t.id, .int .i64 t.grp, .int .i64 t.share, .int .i64 t.weight, .int .i64 t.cap, .bool o]) (u := 6) id { t with off := o }
      simp only [tvA, tkV, new_set] at p1
      have nb := h1.bk.ne
      rw [hX]
      try simp only [go_sem, ruB, aExt0, aExt1, e0, e1, h1.bk.at_, nb, p1]
      exact ⟨rfl, p2, hx1.upd.trans p3 (fp := []) (fun _ h => by simp at h) (fun _ h => .inl h)⟩
theorem Block_spec {b q1 q2 : Nat} {s : Rs} {id : Int} (h : RosV m b q1 q2 s) : WC R F.roster_Roster_Block [pt b, .int .i64 id] m (Post m b q1 q2 (offS s id true)) := by
  refine WC.of R.roster_Roster_Block rfl ?_
  simp only [RC.roster_Roster_Block, pt, go_sem]
  refine gC.of (off_spec (id := id) (o := true) h) ?_
  rintro r m1 hp
  obtain ⟨rfl, h1, h2⟩ := hp
  try simp only [go_sem, ruB]
  exact ⟨rfl, h1, h2⟩
theorem Wake_spec {b q1 q2 : Nat} {s : Rs} {id : Int} (h : RosV m b q1 q2 s) : WC R F.roster_Roster_Wake [pt b, .int .i64 id] m (Post m b q1 q2 (offS s id false)) := by
  refine WC.of R.roster_Roster_Wake rfl ?_
  simp only [RC.roster_Roster_Wake, pt, go_sem]
  refine gC.of (off_spec (id := id) (o := false) h) ?_
  rintro r m1 hp
  obtain ⟨rfl, h1, h2⟩ := hp
  try simp only [go_sem, ruB]
  exact ⟨rfl, h1, h2⟩
end Go.Am


/- RosterW3 over the table of ledgerz (relayset.py). -/
set_option linter.unusedVariables false
set_option linter.unusedSimpArgs false
namespace Go.Am
open Classical
variable {m : Mem}

theorem kfill_g1 {a b : Int} : fillL [.int .i64 0, .int .i64 0, .int .i64 0] [(0, 1, .int .i64 a), (1, 1, .int .i64 b)] = some [.int .i64 a, .int .i64 b, .int .i64 0] := rfl
theorem kfill_t2 {a b c d : Int} : fillL [.int .i64 0, .int .i64 0, .int .i64 0, .int .i64 0, .int .i64 0, .bool false] [(0, 1, .int .i64 a), (1, 1, .int .i64 b), (3, 1, .int .i64 c), (4, 1, .int .i64 d)] = some [.int .i64 a, .int .i64 b, .int .i64 0, .int .i64 c, .int .i64 d, .bool false] := rfl

theorem Found_spec {b q1 q2 : Nat} {s : Rs} {k sh : Int} (h : RosV m b q1 q2 s) (hk : inI k) : WC R F.roster_Roster_Found [pt b, .int .i64 k, .int .i64 sh] m (Post m b q1 q2 (foundS s k sh)) := by
  refine WC.of R.roster_Roster_Found rfl ?_
  simp only [RC.roster_Roster_Found, pt, go_sem]
  refine gC.of (none_spec h) ?_
  rintro _ _ ⟨rfl, hm⟩
  replace hm := hm.symm
  subst hm
  try simp only [go_sem, ruB]
  refine gC.of (Unit_spec (id := k) (g := true) hk.1 hk.2) ?_
  rintro _ _ ⟨hv, hm⟩
  replace hm := hm.symm
  subst hm
  have e0 : ((0 : Int) != 0) = false := rfl
  have e20 : ((20 : Int) != 0) = true := rfl
  rcases hv with ⟨ho, rfl⟩ | ⟨ho, rfl⟩
  · have hr : 1 ≤ k ∧ k ≤ 40 := by unfold uOk at ho; simp at ho; omega
    have lk := lookG h.g (x := k) _ _ rfl lkp_isSome
    generalize (lkp s.G k).getD zG = t at lk
    by_cases hm : k ∈ kys s.G
    · have hX : foundS s k sh = (s, 11) := by unfold foundS; rw [if_neg (fun h => h hr), if_pos hm]
      rw [decide_eq_true hm] at lk
      rw [hX]
      try simp only [go_sem, ruB, aExt0, aExt1, e0, h.bk.at_, lk]
      exact ⟨rfl, h.keep Ext.new, Ext.new.upd⟩
    · rw [decide_eq_false hm] at lk
      try simp only [go_sem, ruB, aExt0, aExt1, e0, h.bk.at_, lk]
      have hx1 : Ext m (m.new (.cells [.int .i64 t.id, .int .i64 t.share, .int .i64 t.mem] (some 3))) := Ext.new
      have h1 := h.keep hx1
      generalize m.new (.cells [.int .i64 t.id, .int .i64 t.share, .int .i64 t.mem] (some 3)) = m1 at hx1 h1 ⊢
      refine gC.of (share_spec (n := sh) h1) ?_
      rintro _ _ ⟨rfl, hm2⟩
      replace hm2 := hm2.symm
      subst hm2
      by_cases g2 : shOk s sh
      · have hX : foundS s k sh = ({ s with G := updL s.G k ⟨k, sh, 0⟩ }, 0) := by unfold foundS; rw [if_neg (fun h => h hr), if_neg hm, if_neg (by simpa using g2)]
        obtain ⟨m', p1, p2, p3⟩ := h1.putG k ⟨k, sh, 0⟩
        simp only [gvA, gpV] at p1
        rw [hX]
        try simp only [go_sem, ruB, decide_eq_true g2, h1.bk.at_, ↓kfill_g1, p1]
        exact ⟨rfl, p2, hx1.upd.trans p3.up2 (fp := []) (fun _ h => by simp at h) (fun _ h => .inl h)⟩
      · have hX : foundS s k sh = (s, 21) := by unfold foundS; rw [if_neg (fun h => h hr), if_neg hm, if_pos g2]
        rw [hX]
        try simp only [go_sem, ruB, decide_eq_false g2]
        exact ⟨rfl, h1, hx1.upd⟩
  · have hr : ¬ (1 ≤ k ∧ k ≤ 40) := by unfold uOk at ho; simp at ho; omega
    have hX : foundS s k sh = (s, 25) := by unfold foundS; rw [if_pos hr]
    rw [hX]
    try simp only [go_sem, ruB, aExt0, aExt1, e20]
    exact ⟨rfl, h, Upd.refl _ _⟩

theorem Fund_spec {b q1 q2 : Nat} {s : Rs} {k sh : Int} (h : RosV m b q1 q2 s) : WC R F.roster_Roster_Fund [pt b, .int .i64 k, .int .i64 sh] m (Post m b q1 q2 (fundS s k sh)) := by
  refine WC.of R.roster_Roster_Fund rfl ?_
  simp only [RC.roster_Roster_Fund, pt, go_sem]
  refine gC.of (group_spec (id := k) h) ?_
  rintro _ m1 ⟨rfl, hx1⟩
  have h1 := h.keep hx1
  have e25 : ((25 : Int) != 0) = true := rfl
  have e0 : ((0 : Int) != 0) = false := rfl
  cases hl : lkp s.G k with
  | none =>
    have hX : fundS s k sh = (s, 25) := by unfold fundS; rw [hl]
    rw [hX]
    simp only [gvA, gpV, zG]
    try simp only [go_sem, ruB, aExt0, aExt1, e25]
    exact ⟨rfl, h1.keep Ext.new, (hx1.trans Ext.new).upd⟩
  | some g =>
    simp only [gvA, gpV]
    try simp only [go_sem, ruB, aExt0, aExt1, e0]
    have hx2 : Ext m1 (m1.new (.cells [.int .i64 g.id, .int .i64 g.share, .int .i64 g.mem] (some 3))) := Ext.new
    have hb2 : Bk (m1.new (.cells [.int .i64 g.id, .int .i64 g.share, .int .i64 g.mem] (some 3))) m1.next [.int .i64 g.id, .int .i64 g.share, .int .i64 g.mem] 3 := Bk.new
    generalize m1.new (.cells [.int .i64 g.id, .int .i64 g.share, .int .i64 g.mem] (some 3)) = m2 at hx2 hb2 ⊢
    have h2 := h1.keep hx2
    refine gC.of (share_spec (n := sh) h2) ?_
    rintro _ _ ⟨rfl, hm2⟩
    replace hm2 := hm2.symm
    subst hm2
    by_cases g2 : shOk s sh
    · have hX : fundS s k sh = ({ s with G := updL s.G k { g with share := sh } }, 0) := by unfold fundS; rw [hl]; simp only []; rw [if_neg (by simpa using g2)]
      have hU : Upd m2 (m2.set m1.next (some (.cells [.int .i64 g.id, .int .i64 sh, .int .i64 g.mem] (some 3)))) [m1.next] := Upd.set (by simp)
      have hl1 := h1.bk.lt
      have hl2 := h1.t.lt
      have hl3 := h1.g.lt
      have h3 := h2.upd hU (by simp; omega) (by simp; omega) (by simp; omega)
      have hx3 : Ext m (m2.set m1.next (some (.cells [.int .i64 g.id, .int .i64 sh, .int .i64 g.mem] (some 3)))) := (hx1.trans hx2).set hx1.next
      obtain ⟨m', p1, p2, p3⟩ := h3.putG k { g with share := sh }
      simp only [gvA, gpV] at p1
      have nb : (b = m1.next) = False := eq_false (by omega)
      rw [hX]
      try simp only [go_sem, ruB, decide_eq_true g2, hb2.at_, h2.bk.at_, nb, p1]
      exact ⟨rfl, p2, hx3.upd.trans p3.up2 (fp := []) (fun _ h => by simp at h) (fun _ h => .inl h)⟩
    · have hX : fundS s k sh = (s, 21) := by unfold fundS; rw [hl]; simp only []; rw [if_pos g2]
      rw [hX]
      try simp only [go_sem, ruB, decide_eq_false g2]
      exact ⟨rfl, h2, (hx1.trans hx2).upd⟩

theorem Disband_spec {b q1 q2 : Nat} {s : Rs} {k : Int} (h : RosV m b q1 q2 s) : WC R F.roster_Roster_Disband [pt b, .int .i64 k] m (Post m b q1 q2 (disbandS s k)) := by
  refine WC.of R.roster_Roster_Disband rfl ?_
  simp only [RC.roster_Roster_Disband, pt, go_sem]
  refine gC.of (group_spec (id := k) h) ?_
  rintro _ m1 ⟨rfl, hx1⟩
  have h1 := h.keep hx1
  have e25 : ((25 : Int) != 0) = true := rfl
  have e0 : ((0 : Int) != 0) = false := rfl
  cases hl : lkp s.G k with
  | none =>
    have hX : disbandS s k = (s, 25) := by unfold disbandS; rw [hl]
    rw [hX]
    simp only [gvA, gpV, zG]
    try simp only [go_sem, ruB, aExt0, aExt1, e25]
    exact ⟨rfl, h1.keep Ext.new, (hx1.trans Ext.new).upd⟩
  | some g =>
    simp only [gvA, gpV]
    by_cases g2 : 0 < g.mem
    · have hX : disbandS s k = (s, 16) := by unfold disbandS; rw [hl]; simp only []; rw [if_pos g2]
      rw [hX]
      try simp only [go_sem, ruB, aExt0, aExt1, e0, decide_eq_true g2]
      exact ⟨rfl, h1.keep Ext.new, (hx1.trans Ext.new).upd⟩
    · have hX : disbandS s k = ({ s with G := delL s.G k }, 0) := by unfold disbandS; rw [hl]; simp only []; rw [if_neg g2]
      have hx2 : Ext m1 (m1.new (.cells [.int .i64 g.id, .int .i64 g.share, .int .i64 g.mem] (some 3))) := Ext.new
      have nb := h1.bk.ne
      obtain ⟨m', p1, p2, p3⟩ := (h1.keep hx2).delG k
      rw [hX]
      try simp only [go_sem, ruB, aExt0, aExt1, e0, decide_eq_false g2, h1.bk.at_, nb, p1]
      exact ⟨rfl, p2, (hx1.trans hx2).upd.trans p3.up2 (fp := []) (fun _ h => by simp at h) (fun _ h => .inl h)⟩

theorem Weigh_spec {b q1 q2 : Nat} {s : Rs} {id w : Int} (h : RosV m b q1 q2 s) : WC R F.roster_Roster_Weigh [pt b, .int .i64 id, .int .i64 w] m (Post m b q1 q2 (weighS s id w)) := by
  refine WC.of R.roster_Roster_Weigh rfl ?_
  simp only [RC.roster_Roster_Weigh, pt, go_sem]
  refine gC.of (member_spec (id := id) (w := true) h) ?_
  rintro _ m1 ⟨rfl, hx1⟩
  have h1 := h.keep hx1
  have e10 : ((10 : Int) != 0) = true := rfl
  have e14 : ((14 : Int) != 0) = true := rfl
  have e0 : ((0 : Int) != 0) = false := rfl
  cases hl : lkp s.T id with
  | none =>
    have hX : weighS s id w = (s, 10) := by unfold weighS; rw [hl]
    rw [memE_none hl, hX]
    simp only [tvA, tkV, zT]
    try simp only [go_sem, ruB, aExt0, aExt1, e10]
    exact ⟨rfl, h1.keep Ext.new, (hx1.trans Ext.new).upd⟩
  | some t =>
    by_cases g : t.grp = 0
    · have hX : weighS s id w = (s, 14) := by unfold weighS; rw [hl]; simp only []; rw [if_pos g]
      rw [memE_out hl (by simpa using g), hX]
      simp only [tvA, tkV, zT]
      try simp only [go_sem, ruB, aExt0, aExt1, e14]
      exact ⟨rfl, h1.keep Ext.new, (hx1.trans Ext.new).upd⟩
    · rw [memE_in hl (by rw [bne_iff_ne]; exact g)]
      simp only [tvA, tkV]
      try simp only [go_sem, ruB, aExt0, aExt1, e0]
      have hx2 : Ext m1 (m1.new (.cells [.int .i64 t.id, .int .i64 t.grp, .int .i64 t.share, .int .i64 t.weight, .int .i64 t.cap, .bool t.off] (some 6))) := Ext.new
      have hb2 : Bk (m1.new (.cells [.int .i64 t.id, .int .i64 t.grp, .int .i64 t.share, .int .i64 t.weight, .int .i64 t.cap, .bool t.off] (some 6))) m1.next [.int .i64 t.id, .int .i64 t.grp, .int .i64 t.share, .int .i64 t.weight, .int .i64 t.cap, .bool t.off] 6 := Bk.new
      generalize m1.new (.cells [.int .i64 t.id, .int .i64 t.grp, .int .i64 t.share, .int .i64 t.weight, .int .i64 t.cap, .bool t.off] (some 6)) = m2 at hx2 hb2 ⊢
      have h2 := h1.keep hx2
      refine gC.of (weight_spec (n := w)) ?_
      rintro _ _ ⟨rfl, hm⟩
      replace hm := hm.symm
      subst hm
      by_cases g2 : 1 ≤ w ∧ w ≤ 1000
      · have hX : weighS s id w = ({ s with T := updL s.T id { t with weight := w } }, 0) := by unfold weighS; rw [hl]; simp only []; rw [if_neg g, if_neg (fun h => h g2)]
        obtain ⟨m', p1, p2, p3⟩ := h2.mend hx2 h1 (Nat.le_refl _) (cs := [.int .i64 t.id, .int .i64 t.grp, .int .i64 t.share, .int .i64 w, .int .i64 t.cap, .bool t.off]) (u := 6) id { t with weight := w }
        simp only [tvA, tkV] at p1
        have nb := h1.bk.ne
        rw [hX]
        try simp only [go_sem, ruB, decide_eq_true g2, hb2.at_, h2.bk.at_, nb, p1]
        exact ⟨rfl, p2, hx1.upd.trans p3 (fp := []) (fun _ h => by simp at h) (fun _ h => .inl h)⟩
      · have hX : weighS s id w = (s, 22) := by unfold weighS; rw [hl]; simp only []; rw [if_neg g, if_pos g2]
        rw [hX]
        try simp only [go_sem, ruB, decide_eq_false g2]
        exact ⟨rfl, h2, (hx1.trans hx2).upd⟩

theorem Limit_spec {b q1 q2 : Nat} {s : Rs} {id c : Int} (h : RosV m b q1 q2 s) : WC R F.roster_Roster_Limit [pt b, .int .i64 id, .int .i64 c] m (Post m b q1 q2 (limitS s id c)) := by
  refine WC.of R.roster_Roster_Limit rfl ?_
  simp only [RC.roster_Roster_Limit, pt, go_sem]
  refine gC.of (member_spec (id := id) (w := true) h) ?_
  rintro _ m1 ⟨rfl, hx1⟩
  have h1 := h.keep hx1
  have e10 : ((10 : Int) != 0) = true := rfl
  have e14 : ((14 : Int) != 0) = true := rfl
  have e0 : ((0 : Int) != 0) = false := rfl
  cases hl : lkp s.T id with
  | none =>
    have hX : limitS s id c = (s, 10) := by unfold limitS; rw [hl]
    rw [memE_none hl, hX]
    simp only [tvA, tkV, zT]
    try simp only [go_sem, ruB, aExt0, aExt1, e10]
    exact ⟨rfl, h1.keep Ext.new, (hx1.trans Ext.new).upd⟩
  | some t =>
    by_cases g : t.grp = 0
    · have hX : limitS s id c = (s, 14) := by unfold limitS; rw [hl]; simp only []; rw [if_pos g]
      rw [memE_out hl (by simpa using g), hX]
      simp only [tvA, tkV, zT]
      try simp only [go_sem, ruB, aExt0, aExt1, e14]
      exact ⟨rfl, h1.keep Ext.new, (hx1.trans Ext.new).upd⟩
    · rw [memE_in hl (by rw [bne_iff_ne]; exact g)]
      simp only [tvA, tkV]
      have hx2 : Ext m1 (m1.new (.cells [.int .i64 t.id, .int .i64 t.grp, .int .i64 t.share, .int .i64 t.weight, .int .i64 t.cap, .bool t.off] (some 6))) := Ext.new
      have h2 := h1.keep hx2
      have nb := h1.bk.ne
      by_cases c1 : c < 0
      · have hX : limitS s id c = (s, 23) := by unfold limitS; rw [hl]; simp only []; rw [if_neg g, if_pos (.inl c1)]
        rw [hX]
        try simp only [go_sem, ruB, aExt0, aExt1, e0, decide_eq_true c1]
        exact ⟨rfl, h2, (hx1.trans hx2).upd⟩
      · by_cases c2 : s.f < c
        · have hX : limitS s id c = (s, 23) := by unfold limitS; rw [hl]; simp only []; rw [if_neg g, if_pos (.inr c2)]
          rw [hX]
          try simp only [go_sem, ruB, aExt0, aExt1, e0, decide_eq_false c1, decide_eq_true c2, h1.bk.at_, nb]
          exact ⟨rfl, h2, (hx1.trans hx2).upd⟩
        · have hX : limitS s id c = ({ s with T := updL s.T id { t with cap := c } }, 0) := by unfold limitS; rw [hl]; simp only []; rw [if_neg g, if_neg (by omega)]
          obtain ⟨m', p1, p2, p3⟩ := h2.mend hx2 h1 (Nat.le_refl _) (cs := [.int .i64 t.id, .int .i64 t.grp, .int .i64 t.share, .int .i64 t.weight, .int .i64 c, .bool t.off]) (u := 6) id { t with cap := c }
          simp only [tvA, tkV, new_set] at p1
          rw [hX]
          try simp only [go_sem, ruB, aExt0, aExt1, e0, decide_eq_false c1, decide_eq_false c2, h1.bk.at_, nb, p1]
          exact ⟨rfl, p2, hx1.upd.trans p3 (fp := []) (fun _ h => by simp at h) (fun _ h => .inl h)⟩
end Go.Am


/- RosterW4 over the table of ledgerz (relayset.py). -/
set_option linter.unusedVariables false
set_option linter.unusedSimpArgs false
namespace Go.Am
open Classical
variable {m : Mem}

theorem Enter_spec {b q1 q2 : Nat} {s : Rs} {id k w c : Int} (h : RosV m b q1 q2 s) (hid : inI id) (hG : memOk s) : WC R F.roster_Roster_Enter [pt b, .int .i64 id, .int .i64 k, .int .i64 w, .int .i64 c] m (Post m b q1 q2 (enterS s id k w c)) := by
  refine WC.of R.roster_Roster_Enter rfl ?_
  simp only [RC.roster_Roster_Enter, pt, go_sem]
  refine gC.of (fresh_spec h hid) ?_
  rintro _ m1 ⟨rfl, hx1⟩
  have h1 := h.keep hx1
  have e25 : ((25 : Int) != 0) = true := rfl
  have e0 : ((0 : Int) != 0) = false := rfl
  by_cases g1 : freshE s id = 0
  · have e1 : (freshE s id != 0) = false := by rw [bne_eq_false_iff_eq]; exact g1
    try simp only [go_sem, ruB, e1]
    refine gC.of (group_spec (id := k) h1) ?_
    rintro _ m2 ⟨rfl, hx2⟩
    have h2 := h1.keep hx2
    have hx12 := hx1.trans hx2
    cases hl : lkp s.G k with
    | none =>
      have hX : enterS s id k w c = (s, 25) := by unfold enterS; rw [if_neg (by simpa using g1), hl]
      rw [hX]
      simp only [gvA, gpV, zG]
      try simp only [go_sem, ruB, aExt0, aExt1, e25]
      exact ⟨rfl, h2.keep Ext.new, (hx12.trans Ext.new).upd⟩
    | some g =>
      simp only [gvA, gpV]
      try simp only [go_sem, ruB, aExt0, aExt1, e0]
      have hx3 : Ext m2 (m2.new (.cells [.int .i64 g.id, .int .i64 g.share, .int .i64 g.mem] (some 3))) := Ext.new
      have hb3 : Bk (m2.new (.cells [.int .i64 g.id, .int .i64 g.share, .int .i64 g.mem] (some 3))) m2.next [.int .i64 g.id, .int .i64 g.share, .int .i64 g.mem] 3 := Bk.new
      generalize m2.new (.cells [.int .i64 g.id, .int .i64 g.share, .int .i64 g.mem] (some 3)) = m3 at hx3 hb3 ⊢
      have h3 := h2.keep hx3
      have hx13 := hx12.trans hx3
      refine gC.of (weight_spec (n := w)) ?_
      rintro _ _ ⟨rfl, hm⟩
      replace hm := hm.symm
      subst hm
      by_cases g2 : 1 ≤ w ∧ w ≤ 1000
      · by_cases c1 : c < 0
        · have hX : enterS s id k w c = (s, 23) := by unfold enterS; rw [if_neg (by simpa using g1), hl]; simp only []; rw [if_neg (fun h => h g2), if_pos (.inl c1)]
          rw [hX]
          try simp only [go_sem, ruB, decide_eq_true g2, decide_eq_true c1]
          exact ⟨rfl, h3, hx13.upd⟩
        · by_cases c2 : s.f < c
          · have hX : enterS s id k w c = (s, 23) := by unfold enterS; rw [if_neg (by simpa using g1), hl]; simp only []; rw [if_neg (fun h => h g2), if_pos (.inr c2)]
            rw [hX]
            try simp only [go_sem, ruB, decide_eq_true g2, decide_eq_false c1, decide_eq_true c2, h3.bk.at_]
            exact ⟨rfl, h3, hx13.upd⟩
          · by_cases g3 : 96 ≤ s.T.length
            · have hX : enterS s id k w c = (s, 13) := by unfold enterS; rw [if_neg (by simpa using g1), hl]; simp only []; rw [if_neg (fun h => h g2), if_neg (by omega), if_pos (.inl g3)]
              have e3 : decide ((96 : Int) ≤ ((s.T.length : Nat) : Int)) = true := decide_eq_true (by omega)
              rw [hX]
              try simp only [go_sem, ruB, decide_eq_true g2, decide_eq_false c1, decide_eq_false c2, h3.bk.at_, lenM_t h3.t, e3]
              exact ⟨rfl, h3, hx13.upd⟩
            · have e3 : decide ((96 : Int) ≤ ((s.T.length : Nat) : Int)) = false := decide_eq_false (by omega)
              by_cases g4 : 32 ≤ g.mem
              · have hX : enterS s id k w c = (s, 13) := by unfold enterS; rw [if_neg (by simpa using g1), hl]; simp only []; rw [if_neg (fun h => h g2), if_neg (by omega), if_pos (.inr g4)]
                rw [hX]
                try simp only [go_sem, ruB, decide_eq_true g2, decide_eq_false c1, decide_eq_false c2, h3.bk.at_, lenM_t h3.t, e3, hb3.at_, decide_eq_true g4]
                exact ⟨rfl, h3, hx13.upd⟩
              · have hX : enterS s id k w c = ({ s with T := updL s.T id ⟨id, k, 0, w, c, false⟩, G := cntU s.G k 1 }, 0) := by unfold enterS; rw [if_neg (by simpa using g1), hl]; simp only []; rw [if_neg (fun h => h g2), if_neg (by omega), if_neg (by omega)]
                obtain ⟨m', p1, p2, p3⟩ := h3.putT id ⟨id, k, 0, w, c, false⟩
                simp only [tvA, tkV] at p1
                rw [hX]
                try simp only [go_sem, ruB, decide_eq_true g2, decide_eq_false c1, decide_eq_false c2, h3.bk.at_, lenM_t h3.t, e3, hb3.at_, decide_eq_false g4, ↓kfill_t2, p1]
                refine gC.of (count_spec (k := k) (by_ := 1) p2 (fun g hg => by have := hG _ _ hg; omega)) ?_
                rintro _ m5 ⟨h5, hu5⟩
                try simp only [go_sem, ruB]
                exact ⟨rfl, h5, (hx13.upd.trans p3.up1 (fp := []) (fun _ h => by simp at h) (fun _ h => .inl h)).sameF hu5.up2⟩
      · have hX : enterS s id k w c = (s, 22) := by unfold enterS; rw [if_neg (by simpa using g1), hl]; simp only []; rw [if_pos g2]
        rw [hX]
        try simp only [go_sem, ruB, decide_eq_false g2]
        exact ⟨rfl, h3, hx13.upd⟩
  · have e1 : (freshE s id != 0) = true := by rw [bne_iff_ne]; exact g1
    have hX : enterS s id k w c = (s, freshE s id) := by unfold enterS; rw [if_pos g1]
    rw [hX]
    try simp only [go_sem, ruB, e1]
    exact ⟨rfl, h1, hx1.upd⟩

theorem cntU_lkp {G : List (Int × Gp)} {k by_ : Int} {j : Int} {g : Gp} (h : lkp (cntU G k by_) j = some g) : ∃ g', lkp G j = some g' ∧ (g.mem = g'.mem ∨ g.mem = g'.mem + by_) := by
  unfold cntU at h
  cases hk : lkp G k with
  | none => rw [hk] at h; exact ⟨g, h, .inl rfl⟩
  | some g' =>
    rw [hk] at h
    simp only [lkp_upd] at h
    split at h
    · rename_i e; cases h; subst e; exact ⟨g', hk, .inr rfl⟩
    · exact ⟨g, h, .inl rfl⟩

theorem Move_spec {b q1 q2 : Nat} {s : Rs} {id k : Int} (h : RosV m b q1 q2 s) (hG : memOk s) : WC R F.roster_Roster_Move [pt b, .int .i64 id, .int .i64 k] m (Post m b q1 q2 (moveS s id k)) := by
  refine WC.of R.roster_Roster_Move rfl ?_
  simp only [RC.roster_Roster_Move, pt, go_sem]
  refine gC.of (member_spec (id := id) (w := true) h) ?_
  rintro _ m1 ⟨rfl, hx1⟩
  have h1 := h.keep hx1
  have e10 : ((10 : Int) != 0) = true := rfl
  have e14 : ((14 : Int) != 0) = true := rfl
  have e25 : ((25 : Int) != 0) = true := rfl
  have e0 : ((0 : Int) != 0) = false := rfl
  cases hl : lkp s.T id with
  | none =>
    have hX : moveS s id k = (s, 10) := by unfold moveS; rw [hl]
    rw [memE_none hl, hX]
    simp only [tvA, tkV, zT]
    try simp only [go_sem, ruB, aExt0, aExt1, e10]
    exact ⟨rfl, h1.keep Ext.new, (hx1.trans Ext.new).upd⟩
  | some t =>
    by_cases g : t.grp = 0
    · have hX : moveS s id k = (s, 14) := by unfold moveS; rw [hl]; simp only []; rw [if_pos g]
      rw [memE_out hl (by simpa using g), hX]
      simp only [tvA, tkV, zT]
      try simp only [go_sem, ruB, aExt0, aExt1, e14]
      exact ⟨rfl, h1.keep Ext.new, (hx1.trans Ext.new).upd⟩
    · rw [memE_in hl (by rw [bne_iff_ne]; exact g)]
      simp only [tvA, tkV]
      try simp only [go_sem, ruB, aExt0, aExt1, e0]
      have hx2 : Ext m1 (m1.new (.cells [.int .i64 t.id, .int .i64 t.grp, .int .i64 t.share, .int .i64 t.weight, .int .i64 t.cap, .bool t.off] (some 6))) := Ext.new
      have hb2 : Bk (m1.new (.cells [.int .i64 t.id, .int .i64 t.grp, .int .i64 t.share, .int .i64 t.weight, .int .i64 t.cap, .bool t.off] (some 6))) m1.next [.int .i64 t.id, .int .i64 t.grp, .int .i64 t.share, .int .i64 t.weight, .int .i64 t.cap, .bool t.off] 6 := Bk.new
      generalize m1.new (.cells [.int .i64 t.id, .int .i64 t.grp, .int .i64 t.share, .int .i64 t.weight, .int .i64 t.cap, .bool t.off] (some 6)) = m2 at hx2 hb2 ⊢
      have h2 := h1.keep hx2
      refine gC.of (group_spec (id := k) h2) ?_
      rintro _ m3 ⟨rfl, hx3⟩
      have h3 := h2.keep hx3
      have hb3 := hb2.keep hx3
      have hx13 := (hx1.trans hx2).trans hx3
      have nb := hb3.ne
      cases hg : lkp s.G k with
      | none =>
        have hX : moveS s id k = (s, 25) := by unfold moveS; rw [hl]; simp only []; rw [if_neg g, hg]
        rw [hX]
        simp only [gvA, gpV, zG]
        try simp only [go_sem, ruB, aExt0, aExt1, e25]
        exact ⟨rfl, h3.keep Ext.new, (hx13.trans Ext.new).upd⟩
      | some u =>
        simp only [gvA, gpV]
        by_cases g2 : t.grp = k
        · have hX : moveS s id k = (s, 15) := by unfold moveS; rw [hl]; simp only []; rw [if_neg g, hg]; simp only []; rw [if_pos g2]
          have e1 : (t.grp == k) = true := by rw [beq_iff_eq]; exact g2
          rw [hX]
          try simp only [go_sem, ruB, aExt0, aExt1, e0, nb, hb3.at_, e1]
          exact ⟨rfl, h3.keep Ext.new, (hx13.trans Ext.new).upd⟩
        · have e1 : (t.grp == k) = false := by rw [beq_eq_false_iff_ne]; exact g2
          by_cases g3 : 32 ≤ u.mem
          · have hX : moveS s id k = (s, 13) := by unfold moveS; rw [hl]; simp only []; rw [if_neg g, hg]; simp only []; rw [if_neg g2, if_pos g3]
            rw [hX]
            try simp only [go_sem, ruB, aExt0, aExt1, e0, nb, hb3.at_, e1, decide_eq_true g3]
            exact ⟨rfl, h3.keep Ext.new, (hx13.trans Ext.new).upd⟩
          · have hX : moveS s id k = ({ s with G := cntU (cntU s.G t.grp (-1)) k 1, T := updL s.T id { t with grp := k } }, 0) := by unfold moveS; rw [hl]; simp only []; rw [if_neg g, hg]; simp only []; rw [if_neg g2, if_neg g3]
            rw [hX]
            try simp only [go_sem, ruB, aExt0, aExt1, e0, nb, hb3.at_, e1, decide_eq_false g3]
            have hx4 : Ext m3 (m3.new (.cells [.int .i64 u.id, .int .i64 u.share, .int .i64 u.mem] (some 3))) := Ext.new
            generalize m3.new (.cells [.int .i64 u.id, .int .i64 u.share, .int .i64 u.mem] (some 3)) = m4 at hx4 ⊢
            have h4 := h3.keep hx4
            have hb4 := hb3.keep hx4
            have hx14 := hx13.trans hx4
            refine gC.of (count_spec (k := t.grp) (by_ := -1) h4 (fun g hg => by have := hG _ _ hg; omega)) ?_
            rintro _ m5 ⟨h5, hu5⟩
            have hn1 := h1.g.lt
            have hb5 := hb4.upd hu5 (by simp; omega)
            try simp only [go_sem, ruB]
            refine gC.of (count_spec (k := k) (by_ := 1) h5 (fun g hg => by obtain ⟨g', a1, a2⟩ := cntU_lkp hg; have := hG _ _ a1; omega)) ?_
            rintro _ m6 ⟨h6, hu6⟩
            have hb6 := hb5.upd hu6 (by simp; omega)
            have hn2 := h1.t.lt
            have hn3 := h1.bk.lt
            have hU7 : Upd m6 (m6.set m1.next (some (.cells [.int .i64 t.id, .int .i64 k, .int .i64 t.share, .int .i64 t.weight, .int .i64 t.cap, .bool t.off] (some 6)))) [m1.next] := Upd.set (by simp)
            have h7 := h6.upd hU7 (by simp; omega) (by simp; omega) (by simp; omega)
            obtain ⟨m', p1, p2, p3⟩ := h7.putT id { t with grp := k }
            simp only [tvA, tkV] at p1
            have nb2 : (b = m1.next) = False := eq_false (by omega)
            try simp only [go_sem, ruB, hb6.at_, h6.bk.at_, nb2, p1]
            refine ⟨rfl, p2, ?_⟩
            have k6 : Upd m m6 [q1, q2] := ((hx14.upd.trans hu5.up2 (fp := []) (fun _ h => by simp at h) (fun _ h => .inl h)).sameF hu6.up2)
            exact (k6.trans hU7 (fr := [q1, q2]) (fun _ h => h) (fun x hx => .inr (by rw [List.mem_singleton.1 hx]; exact hx1.next))).sameF p3.up1

theorem New_spec {f : Int} : WC R F.roster_New [.int .i64 f] m fun r m' => (¬ (2 ≤ f ∧ f ≤ 64) ∧ r = .tuple #[.pointer none, .int .i64 1] ∧ Ext m m') ∨
    (2 ≤ f ∧ f ≤ 64 ∧ ∃ b q1 q2, r = .tuple #[pt b, .int .i64 0] ∧ RosV m' b q1 q2 ⟨f, [], []⟩ ∧ m.next ≤ b ∧ m.next ≤ q1 ∧ m.next ≤ q2 ∧ Ext m m') := by
  refine WC.of R.roster_New rfl ?_
  simp only [RC.roster_New, go_sem]
  by_cases g1 : f < 2
  · try simp only [go_sem, ruB, decide_eq_true g1]
    exact .inl ⟨by omega, Ext.refl _⟩
  · by_cases g2 : 64 < f
    · try simp only [go_sem, ruB, decide_eq_false g1, decide_eq_true g2]
      exact .inl ⟨by omega, Ext.refl _⟩
    · try simp only [go_sem, ruB, decide_eq_false g1, decide_eq_false g2]
      have hx1 : Ext m (m.new (.map [])) := Ext.new
      have hM1 : Mp (m.new (.map [])) m.next tvA [] := Mp.new
      have l1 : (m.new (.map [])).next = m.next + 1 := rfl
      generalize m.new (.map []) = m1 at hx1 hM1 l1 ⊢
      have hx2 : Ext m1 (m1.new (.map [])) := Ext.new
      have hM2 : Mp (m1.new (.map [])) m1.next gvA [] := Mp.new
      have l2 : (m1.new (.map [])).next = m1.next + 1 := rfl
      rw [← l1]
      generalize m1.new (.map []) = m2 at hx2 hM2 l2 ⊢
      rw [← l2]
      have hx3 : Ext m2 (m2.new (.cells [.int .i64 f, .map (some m.next), .map (some m1.next)] (some 3))) := Ext.new
      have hb3 : Bk (m2.new (.cells [.int .i64 f, .map (some m.next), .map (some m1.next)] (some 3))) m2.next [.int .i64 f, .map (some m.next), .map (some m1.next)] 3 := Bk.new
      generalize m2.new (.cells [.int .i64 f, .map (some m.next), .map (some m1.next)] (some 3)) = m3 at hx3 hb3 ⊢
      refine .inr ⟨by omega, by omega, m2.next, m.next, m1.next, rfl, ⟨hb3, (hM1.keep hx2).keep hx3, hM2.keep hx3, by show m2.next ≠ m.next; omega, by show m2.next ≠ m1.next; omega, by show m.next ≠ m1.next; omega, by show 2 ≤ f ∧ f ≤ 64; omega⟩, by omega, by omega, by omega, (hx1.trans hx2).trans hx3⟩

theorem Task_spec {b q1 q2 : Nat} {s : Rs} {id : Int} (h : RosV m b q1 q2 s) : WC R F.roster_Roster_Task [pt b, .int .i64 id] m fun r m' => r = .tuple #[tvA ((lkp s.T id).getD zT), .bool (lkp s.T id).isSome] ∧ Ext m m' := by
  refine WC.of R.roster_Roster_Task rfl ?_
  simp only [RC.roster_Roster_Task, pt, go_sem]
  have hx1 : Ext m (m.new (.cells [.int .i64 0, .int .i64 0, .int .i64 0, .int .i64 0, .int .i64 0, .bool false] (some 6))) := Ext.new
  have hb1 : Bk (m.new (.cells [.int .i64 0, .int .i64 0, .int .i64 0, .int .i64 0, .int .i64 0, .bool false] (some 6))) m.next [.int .i64 0, .int .i64 0, .int .i64 0, .int .i64 0, .int .i64 0, .bool false] 6 := Bk.new
  generalize m.new (.cells [.int .i64 0, .int .i64 0, .int .i64 0, .int .i64 0, .int .i64 0, .bool false] (some 6)) = m1 at hx1 hb1 ⊢
  have h1 := h.keep hx1
  refine gC.of (one_spec (id := id) h1) ?_
  rintro _ m2 ⟨rfl, hx2⟩
  have hb2 := hb1.keep hx2
  have hn := hb2.ne
  have hX := hx1.trans hx2
  cases hl : lkp s.T id with
  | none =>
    simp only [tvA, tkV, zT, Option.getD_none, Option.isSome_none]
    have e0 : ((10 : Int) == 0) = false := rfl
    try simp only [go_sem, ruB, aExt0, aExt1, e0, hn, hb2.at_]
    exact (hX.trans Ext.new).set (Nat.le_refl _)
  | some t =>
    simp only [tvA, tkV, Option.getD_some, Option.isSome_some]
    have e0 : ((0 : Int) == 0) = true := rfl
    try simp only [go_sem, ruB, aExt0, aExt1, e0, hn, hb2.at_]
    exact (hX.trans Ext.new).set (Nat.le_refl _)
theorem mcl_run {α : Type} {e : α → Value} {q : Nat} {L : List (Int × α)} (h : Mp m q e L) : X.mcl [.map (some q)] m = some (.map (some m.next), m.new (.map (mpL e L))) := by
  simp only [X.mcl, h.at_]
theorem mcl_new {α : Type} {e : α → Value} {L : List (Int × α)} : Mp (m.new (.map (mpL e L))) m.next e L := ⟨by simp [Mem.new], by simp [Mem.new]⟩
theorem cloneT_spec {q : Nat} {L : List (Int × Tk)} (h : Mp m q tvA L) : WC R F.maps_Clone_map_int_roster_Task_int_roster_Task [.map (some q)] m fun r m' => r = .map (some m.next) ∧ Mp m' m.next tvA L ∧ Ext m m' ∧ m'.next = m.next + 1 :=
  WC.ext R.maps_Clone_map_int_roster_Task_int_roster_Task (mcl_run h) ⟨rfl, mcl_new, Ext.new, rfl⟩
theorem cloneG_spec {q : Nat} {L : List (Int × Gp)} (h : Mp m q gvA L) : WC R F.maps_Clone_map_int_roster_Group_int_roster_Group [.map (some q)] m fun r m' => r = .map (some m.next) ∧ Mp m' m.next gvA L ∧ Ext m m' ∧ m'.next = m.next + 1 :=
  WC.ext R.maps_Clone_map_int_roster_Group_int_roster_Group (mcl_run h) ⟨rfl, mcl_new, Ext.new, rfl⟩
theorem Fork_spec {b q1 q2 : Nat} {s : Rs} (h : RosV m b q1 q2 s) : WC R F.roster_Roster_Fork [pt b] m fun r m' => ∃ c r1 r2, r = pt c ∧ RosV m' c r1 r2 s ∧ m.next ≤ c ∧ m.next ≤ r1 ∧ m.next ≤ r2 ∧ Ext m m' := by
  refine WC.of R.roster_Roster_Fork rfl ?_
  simp only [RC.roster_Roster_Fork, pt, go_sem]
  refine gC.of (none_spec h) ?_
  rintro _ _ ⟨rfl, hm⟩
  replace hm := hm.symm
  subst hm
  try simp only [go_sem, ruB, h.bk.at_]
  have hbx : Ext m (m.bump 17) := Ext.bump
  have hbn : (m.bump 17).next = m.next + 17 := rfl
  have h1 := h.keep hbx
  refine gC.of (cloneT_spec h1.t) ?_
  rintro _ m1 ⟨rfl, hM1, hx1, hn1⟩
  have h2 := h1.keep hx1
  have k1 : m1.blk b = (m.bump 17).blk b := hx1.same b h1.bk.lt
  try simp only [go_sem, ruB, watchOk_cons, watchOk_nil, blkOf_ptr, k1]
  refine gC.of (cloneG_spec h2.g) ?_
  rintro _ m2 ⟨rfl, hM2, hx2, hn2⟩
  have k2 : m2.blk b = m1.blk b := hx2.same b h2.bk.lt
  try simp only [go_sem, ruB, watchOk_cons, watchOk_nil, blkOf_ptr, k2]
  have hU : Upd m2 (m2.set (m.next + 15) (some (.cells [.int .i64 s.f, .map (some (m.next + 17)), .map (some m1.next)] (some 3)))) [m.next + 15] := Upd.set (by simp)
  have hX : Ext m m2 := (hbx.trans hx1).trans hx2
  have hM1' : Mp m1 (m.next + 17) tvA s.T := hM1
  refine ⟨m.next + 15, m.next + 17, m1.next, rfl, ⟨⟨by simp [Mem.set], by show m.next + 15 < m2.next; omega⟩, (hM1'.keep hx2).upd hU (by simp), hM2.upd hU (by simp; omega), by omega, by omega, by omega, h.fr⟩, by omega, by omega, by omega, hX.set (by omega)⟩
end Go.Am


/- Cuts of slices. -/
set_option linter.unusedVariables false
set_option linter.unusedSimpArgs false
namespace Go.Am

/-- A slice that may be cut. -/
def Cut (u : Nat) (m : Mem) (v : Value) : Prop := ∀ b o n c, v = .slice (some ⟨b, o, none⟩) n c → unitOk u m b = true
theorem Cutable.cut {u : Nat} {m : Mem} {v : Value} (h : Cutable m v) : Cut u m v := fun b o n c e => by subst e; exact h.unit
theorem Own.cut {m0 m : Mem} {u n : Nat} {cs : List Value} {v : Value} (h : Own m0 m u n cs v) : Cut u m v := by
  intro b o n' c e
  cases h with
  | nil => cases e
  | «at» hb hb2 hn hm hl hcs h1 => cases e; exact unitOk_own hm
theorem Cut.keep {u : Nat} {m m' : Mem} {v : Value} (h : Cut u m v) (hb : SlLt m v) (hx : Ext m m') : Cut u m' v := by
  intro b o n c e
  have := h b o n c e
  subst e
  unfold unitOk at this ⊢
  rw [hx.same b hb]; exact this

theorem aCells_split {m : Mem} {b o n k : Nat} {cs : List Value} (h : aCells m b o n = some cs) (hk : k ≤ n) : aCells m b o k = some (cs.take k) ∧ aCells m b (o + k) (n - k) = some (cs.drop k) := by
  unfold aCells at h ⊢
  split at h
  · rename_i c w hm
    split at h
    · rename_i hle
      cases h
      constructor
      · rw [if_pos (by omega), List.take_take, Nat.min_eq_left hk]
      · rw [if_pos (by omega), ← List.drop_drop, List.drop_take]
    · cases h
  · cases h

theorem Sl.to {m : Mem} {u n : Nat} {cs : List Value} {v : Value} (h : Sl m u n cs v) (hc : Cut u m v) {k : IntKind} {i : Nat} (hi : i ≤ n) :
    ∃ v', aSub u m v none (some (.int k i)) none = some v' ∧ Sl m u i (cs.take (i * u)) v' ∧ (SlLt m v → SlLt m v') ∧ Cut u m v' := by
  cases h with
  | nil h hcs =>
    subst hcs
    have : i = 0 := by omega
    subst this
    exact ⟨.slice none 0 0, rfl, .nil rfl (by simp), id, fun _ _ _ _ e => by cases e⟩
  | @«at» b o c hnc h =>
    have hu := hc b o n c rfl
    refine ⟨.slice (some ⟨b, o, none⟩) i c, sub_to hu (by omega), .at (by omega) (aCells_split h (Nat.mul_le_mul_right _ hi)).1, id, fun _ _ _ _ e => by cases e; exact hu⟩

theorem Sl.from {m : Mem} {u n : Nat} {cs : List Value} {v : Value} (h : Sl m u n cs v) (hc : Cut u m v) {k : IntKind} {i : Nat} (hi : i ≤ n) :
    ∃ v', aSub u m v (some (.int k i)) none none = some v' ∧ Sl m u (n - i) (cs.drop (i * u)) v' ∧ (SlLt m v → SlLt m v') ∧ Cut u m v' := by
  cases h with
  | nil h hcs =>
    subst hcs
    have : i = 0 := by omega
    subst this
    exact ⟨.slice none 0 0, rfl, .nil (by omega) (by simp), id, fun _ _ _ _ e => by cases e⟩
  | @«at» b o c hnc h =>
    have hu := hc b o n c rfl
    refine ⟨.slice (some ⟨b, o + i * u, none⟩) (n - i) (c - i), sub_from hu hi hnc, .at (by omega) ?_, id, fun _ _ _ _ e => by cases e; exact hu⟩
    rw [Nat.sub_mul]
    exact (aCells_split h (Nat.mul_le_mul_right _ hi)).2

end Go.Am


/- RosterW5 over the table of ledgerz (relayset.py). -/
set_option linter.unusedVariables false
set_option linter.unusedSimpArgs false
namespace Go.Am
open Classical
variable {m : Mem}

theorem keyInts_mp {α : Type} {e : α → Value} : ∀ {L : List (Int × α)}, (∀ x ∈ kys L, (Lit.int .i64 x).wf = true) → keyInts (mpL e L) = some (kys L)
  | [], _ => rfl
  | (k, a) :: l, h => by
    simp only [mpL, List.map_cons, keyInts]
    rw [if_pos (h k (by simp [kys]))]
    have := keyInts_mp (e := e) (L := l) fun x hx => h x (by simp only [kys, List.map_cons, List.mem_cons]; exact .inr hx)
    simp only [mpL] at this
    rw [this]; rfl
theorem ints_one {l : List Int} : oneCells (l.map (.int .i64)) = true := by
  unfold oneCells
  rw [List.all_eq_true]
  intro x hx
  obtain ⟨y, _, rfl⟩ := List.mem_map.1 hx
  rfl
theorem sk_run {α : Type} {e : α → Value} {gs : List Nat} {g b q : Nat} {L : List (Int × α)} (hc : gs.contains g = true) (hb : Bk m b [.map (some q)] 1) (hq : Mp m q e L) (hw : ∀ x ∈ kys L, (Lit.int .i64 x).wf = true) (hn : (kys L).Nodup) (hl : L.length ≤ 1000000) :
    ∃ r m', X.skeys gs [.func (.func g) #[] #[.pointer (some ⟨b, 0, none⟩)]] m = some (r, m') ∧ Own m m' 1 L.length (intsZ (sortI (kys L))) r ∧ Ext m m' := by
  have hk := keyInts_mp (e := e) hw
  have hnd := noDup_iff.2 hn
  have hkl : (kys L).length = L.length := List.length_map ..
  have hlen : (kys L).length ≤ 1000000 := by rw [hkl]; exact hl
  have h0 : ((#[] : Array Value).toList) = [] := rfl
  have h1 : ((#[Value.pointer (some ⟨b, 0, none⟩)] : Array Value).toList) = [.pointer (some ⟨b, 0, none⟩)] := rfl
  cases L with
  | nil =>
    refine ⟨.slice none 0 0, m, ?_, .nil rfl rfl, Ext.refl _⟩
    simp only [X.skeys, hc, h0, h1, hb.at_, List.getElem?_cons_zero, hq.at_, hk, Option.bind_some]
    rw [if_pos ⟨hnd, hlen⟩]
    rfl
  | cons p l =>
    refine ⟨.slice (some ⟨m.next, 0, none⟩) (p :: l).length (p :: l).length, m.new (.cells ((sortI (kys (p :: l))).map (.int .i64)) (some 1)), ?_, ?_, Ext.new⟩
    · simp only [X.skeys, hc, h0, h1, hb.at_, List.getElem?_cons_zero, hq.at_, hk, Option.bind_some]
      rw [if_pos ⟨hnd, hlen⟩]
      simp only [kys, List.map_cons, List.length_cons, List.length_map]
    · refine .at (all := (sortI (kys (p :: l))).map (.int .i64)) (Nat.le_refl _) (by simp [Mem.new]) (Nat.le_refl _) (by simp [Mem.new]) ?_ ?_ ?_
      · rw [List.length_map, sortI_len, hkl, Nat.mul_one]
      · rw [List.take_of_length_le]; rfl
        rw [List.length_map, sortI_len, hkl, Nat.mul_one]; exact Nat.le_refl _
      · exact ints_one

theorem keysT_spec {q : Nat} : WC R F.maps_Keys_map_int_roster_Task_int_roster_Task [.map (some q)] m fun r m' => r = .func (.func F.maps_Keys_map_int_roster_Task_int_roster_Task_1) #[] #[.pointer (some ⟨m.next, 0, none⟩)] ∧ m' = m.new (.cells [.map (some q)] (some 1)) := by
  refine WC.of R.maps_Keys_map_int_roster_Task_int_roster_Task rfl ?_
  simp only [RC.maps_Keys_map_int_roster_Task_int_roster_Task, go_sem]
theorem keysG_spec {q : Nat} : WC R F.maps_Keys_map_int_roster_Group_int_roster_Group [.map (some q)] m fun r m' => r = .func (.func F.maps_Keys_map_int_roster_Group_int_roster_Group_1) #[] #[.pointer (some ⟨m.next, 0, none⟩)] ∧ m' = m.new (.cells [.map (some q)] (some 1)) := by
  refine WC.of R.maps_Keys_map_int_roster_Group_int_roster_Group rfl ?_
  simp only [RC.maps_Keys_map_int_roster_Group_int_roster_Group, go_sem]

theorem sortedT_spec {b q : Nat} {L : List (Int × Tk)} (hb : Bk m b [.map (some q)] 1) (hq : Mp m q tvA L) (hw : ∀ x ∈ kys L, (Lit.int .i64 x).wf = true) (hn : (kys L).Nodup) (hl : L.length ≤ 1000000) :
    WC R F.slices_Sorted_int [.func (.func F.maps_Keys_map_int_roster_Task_int_roster_Task_1) #[] #[.pointer (some ⟨b, 0, none⟩)]] m fun r m' => Own m m' 1 L.length (intsZ (sortI (kys L))) r ∧ Ext m m' := by
  have hg : F.maps_Keys_map_int_roster_Task_int_roster_Task_1 = 106 := by unfold F.maps_Keys_map_int_roster_Task_int_roster_Task_1; rfl
  rw [hg]
  obtain ⟨r, m', h1, h2⟩ := sk_run (gs := [106, 107]) (g := 106) rfl hb hq hw hn hl
  exact WC.ext R.slices_Sorted_int h1 h2
theorem sortedG_spec {b q : Nat} {L : List (Int × Gp)} (hb : Bk m b [.map (some q)] 1) (hq : Mp m q gvA L) (hw : ∀ x ∈ kys L, (Lit.int .i64 x).wf = true) (hn : (kys L).Nodup) (hl : L.length ≤ 1000000) :
    WC R F.slices_Sorted_int [.func (.func F.maps_Keys_map_int_roster_Group_int_roster_Group_1) #[] #[.pointer (some ⟨b, 0, none⟩)]] m fun r m' => Own m m' 1 L.length (intsZ (sortI (kys L))) r ∧ Ext m m' := by
  have hg : F.maps_Keys_map_int_roster_Group_int_roster_Group_1 = 107 := by unfold F.maps_Keys_map_int_roster_Group_int_roster_Group_1; rfl
  rw [hg]
  obtain ⟨r, m', h1, h2⟩ := sk_run (gs := [106, 107]) (g := 107) rfl hb hq hw hn hl
  exact WC.ext R.slices_Sorted_int h1 h2
end Go.Am


/- RosterW6 over the table of ledgerz (relayset.py). -/
set_option linter.unusedVariables false
set_option linter.unusedSimpArgs false
namespace Go.Am
open Classical
variable {m : Mem}

theorem Sl.geti {l : List Int} {v : Value} (h : Sl m 1 l.length (intsZ l) v) {i : Nat} (hi : i < l.length) :
    ∃ b o, aIdxS 1 v (.int .i64 i) = some (.pointer (some ⟨b, o, none⟩)) ∧ aLoad false 1 m (.pointer (some ⟨b, o, none⟩)) = some (.int .i64 l[i]) := by
  obtain ⟨b, o, h1, h2, -⟩ := h.cell (k := .i64) hi
  have := h2 0 (by omega)
  have hg : (intsZ l)[i]? = some (.int .i64 l[i]) := by unfold intsZ; rw [List.getElem?_map, List.getElem?_eq_getElem hi]; rfl
  rw [Nat.mul_one, Nat.add_zero, Nat.add_zero, hg] at this
  exact ⟨b, o, h1, this⟩
theorem st1 {i : Nat} (h : i < 1000000) : IntKind.wrap .i64 (((i : Nat) : Int) + 1) = ((i + 1 : Nat) : Int) := by rw [wrap_i64 (by omega) (by omega)]; rfl

def tasksL (s : Rs) : List Tk := (sortI (kys s.T)).map fun id => (lkp s.T id).getD zT
def groupsL (s : Rs) : List Gp := (sortI (kys s.G)).map fun id => (lkp s.G id).getD zG
theorem tasksL_len {s : Rs} : (tasksL s).length = s.T.length := by unfold tasksL kys; rw [List.length_map, sortI_len, List.length_map]
theorem groupsL_len {s : Rs} : (groupsL s).length = s.G.length := by unfold groupsL kys; rw [List.length_map, sortI_len, List.length_map]

/-- What makes the keys sortable. -/
structure KeyOk (s : Rs) : Prop where
  tn : (kys s.T).Nodup
  gn : (kys s.G).Nodup
  tr : ∀ x ∈ kys s.T, 1 ≤ x ∧ x ≤ 200
  gr : ∀ x ∈ kys s.G, 1 ≤ x ∧ x ≤ 40
  tl : s.T.length ≤ 96
  gl : s.G.length ≤ 40
theorem wf_small {x : Int} (h : -1000 ≤ x ∧ x ≤ 100000) : (Lit.int .i64 x).wf = true := by
  have h1 : IntKind.min .i64 = -9223372036854775808 := by decide
  have h2 : IntKind.max .i64 = 9223372036854775807 := by decide
  simp only [Lit.wf, h1, h2, Bool.and_eq_true, decide_eq_true_eq]
  omega

set_option maxHeartbeats 1000000 in
theorem Tasks_spec {b q1 q2 : Nat} {s : Rs} (h : RosV m b q1 q2 s) (hk : KeyOk s) : WC R F.roster_Roster_Tasks [pt b] m fun r m' => Own m m' 6 (tasksL s).length ((tasksL s).flatMap tkV) r ∧ Ext m m' := by
  refine WC.of R.roster_Roster_Tasks rfl ?_
  simp only [RC.roster_Roster_Tasks, pt, go_sem]
  refine gC.of (none_spec h) ?_
  rintro _ _ ⟨rfl, hm⟩
  replace hm := hm.symm
  subst hm
  try simp only [go_sem, ruB, h.bk.at_]
  refine gC.of keysT_spec ?_
  rintro _ _ ⟨rfl, rfl⟩
  try simp only [go_sem, ruB]
  have hx1 : Ext m (m.new (.cells [.map (some q1)] (some 1))) := Ext.new
  have hb1 : Bk (m.new (.cells [.map (some q1)] (some 1))) m.next [.map (some q1)] 1 := Bk.new
  generalize m.new (.cells [.map (some q1)] (some 1)) = m1 at hx1 hb1 ⊢
  have h1 := h.keep hx1
  have htl := hk.tl
  refine gC.of (sortedT_spec hb1 h1.t (fun x hx => wf_small (by have := hk.tr x hx; omega)) hk.tn (by omega)) ?_
  rintro w m2 ⟨ho, hx2⟩
  have h2 := h1.keep hx2
  have hx12 := hx1.trans hx2
  have hkl : s.T.length = (sortI (kys s.T)).length := by rw [sortI_len]; unfold kys; rw [List.length_map]
  rw [hkl] at ho
  have hs := ho.sl
  have hlt := ho.lt
  have hUl : (sortI (kys s.T)).length ≤ 96 := by omega
  unfold tasksL
  generalize sortI (kys s.T) = U at *
  try simp only [go_sem, ruB, hs.len]
  refine WL.of (fun k e m' => ∃ (i : Nat) (z : Value), i ≤ U.length ∧ k = U.length - i ∧ e = [(0, pt b), (3, z), (13, w), (14, .int .i64 ((U.length : Nat) : Int)), (15, .int .i64 ((i : Nat) : Int))] ∧ Own m2 m' 6 i (((U.take i).map fun id => (lkp s.T id).getD zT).flatMap tkV) z ∧ Ext m2 m') U.length
    ⟨0, _, by omega, by omega, by simp only [go_sem] <;> rfl, .nil rfl rfl, Ext.refl _⟩ ?_
  rintro _ _ m3 ⟨i, z, hi, rfl, rfl, hz, hx3⟩
  have h3 := h2.keep hx3
  have hs3 := hs.keep hlt hx3
  simp only [RB.roster_Roster_Tasks_1, pt, go_sem]
  have s1 := st1 (show i < 1000000 by omega)
  by_cases g1 : i < U.length
  · have e1 : decide (((i : Nat) : Int) < ((U.length : Nat) : Int)) = true := decide_eq_true (by omega)
    obtain ⟨bb, oo, a1, a2⟩ := hs3.geti g1
    have lk := h3.t.look (x := U[i]) (z := zT)
    have htk : U.take (i + 1) = U.take i ++ [U[i]] := List.take_succ_eq_append_getElem g1
    generalize ht : (lkp s.T U[i]).getD zT = t at lk
    obtain ⟨v', m4, p1, p2, p3⟩ := hz.app (by_ := 48) (es := tkV t) hx3 (by omega) rfl rfl (by omega) (by omega)
    simp only [tvA, tkV, zT] at lk
    simp only [tkV] at p1
    try simp only [go_sem, ruB, e1, a1, a2, h3.bk.at_, lk, p1, s1]
    refine ⟨U.length - (i + 1), by omega, i + 1, v', by omega, rfl, rfl, ?_, p3⟩
    rw [htk, List.map_append, List.flatMap_append]
    simpa [ht] using p2
  · have e1 : decide (((i : Nat) : Int) < ((U.length : Nat) : Int)) = false := decide_eq_false (by omega)
    have hi2 : i = U.length := by omega
    subst hi2
    rw [List.take_length] at hz
    try simp only [go_sem, ruB, e1]
    rw [List.length_map]
    exact ⟨hz.weak hx12, hx12.trans hx3⟩

set_option maxHeartbeats 1000000 in
theorem Groups_spec {b q1 q2 : Nat} {s : Rs} (h : RosV m b q1 q2 s) (hk : KeyOk s) : WC R F.roster_Roster_Groups [pt b] m fun r m' => Own m m' 3 (groupsL s).length ((groupsL s).flatMap gpV) r ∧ Ext m m' := by
  refine WC.of R.roster_Roster_Groups rfl ?_
  simp only [RC.roster_Roster_Groups, pt, go_sem]
  refine gC.of (none_spec h) ?_
  rintro _ _ ⟨rfl, hm⟩
  replace hm := hm.symm
  subst hm
  try simp only [go_sem, ruB, h.bk.at_]
  refine gC.of keysG_spec ?_
  rintro _ _ ⟨rfl, rfl⟩
  try simp only [go_sem, ruB]
  have hx1 : Ext m (m.new (.cells [.map (some q2)] (some 1))) := Ext.new
  have hb1 : Bk (m.new (.cells [.map (some q2)] (some 1))) m.next [.map (some q2)] 1 := Bk.new
  generalize m.new (.cells [.map (some q2)] (some 1)) = m1 at hx1 hb1 ⊢
  have h1 := h.keep hx1
  have htl := hk.gl
  refine gC.of (sortedG_spec hb1 h1.g (fun x hx => wf_small (by have := hk.gr x hx; omega)) hk.gn (by omega)) ?_
  rintro w m2 ⟨ho, hx2⟩
  have h2 := h1.keep hx2
  have hx12 := hx1.trans hx2
  have hkl : s.G.length = (sortI (kys s.G)).length := by rw [sortI_len]; unfold kys; rw [List.length_map]
  rw [hkl] at ho
  have hs := ho.sl
  have hlt := ho.lt
  have hUl : (sortI (kys s.G)).length ≤ 40 := by omega
  unfold groupsL
  generalize sortI (kys s.G) = U at *
  try simp only [go_sem, ruB, hs.len]
  refine WL.of (fun k e m' => ∃ (i : Nat) (z : Value), i ≤ U.length ∧ k = U.length - i ∧ e = [(0, pt b), (3, z), (13, w), (14, .int .i64 ((U.length : Nat) : Int)), (15, .int .i64 ((i : Nat) : Int))] ∧ Own m2 m' 3 i (((U.take i).map fun id => (lkp s.G id).getD zG).flatMap gpV) z ∧ Ext m2 m') U.length
    ⟨0, _, by omega, by omega, by simp only [go_sem] <;> rfl, .nil rfl rfl, Ext.refl _⟩ ?_
  rintro _ _ m3 ⟨i, z, hi, rfl, rfl, hz, hx3⟩
  have h3 := h2.keep hx3
  have hs3 := hs.keep hlt hx3
  simp only [RB.roster_Roster_Groups_1, pt, go_sem]
  have s1 := st1 (show i < 1000000 by omega)
  by_cases g1 : i < U.length
  · have e1 : decide (((i : Nat) : Int) < ((U.length : Nat) : Int)) = true := decide_eq_true (by omega)
    obtain ⟨bb, oo, a1, a2⟩ := hs3.geti g1
    have lk := h3.g.look (x := U[i]) (z := zG)
    have htk : U.take (i + 1) = U.take i ++ [U[i]] := List.take_succ_eq_append_getElem g1
    generalize ht : (lkp s.G U[i]).getD zG = t at lk
    obtain ⟨v', m4, p1, p2, p3⟩ := hz.app (by_ := 24) (es := gpV t) hx3 (by omega) rfl rfl (by omega) (by omega)
    simp only [gvA, gpV, zG] at lk
    simp only [gpV] at p1
    try simp only [go_sem, ruB, e1, a1, a2, h3.bk.at_, lk, p1, s1]
    refine ⟨U.length - (i + 1), by omega, i + 1, v', by omega, rfl, rfl, ?_, p3⟩
    rw [htk, List.map_append, List.flatMap_append]
    simpa [ht] using p2
  · have e1 : decide (((i : Nat) : Int) < ((U.length : Nat) : Int)) = false := decide_eq_false (by omega)
    have hi2 : i = U.length := by omega
    subst hi2
    rw [List.take_length] at hz
    try simp only [go_sem, ruB, e1]
    rw [List.length_map]
    exact ⟨hz.weak hx12, hx12.trans hx3⟩
end Go.Am


/- Rows of spans, with no program in sight: what is in one; that a right row is told by what is in it; how many numbers there are. -/
set_option linter.unusedVariables false
set_option linter.unusedSimpArgs false
namespace Go.Am

abbrev Sp := Int × Int
instance : Inhabited Sp := ⟨(0, 0)⟩
def spV (s : Sp) : List Value := [.int .i64 s.1, .int .i64 s.2]
theorem spV_len (s : Sp) : (spV s).length = 2 := rfl
def InS (l : List Sp) (x : Int) : Prop := ∃ s ∈ l, s.1 ≤ x ∧ x < s.2
def hasS (l : List Sp) (x : Int) : Bool := l.any fun s => decide (s.1 ≤ x) && decide (x < s.2)
theorem hasS_iff {l : List Sp} {x : Int} : hasS l x = true ↔ InS l x := by
  simp only [hasS, InS, List.any_eq_true, Bool.and_eq_true, decide_eq_true_eq]
theorem InS.nil {x : Int} : ¬ InS [] x := by rintro ⟨s, h, _⟩; simp at h
theorem InS.cons {s : Sp} {l : List Sp} {x : Int} : InS (s :: l) x ↔ (s.1 ≤ x ∧ x < s.2) ∨ InS l x := by
  unfold InS; simp
theorem InS.append {a b : List Sp} {x : Int} : InS (a ++ b) x ↔ InS a x ∨ InS b x := by
  unfold InS
  constructor
  · rintro ⟨s, h, h1⟩
    rcases List.mem_append.1 h with h | h
    · exact .inl ⟨s, h, h1⟩
    · exact .inr ⟨s, h, h1⟩
  · rintro (⟨s, h, h1⟩ | ⟨s, h, h1⟩)
    · exact ⟨s, List.mem_append.2 (.inl h), h1⟩
    · exact ⟨s, List.mem_append.2 (.inr h), h1⟩
theorem InS.single {s : Sp} {x : Int} : InS [s] x ↔ s.1 ≤ x ∧ x < s.2 := by
  unfold InS; simp
theorem InS.snoc {a : List Sp} {s : Sp} {x : Int} : InS (a ++ [s]) x ↔ InS a x ∨ (s.1 ≤ x ∧ x < s.2) := by
  rw [InS.append, InS.single]

/-- A row that is right: none is empty, and there is a number between any two. -/
def Rt (l : List Sp) : Prop := (∀ s ∈ l, s.1 < s.2) ∧ l.Pairwise fun s t => s.2 < t.1
theorem Rt.nil : Rt [] := ⟨by simp, .nil⟩
theorem Rt.cons {s : Sp} {l : List Sp} : Rt (s :: l) ↔ s.1 < s.2 ∧ (∀ t ∈ l, s.2 < t.1) ∧ Rt l := by
  unfold Rt
  rw [List.pairwise_cons]
  constructor
  · rintro ⟨h1, h2, h3⟩
    exact ⟨h1 s (by simp), h2, fun t ht => h1 t (by simp [ht]), h3⟩
  · rintro ⟨h1, h2, h3, h4⟩
    refine ⟨fun t ht => ?_, h2, h4⟩
    rcases List.mem_cons.1 ht with rfl | h
    · exact h1
    · exact h3 t h
theorem Rt.snoc {s : Sp} {l : List Sp} : Rt (l ++ [s]) ↔ Rt l ∧ s.1 < s.2 ∧ ∀ t ∈ l, t.2 < s.1 := by
  unfold Rt
  rw [List.pairwise_append]
  constructor
  · rintro ⟨h1, h2, -, h3⟩
    exact ⟨⟨fun t ht => h1 t (by simp [ht]), h2⟩, h1 s (by simp), fun t ht => h3 t ht s (by simp)⟩
  · rintro ⟨⟨h1, h2⟩, h3, h4⟩
    refine ⟨fun t ht => ?_, h2, List.pairwise_singleton _ _, fun t ht u hu => ?_⟩
    · rcases List.mem_append.1 ht with h | h
      · exact h1 t h
      · rw [List.mem_singleton.1 h]; exact h3
    · rw [List.mem_singleton.1 hu]; exact h4 t ht

/-- A right row is told by what is in it. -/
theorem Rt.eq : ∀ {a b : List Sp}, Rt a → Rt b → (∀ x, InS a x ↔ InS b x) → a = b
  | [], [], _, _, _ => rfl
  | [], t :: b, _, hb, h => by
    have := (h t.1).2 (InS.cons.2 (.inl ⟨Int.le_refl _, (Rt.cons.1 hb).1⟩))
    exact absurd this InS.nil
  | s :: a, [], ha, _, h => by
    have := (h s.1).1 (InS.cons.2 (.inl ⟨Int.le_refl _, (Rt.cons.1 ha).1⟩))
    exact absurd this InS.nil
  | s :: a, t :: b, ha, hb, h => by
    obtain ⟨a1, a2, a3⟩ := Rt.cons.1 ha
    obtain ⟨b1, b2, b3⟩ := Rt.cons.1 hb
    have ga : ∀ x, InS a x → s.2 < x := by rintro x ⟨u, hu, h1, _⟩; have := a2 u hu; omega
    have gb : ∀ x, InS b x → t.2 < x := by rintro x ⟨u, hu, h1, _⟩; have := b2 u hu; omega
    have k : ∀ x, ((s.1 ≤ x ∧ x < s.2) ∨ InS a x) ↔ ((t.1 ≤ x ∧ x < t.2) ∨ InS b x) := fun x => by rw [← InS.cons, ← InS.cons]; exact h x
    have e1 : s.1 = t.1 := by
      have h1 : t.1 ≤ s.1 := by
        rcases (k s.1).1 (.inl ⟨Int.le_refl _, a1⟩) with h | h
        · exact h.1
        · have := gb _ h; omega
      have h2 : s.1 ≤ t.1 := by
        rcases (k t.1).2 (.inl ⟨Int.le_refl _, b1⟩) with h | h
        · exact h.1
        · have := ga _ h; omega
      omega
    have e2 : s.2 = t.2 := by
      have h1 : ¬ s.2 < t.2 := fun hlt => by
        rcases (k s.2).2 (.inl ⟨by omega, hlt⟩) with h | h
        · omega
        · have := ga _ h; omega
      have h2 : ¬ t.2 < s.2 := fun hlt => by
        rcases (k t.2).1 (.inl ⟨by omega, hlt⟩) with h | h
        · omega
        · have := gb _ h; omega
      omega
    have e : s = t := Prod.ext e1 e2
    subst e
    congr 1
    refine Rt.eq a3 b3 fun x => ?_
    have kx := k x
    constructor
    · intro hx
      have := ga x hx
      rcases kx.1 (.inr hx) with h | h
      · omega
      · exact h
    · intro hx
      have := gb x hx
      rcases kx.2 (.inr hx) with h | h
      · omega
      · exact h

theorem Rt.none {a : List Sp} (h : Rt a) (hn : ∀ x, ¬ InS a x) : a = [] :=
  Rt.eq h Rt.nil fun x => ⟨fun hx => absurd hx (hn x), fun hx => absurd hx InS.nil⟩

/-! ### Steps -/
theorem Rt.put {r : List Sp} {s : Sp} (h : Rt r) (h1 : s.1 < s.2) (h2 : ∀ t ∈ r, t.2 < s.1) : Rt (r ++ [s]) := Rt.snoc.2 ⟨h, h1, h2⟩
/-- The last one goes on. -/
theorem Rt.more {r : List Sp} {t : Sp} {e : Int} (h : Rt (r ++ [t])) (h1 : t.2 ≤ e) : Rt (r ++ [(t.1, e)]) := by
  obtain ⟨h2, h3, h4⟩ := Rt.snoc.1 h
  exact Rt.snoc.2 ⟨h2, by show t.1 < e; omega, h4⟩
theorem Rt.last {r : List Sp} {t : Sp} (h : Rt (r ++ [t])) {u : Sp} (hu : u ∈ r ++ [t]) : u.2 ≤ t.2 := by
  obtain ⟨h2, h3, h4⟩ := Rt.snoc.1 h
  rcases List.mem_append.1 hu with h | h
  · have := h4 u h; omega
  · rw [List.mem_singleton.1 h]; omega

/-! ### How many -/
def sumS (l : List Sp) : Int := (l.map fun s => s.2 - s.1).foldr (· + ·) 0
theorem sumS_cons {s : Sp} {l : List Sp} : sumS (s :: l) = (s.2 - s.1) + sumS l := rfl

def cnt (p : Int → Bool) (lo : Int) (n : Nat) : Int := ((List.range n).countP fun (i : Nat) => p (lo + i))
theorem cnt_succ {p : Int → Bool} {lo : Int} {n : Nat} : cnt p lo (n + 1) = cnt p lo n + (if p (lo + n) then 1 else 0) := by
  unfold cnt
  rw [List.range_succ, List.countP_append]
  simp only [List.countP_cons, List.countP_nil]
  split <;> simp
theorem cnt_or {p q : Int → Bool} {lo : Int} (h : ∀ x, ¬ (p x = true ∧ q x = true)) : ∀ {n : Nat}, cnt (fun x => p x || q x) lo n = cnt p lo n + cnt q lo n
  | 0 => rfl
  | n + 1 => by
    rw [cnt_succ, cnt_succ, cnt_succ, cnt_or h]
    have := h (lo + n)
    cases hp : p (lo + n) <;> cases hq : q (lo + n) <;> simp [hp, hq] at this ⊢ <;> omega
theorem cnt_congr {p q : Int → Bool} {lo : Int} {n : Nat} (h : ∀ x, p x = q x) : cnt p lo n = cnt q lo n := by
  have : p = q := funext h
  rw [this]
theorem cnt_none {lo : Int} : ∀ {n : Nat}, cnt (fun _ => false) lo n = 0
  | 0 => rfl
  | n + 1 => by rw [cnt_succ, cnt_none]; rfl
theorem cnt_span {a b lo : Int} (h1 : lo ≤ a) (h2 : a ≤ b) : ∀ {n : Nat}, b ≤ lo + n → cnt (fun x => decide (a ≤ x) && decide (x < b)) lo n = b - a := by
  have key : ∀ n : Nat, cnt (fun x => decide (a ≤ x) && decide (x < b)) lo n = (if lo + n ≤ a then 0 else if lo + n ≤ b then lo + n - a else b - a) := by
    intro n
    induction n with
    | zero =>
      show (0 : Int) = _
      rw [if_pos (by omega)]
    | succ n ih =>
      rw [cnt_succ, ih]
      by_cases c1 : a ≤ lo + n
      · by_cases c2 : lo + n < b
        · simp only [c1, c2, decide_true, Bool.and_self, if_true]
          rw [if_neg (show ¬ lo + ((n + 1 : Nat) : Int) ≤ a by omega), if_pos (show lo + ((n + 1 : Nat) : Int) ≤ b by omega)]
          by_cases c3 : lo + (n : Int) ≤ a
          · rw [if_pos c3]; omega
          · rw [if_neg c3, if_pos (by omega)]; omega
        · simp only [c1, c2, decide_true, decide_false, Bool.and_false, Bool.false_eq_true, if_false]
          rw [if_neg (show ¬ lo + ((n + 1 : Nat) : Int) ≤ a by omega), if_neg (show ¬ lo + ((n + 1 : Nat) : Int) ≤ b by omega)]
          by_cases c3 : lo + (n : Int) ≤ a
          · rw [if_pos c3]; omega
          · rw [if_neg c3]
            by_cases c4 : lo + (n : Int) ≤ b
            · rw [if_pos c4]; omega
            · rw [if_neg c4]; omega
      · simp only [c1, decide_false, Bool.false_and, Bool.false_eq_true, if_false]
        rw [if_pos (show lo + (n : Int) ≤ a by omega), if_pos (show lo + ((n + 1 : Nat) : Int) ≤ a by omega)]
        omega
  intro n h
  rw [key]
  by_cases c : lo + (n : Int) ≤ a
  · rw [if_pos c]; omega
  · rw [if_neg c]
    by_cases c2 : lo + (n : Int) ≤ b
    · rw [if_pos c2]; omega
    · rw [if_neg c2]

theorem Rt.cnt {lo : Int} {n : Nat} : ∀ {l : List Sp}, Rt l → (∀ s ∈ l, lo ≤ s.1 ∧ s.2 ≤ lo + n) → cnt (hasS l) lo n = sumS l
  | [], _, _ => by
    rw [show sumS [] = 0 from rfl, ← cnt_none (lo := lo) (n := n)]
    exact cnt_congr fun x => rfl
  | s :: l, h, hb => by
    obtain ⟨h1, h2, h3⟩ := Rt.cons.1 h
    have hs := hb s (by simp)
    rw [sumS_cons, ← Rt.cnt h3 (fun t ht => hb t (by simp [ht])), ← cnt_span hs.1 (by omega) hs.2, ← cnt_or]
    · exact cnt_congr fun x => by unfold hasS; rw [List.any_cons]
    · rintro x ⟨h4, h5⟩
      simp only [Bool.and_eq_true, decide_eq_true_eq] at h4
      obtain ⟨t, ht, h6, h7⟩ := hasS_iff.1 h5
      have := h2 t ht
      omega

theorem bounds : ∀ (l : List Sp), ∃ lo : Int, ∃ n : Nat, ∀ s ∈ l, lo ≤ s.1 ∧ s.2 ≤ lo + n
  | [] => ⟨0, 0, by simp⟩
  | s :: l => by
    obtain ⟨lo, n, h⟩ := bounds l
    refine ⟨min lo s.1, (max (lo + n) s.2 - min lo s.1).toNat, fun t ht => ?_⟩
    rcases List.mem_cons.1 ht with rfl | ht
    · omega
    · have := h t ht; omega

/-- Two rows with nothing in common: as many as both. -/
theorem Rt.sum {a b c : List Sp} (ha : Rt a) (hb : Rt b) (hc : Rt c) (h : ∀ x, InS c x ↔ InS a x ∨ InS b x) (hd : ∀ x, ¬ (InS a x ∧ InS b x)) : sumS a + sumS b = sumS c := by
  obtain ⟨lo, n, hx⟩ := bounds (a ++ (b ++ c))
  rw [← ha.cnt (lo := lo) (n := n) (fun s hs => hx s (by simp [hs])), ← hb.cnt (lo := lo) (n := n) (fun s hs => hx s (by simp [hs])), ← hc.cnt (lo := lo) (n := n) (fun s hs => hx s (by simp [hs])), ← cnt_or]
  · refine (cnt_congr fun x => ?_).symm
    rw [Bool.eq_iff_iff, Bool.or_eq_true, hasS_iff, hasS_iff, hasS_iff]; exact h x
  · rintro x ⟨h1, h2⟩
    exact hd x ⟨hasS_iff.1 h1, hasS_iff.1 h2⟩

end Go.Am


/- OrderD over the table of ledgerz (relayset.py). -/
set_option linter.unusedVariables false
set_option linter.unusedSimpArgs false
namespace Go.Am
abbrev inR (n : Int) : Prop := -9223372036854775808 ≤ n ∧ n ≤ 9223372036854775807

theorem wrap_hi {x : Int} (h1 : 9223372036854775808 ≤ x) (h2 : x ≤ 18446744073709551614) : IntKind.wrap .i64 x = x - 18446744073709551616 := by
  have e : IntKind.wrap .i64 x = IntKind.wrap .i64 (x - 18446744073709551616) := by
    unfold IntKind.wrap
    simp [IntKind.bits, IntKind.signed]
  rw [e, wrap_i64 (by omega) (by omega)]
theorem wrap_lo {x : Int} (h1 : x ≤ -9223372036854775809) (h2 : -18446744073709551616 ≤ x) : IntKind.wrap .i64 x = x + 18446744073709551616 := by
  have e : IntKind.wrap .i64 x = IntKind.wrap .i64 (x + 18446744073709551616) := by
    unfold IntKind.wrap
    simp [IntKind.bits, IntKind.signed]
  rw [e, wrap_i64 (by omega) (by omega)]

/-- All shares together; none: it runs over. -/
def totO (n : Int) : List Sp → Option Int
  | [] => some n
  | w :: r => if inR (n + w.2) then totO (n + w.2) r else none

end Go.Am


/- One's own slice whose first block is older than what else is there: only that block, and newer ones, are touched. -/
set_option linter.unusedVariables false
set_option linter.unusedSimpArgs false
namespace Go.Am

theorem app_updA {at_ : Option Nat} {u by_ M : Nat} {m m' : Mem} {v v' x : Value} (h : aApp at_ u by_ m v x = some (v', m')) (ha : ∀ k, at_ = some k → M ≤ k) (hM : M ≤ m.next) :
    m.next ≤ m'.next ∧ (∀ b, b < M → b ∉ vb v → m'.blk b = m.blk b) ∧ (vb v' = vb v ∨ ∃ k, vb v' = [k] ∧ M ≤ k) := by
  have hpl : ∀ (m1 : Mem) (o : AObj), m1.next = m.next → m.next ≤ (place at_ m1 o).2.next ∧ (∀ b, b < M → (place at_ m1 o).2.blk b = m1.blk b) ∧ M ≤ (place at_ m1 o).1 := by
    intro m1 o h1
    unfold place
    split
    · refine ⟨by show m.next ≤ m1.next + 1; omega, fun b hb => ?_, by show M ≤ m1.next; omega⟩
      show (if b = m1.next then _ else _) = _
      rw [if_neg (by omega)]
    · rename_i k
      have := ha k rfl
      refine ⟨by show m.next ≤ m1.next; omega, fun b hb => ?_, this⟩
      show (if b = k then _ else _) = _
      rw [if_neg (by omega)]
  unfold aApp at h
  rw [Option.bind_eq_some_iff] at h
  obtain ⟨n, hn, h⟩ := h
  rw [Option.bind_eq_some_iff] at h
  obtain ⟨xs, hxs, h⟩ := h
  split at h
  · split at h
    · cases h; exact ⟨Nat.le_refl _, fun _ _ _ => rfl, .inl rfl⟩
    · split at h
      · obtain ⟨p1, p2, p3⟩ := hpl m (.cells xs (some u)) rfl
        generalize place at_ m (.cells xs (some u)) = P at h p1 p2 p3
        obtain ⟨b, m1⟩ := P
        cases h
        exact ⟨p1, fun b hb _ => p2 b hb, .inr ⟨_, rfl, p3⟩⟩
      · cases h
  · rename_i b o l c
    split at h
    · split at h
      · cases h; exact ⟨Nat.le_refl _, fun _ _ _ => rfl, .inl rfl⟩
      · cases h
    · split at h
      · rw [Option.map_eq_some_iff] at h
        obtain ⟨m1, h1, h2⟩ := h
        cases h2
        obtain ⟨a1, a2⟩ := aWrite_upd h1
        refine ⟨by omega, fun x hx hn => ?_, .inl rfl⟩
        exact a1.same x (by omega) hn
      · split at h
        · rename_i cs own hb
          split at h
          · have hs : ∀ c : Bool, (if c = true then m.set b none else m).next = m.next ∧ ∀ x, x ≠ b → (if c = true then m.set b none else m).blk x = m.blk x := by
              intro c
              cases c
              · exact ⟨rfl, fun _ _ => rfl⟩
              · refine ⟨rfl, fun x hx => ?_⟩
                show (if x = b then _ else _) = _
                rw [if_neg hx]
            simp only [] at h
            generalize hm1 : (if own.isSome = true ∧ o + c * u = cs.length then m.set b none else m) = m1 at h
            have hs1 : m1.next = m.next ∧ ∀ x, x ≠ b → m1.blk x = m.blk x := by
              rw [← hm1]
              split
              · exact hs true
              · exact hs false
            obtain ⟨p1, p2, p3⟩ := hpl m1 (.cells (List.take (l * u) (List.drop o cs) ++ xs) (some u)) hs1.1
            generalize place at_ m1 (.cells (List.take (l * u) (List.drop o cs) ++ xs) (some u)) = P at h p1 p2 p3
            obtain ⟨b', m2⟩ := P
            cases h
            refine ⟨p1, fun x hx hn => ?_, .inr ⟨_, rfl, p3⟩⟩
            rw [p2 x hx, hs1.2 x (by intro e; apply hn; simp [vb, e])]
          · cases h
        · cases h
  · cases h

theorem Own.ge {m0 m : Mem} {u n : Nat} {cs : List Value} {v : Value} (h : Own m0 m u n cs v) : ∀ b ∈ vb v, m0.next ≤ b := by
  cases h with
  | nil => intro b hb; simp [vb] at hb
  | «at» hb hb2 hn hm hl hcs h1 => intro b' hb'; simp [vb] at hb'; subst hb'; exact hb

structure OwnQ (m0 mb m : Mem) (q u n : Nat) (cs : List Value) (v : Value) : Prop where
  own : Own m0 m u n cs v
  upd : Upd mb m [q]
  at_ : ∀ b ∈ vb v, b = q ∨ mb.next ≤ b
  ext : Ext m0 m

variable {m0 mb m m' : Mem} {q u n : Nat} {cs : List Value} {v : Value}
theorem OwnQ.keep (h : OwnQ m0 mb m q u n cs v) (hx : Ext m m') : OwnQ m0 mb m' q u n cs v :=
  ⟨h.own.keep hx, h.upd.trans hx.upd (fun _ h => h) (fun _ h => .inl h), h.at_, h.ext.trans hx⟩

theorem OwnQ.app {by_ : Nat} {es : List Value} (h : OwnQ m0 mb m q u n cs v) (hu : 0 < u) (he : es.length = u) (h1 : oneCells es = true) (hby : (n + 1) * by_ ≤ 2 ^ 47) (hn : n + 1 < 2 ^ 62) :
    ∃ v' m', aApp none u by_ (m.new (.cells es (some u))) v (.slice (some ⟨m.next, 0, none⟩) 1 1) = some (v', m') ∧ OwnQ m0 mb m' q u (n + 1) (cs ++ es) v' := by
  obtain ⟨v', m', e1, e2, e3⟩ := h.own.app (by_ := by_) h.ext hu he h1 hby hn
  have hx : Ext m (m.new (.cells es (some u))) := Ext.new
  obtain ⟨a1, a2, a3⟩ := app_updA (M := (m.new (.cells es (some u))).next) e1 (fun k hk => by cases hk) (Nat.le_refl _)
  refine ⟨v', m', e1, e2, ?_, fun b hb => ?_, e3⟩
  · have hk := h.keep hx
    refine ⟨Nat.le_trans hk.upd.next a1, fun b hb hn => ?_⟩
    have hb2 := hk.upd.next
    rw [a2 b (by omega) (fun hm => by exact (h.at_ b hm).elim (fun e => hn (by simp [e])) (fun e => by omega)), hk.upd.same b hb hn]
  · have := h.upd.next
    have := hx.next
    rcases a3 with e | ⟨k, e, hk⟩
    · rw [e] at hb; exact h.at_ b hb
    · rw [e] at hb; simp at hb; subst hb; exact .inr (by omega)

theorem OwnQ.put {w : Value} {k : IntKind} {i o : Nat} (h : OwnQ m0 mb m q u n cs v) (hi : i < n) (ho : o < u) (hw : w.cells = #[w]) (hone : w.oneCell' = true) :
    ∃ b m', aIdxS u v (.int k i) = some (.pointer (some ⟨b, i * u, none⟩)) ∧ aStore 1 m (.pointer (some ⟨b, i * u + o, none⟩)) w = some m' ∧ OwnQ m0 mb m' q u n (cs.set (i * u + o) w) v := by
  obtain ⟨b, m', e1, e2, e3, e4⟩ := h.own.put (k := k) h.ext hi ho hw hone
  refine ⟨b, m', e1, e2, e3, ?_, h.at_, e4⟩
  have hbv : b ∈ vb v := by
    cases h.own with
    | nil h hc => omega
    | @«at» b2 c all hb hb2 hn hm hl hcs h1 =>
      simp only [aIdxS] at e1
      split at e1
      · have e1 := Option.some.inj e1
        simp only [Value.pointer.injEq, Option.some.injEq, Addr.mk.injEq] at e1
        rw [← e1.1]; simp [vb]
      · cases e1
  have hw' : aWrite m b (i * u + o) w.cells.toList = some m' := by
    simp only [aStore] at e2
    split at e2
    · exact e2
    · cases e2
  obtain ⟨a1, a2⟩ := aWrite_upd hw'
  refine ⟨by have := h.upd.next; omega, fun x hx hn => ?_⟩
  have := h.upd.next
  rw [a1.same x (by omega) (by simp; intro e; subst e; exact (h.at_ x hbv).elim (fun e => hn (by simp [e])) (fun e => by omega)), h.upd.same x hx hn]
end Go.Am


/- OrderW over the table of ledgerz (relayset.py). -/
set_option linter.unusedVariables false
set_option linter.unusedSimpArgs false
namespace Go.Am
variable {m : Mem}

theorem step1 {i : Nat} (h : i < 1000000) : IntKind.wrap .i64 ((i : Int) + 1) = ((i + 1 : Nat) : Int) := by rw [wrap_i64 (by omega) (by omega)]; rfl

theorem fixAdd {a b : Int} (ha : inR a) (hb : inR b) : WC R F.fixq_Add [.int .i64 a, .int .i64 b] m fun v m' => ((inR (a + b) ∧ v = .tuple #[.int .i64 (a + b), .int .i64 0]) ∨ (¬ inR (a + b) ∧ v = .tuple #[.int .i64 0, .int .i64 5])) ∧ m' = m := by
  refine WC.of R.fixq_Add rfl ?_
  have hw : (inR (a + b) ∧ IntKind.wrap .i64 (a + b) = a + b) ∨ (9223372036854775808 ≤ a + b ∧ IntKind.wrap .i64 (a + b) = a + b - 18446744073709551616) ∨ (a + b ≤ -9223372036854775809 ∧ IntKind.wrap .i64 (a + b) = a + b + 18446744073709551616) := by
    unfold inR at ha hb
    by_cases h1 : a + b ≤ 9223372036854775807
    · by_cases h2 : -9223372036854775808 ≤ a + b
      · exact .inl ⟨⟨h2, h1⟩, wrap_i64 h2 h1⟩
      · exact .inr (.inr ⟨by omega, wrap_lo (by omega) (by omega)⟩)
    · exact .inr (.inl ⟨by omega, wrap_hi (by omega) (by omega)⟩)
  generalize hc : IntKind.wrap .i64 (a + b) = c at hw
  unfold inR at *
  simp only [RC.fixq_Add, go_sem]
  have t1 : (true == false) = false := rfl
  have t2 : (false == true) = false := rfl
  have t3 : (true == true) = true := rfl
  have t4 : (false == false) = true := rfl
  by_cases h1 : 0 ≤ a <;> by_cases h2 : 0 ≤ b <;> by_cases h3 : 0 ≤ c <;> simp only [go_sem, hc, h1, h2, h3, decide_true, decide_false, t1, t2, t3, t4]
  all_goals rcases hw with ⟨hr, e⟩ | ⟨hr, e⟩ | ⟨hr, e⟩
  all_goals first
    | (exfalso; omega)
    | (refine .inl ⟨by omega, ?_⟩; rw [e])
    | (refine .inr ⟨by omega, ?_⟩; first | rfl | trivial)
    | (omega)
    | trace_state

theorem totO_drop {l : List Sp} {i : Nat} (hi : i < l.length) {n : Int} : totO n (l.drop i) = if inR (n + l[i].2) then totO (n + l[i].2) (l.drop (i + 1)) else none := by
  rw [List.drop_eq_getElem_cons hi]; rfl

theorem orTotal {l : List Sp} {v : Value} (hs : Sl m 2 l.length (l.flatMap spV) v) (hb : SlLt m v) (hl : l.length < 100000) (hr : ∀ w ∈ l, inR w.2) :
    WC R F.order_Total [v] m fun r m' => ((∃ n, totO 0 l = some n ∧ r = .tuple #[.int .i64 n, .int .i64 0]) ∨ (totO 0 l = none ∧ r = .tuple #[.int .i64 0, .int .i64 5])) ∧ Ext m m' := by
  refine WC.of R.order_Total rfl ?_
  simp only [RC.order_Total, go_sem, hs.len]
  refine WL.of (fun k e m' => ∃ (i : Nat) (n : Int), i ≤ l.length ∧ k = l.length - i ∧ e = [(4, .int .i64 n), (9, v), (10, .int .i64 l.length), (11, .int .i64 i)] ∧ inR n ∧ totO 0 l = totO n (l.drop i) ∧ Ext m m') l.length
    ⟨0, 0, by omega, by omega, by simp only [go_sem] <;> rfl, by unfold inR; omega, rfl, Ext.refl _⟩ ?_
  rintro _ _ m1 ⟨i, n, hi, rfl, rfl, hn, ht, hx⟩
  simp only [RB.order_Total_1, go_sem]
  refine gT.of (fun g1' => ?_) (fun g1' => ?_) <;> (have g1 := g1'; try simp only [decide_eq_true_eq, decide_eq_false_iff_not, beq_iff_eq, bne_iff_ne, beq_eq_false_iff_ne, ne_eq, Bool.not_eq_true', Bool.not_eq_false', bne_eq_false_iff_eq, Int.not_lt, Int.not_le] at g1)
  · have hil : i < l.length := by omega
    have s1 := step1 (show i < 1000000 by omega)
    obtain ⟨p, o, a1, a2, -, -⟩ := (hs.keep hb hx).elem spV_len (k := .i64) hil
    have hri := hr _ (List.getElem_mem hil)
    rw [totO_drop hil] at ht
    simp only [go_sem, g1', a1, a2]
    generalize l[i] = w at hri ht ⊢
    have hst : aStore 2 (m1.new (.cells [(.int .i64 0), (.int .i64 0)] (some 2))) (.pointer (some ⟨m1.next, 0, none⟩)) (.agg (spV w).toArray) = some (m1.new (.cells [.int .i64 w.1, .int .i64 w.2] (some 2))) := by
      simp only [spV]
      simp only [go_sem, ruB]
    simp only [go_sem, hst]
    have hxx : Ext m1 (m1.new (.cells [.int .i64 w.1, .int .i64 w.2] (some 2))) := Ext.new
    have hbx : Bk (m1.new (.cells [.int .i64 w.1, .int .i64 w.2] (some 2))) m1.next [.int .i64 w.1, .int .i64 w.2] 2 := Bk.new
    generalize m1.new (.cells [.int .i64 w.1, .int .i64 w.2] (some 2)) = m2 at hbx hxx ⊢
    have c2 : aLoad false 1 m2 (.pointer (some ⟨m1.next, 1, none⟩)) = some (.int .i64 w.2) := by simp only [go_sem, ruB, hbx.at_]
    simp only [go_sem, c2]
    refine gC.of (fixAdd hn hri) ?_
    rintro _ _ ⟨⟨h1, rfl⟩ | ⟨h1, rfl⟩, hm⟩ <;> subst hm
    · rw [if_pos h1] at ht
      have e0 : ((0 : Int) != 0) = false := rfl
      simp only [go_sem, aExt0, aExt1, e0, s1]
      exact ⟨l.length - (i + 1), by omega, i + 1, n + w.2, by omega, rfl, rfl, h1, ht, hx.trans hxx⟩
    · rw [if_neg h1] at ht
      have e0 : ((5 : Int) != 0) = true := rfl
      simp only [go_sem, aExt0, aExt1, e0]
      exact ⟨.inr ht, hx.trans hxx⟩
  · have : i = l.length := by omega
    subst this
    rw [List.drop_length] at ht
    simp only [go_sem, g1']
    exact ⟨.inl ⟨n, ht, rfl⟩, hx⟩
end Go.Am


/- RosterW7 over the table of ledgerz (relayset.py). -/
set_option linter.unusedVariables false
set_option linter.unusedSimpArgs false
namespace Go.Am
open Classical
variable {m : Mem}

def cntT (T : List (Int × Tk)) (k : Int) : Nat := T.countP fun q => decide (q.2.grp = k)
structure RsWf (s : Rs) : Prop where
  k : KeyOk s
  ti : ∀ p ∈ s.T, p.2.id = p.1
  gi : ∀ p ∈ s.G, p.2.id = p.1
  mem : ∀ p ∈ s.G, p.2.mem = ((cntT s.T p.1 : Nat) : Int)
  grp : ∀ p ∈ s.T, p.2.grp ≠ 0 → p.2.grp ∈ kys s.G
  sh0 : ∀ p ∈ s.T, p.2.grp = 0 → 1 ≤ p.2.share ∧ p.2.share ≤ 64 ∧ p.2.weight = 0 ∧ p.2.cap = 0
  sh1 : ∀ p ∈ s.T, p.2.grp ≠ 0 → p.2.share = 0 ∧ 1 ≤ p.2.weight ∧ p.2.weight ≤ 1000 ∧ 0 ≤ p.2.cap ∧ p.2.cap ≤ 64
  gsh : ∀ p ∈ s.G, 1 ≤ p.2.share ∧ p.2.share ≤ 64
  fr : 2 ≤ s.f ∧ s.f ≤ 64
theorem RsWf.memOk {s : Rs} (h : RsWf s) : memOk s := fun k g hg => by
  have h1 := h.mem _ (lkp_some hg)
  have h2 : cntT s.T k ≤ s.T.length := List.countP_le_length
  have h3 := h.k.tl
  simp only at h1
  omega
theorem sortI_mem {l : List Int} {x : Int} : x ∈ sortI l ↔ x ∈ l := sortI_perm.mem_iff
theorem tasksL_mem {s : Rs} (h : RsWf s) {t : Tk} (ht : t ∈ tasksL s) : (t.id, t) ∈ s.T := by
  obtain ⟨x, hx, rfl⟩ := List.mem_map.1 ht
  have hx := sortI_mem.1 hx
  obtain ⟨p, hp, rfl⟩ := List.mem_map.1 hx
  have := lkp_mem h.k.tn (x := p.1) (a := p.2) hp
  rw [this, Option.getD_some, h.ti p hp]; exact hp
theorem groupsL_mem {s : Rs} (h : RsWf s) {g : Gp} (hg : g ∈ groupsL s) : (g.id, g) ∈ s.G := by
  obtain ⟨x, hx, rfl⟩ := List.mem_map.1 hg
  have hx := sortI_mem.1 hx
  obtain ⟨p, hp, rfl⟩ := List.mem_map.1 hx
  have := lkp_mem h.k.gn (x := p.1) (a := p.2) hp
  rw [this, Option.getD_some, h.gi p hp]; exact hp

def unitT (l : List Tk) : List Sp := (l.filter fun t => decide (t.grp = 0)).map fun t => (t.id, t.share)
def unitG (l : List Gp) : List Sp := l.map fun g => (1000 + g.id, g.share)
def unitsR (s : Rs) : List Sp := unitT (tasksL s) ++ unitG (groupsL s)
theorem unitT_len {l : List Tk} : (unitT l).length ≤ l.length := by unfold unitT; rw [List.length_map]; exact List.length_filter_le ..
theorem unitT_take {l : List Tk} {i : Nat} (h : i < l.length) : unitT (l.take (i + 1)) = unitT (l.take i) ++ if l[i].grp = 0 then [(l[i].id, l[i].share)] else [] := by
  unfold unitT
  rw [List.take_succ_eq_append_getElem h, List.filter_append, List.map_append]
  by_cases e : l[i].grp = 0 <;> simp [e]
theorem unitG_take {l : List Gp} {i : Nat} (h : i < l.length) : unitG (l.take (i + 1)) = unitG (l.take i) ++ [(1000 + l[i].id, l[i].share)] := by
  unfold unitG
  rw [List.take_succ_eq_append_getElem h, List.map_append]; rfl
theorem unitsR_len {s : Rs} (h : RsWf s) : (unitsR s).length ≤ 136 := by
  unfold unitsR
  have h1 := unitT_len (l := tasksL s)
  have h2 : (unitG (groupsL s)).length = (groupsL s).length := by unfold unitG; rw [List.length_map]
  rw [List.length_append, h2]
  rw [tasksL_len] at h1
  rw [groupsL_len]
  have := h.k.tl; have := h.k.gl; omega

set_option maxHeartbeats 1000000 in
theorem Units_spec {b q1 q2 : Nat} {s : Rs} (h : RosV m b q1 q2 s) (hk : RsWf s) : WC R F.roster_Roster_Units [pt b] m fun r m' => Own m m' 2 (unitsR s).length ((unitsR s).flatMap spV) r ∧ Ext m m' := by
  refine WC.of R.roster_Roster_Units rfl ?_
  simp only [RC.roster_Roster_Units, pt, go_sem]
  refine gC.of (Tasks_spec h hk.k) ?_
  rintro w m1 ⟨ho, hx1⟩
  have h1 := h.keep hx1
  have hs := ho.sl
  have hlt := ho.lt
  have hle := tasksL_len (s := s)
  have htl := hk.k.tl
  have hgl := hk.k.gl
  have hgle := groupsL_len (s := s)
  have hgm : ∀ g ∈ groupsL s, 1 ≤ g.id ∧ g.id ≤ 40 := fun g hg => hk.k.gr _ (List.mem_map.2 ⟨_, groupsL_mem hk hg, rfl⟩)
  unfold unitsR
  generalize tasksL s = U at *
  try simp only [go_sem, ruB, hs.len]
  refine WL.mono (Q := fun y e m' => y = .exit 0 ∧ ∃ z rs, e = (0, pt b) :: (3, z) :: rs ∧ Own m1 m' 2 (unitT U).length ((unitT U).flatMap spV) z ∧ Ext m1 m') ?_ ?_
  · refine WL.of (fun k e m' => ∃ (i : Nat) (z : Value), i ≤ U.length ∧ k = U.length - i ∧ e = [(0, pt b), (3, z), (9, w), (10, .int .i64 ((U.length : Nat) : Int)), (11, .int .i64 ((i : Nat) : Int))] ∧ Own m1 m' 2 (unitT (U.take i)).length ((unitT (U.take i)).flatMap spV) z ∧ Ext m1 m') U.length
      ⟨0, _, by omega, by omega, by simp only [go_sem] <;> rfl, .nil rfl rfl, Ext.refl _⟩ ?_
    rintro _ _ m2 ⟨i, z, hi, rfl, rfl, hz, hx2⟩
    have hs2 := hs.keep hlt hx2
    simp only [RB.roster_Roster_Units_2, pt, go_sem]
    have s1 := st1 (show i < 1000000 by omega)
    by_cases g1 : i < U.length
    · have e1 : decide (((i : Nat) : Int) < ((U.length : Nat) : Int)) = true := decide_eq_true (by omega)
      obtain ⟨bb, oo, a1, a2, -, -⟩ := hs2.elem tkV_len (k := .i64) g1
      have hut := unitT_take g1
      have hul := unitT_len (l := U.take i)
      rw [List.length_take] at hul
      generalize U[i] = t at *
      simp only [tkV] at a2
      try simp only [go_sem, ruB, e1, a1, a2]
      have hx3 : Ext m2 (m2.new (.cells [.int .i64 t.id, .int .i64 t.grp, .int .i64 t.share, .int .i64 t.weight, .int .i64 t.cap, .bool t.off] (some 6))) := Ext.new
      have hb3 : Bk (m2.new (.cells [.int .i64 t.id, .int .i64 t.grp, .int .i64 t.share, .int .i64 t.weight, .int .i64 t.cap, .bool t.off] (some 6))) m2.next [.int .i64 t.id, .int .i64 t.grp, .int .i64 t.share, .int .i64 t.weight, .int .i64 t.cap, .bool t.off] 6 := Bk.new
      generalize m2.new (.cells [.int .i64 t.id, .int .i64 t.grp, .int .i64 t.share, .int .i64 t.weight, .int .i64 t.cap, .bool t.off] (some 6)) = m3 at hx3 hb3 ⊢
      try simp only [go_sem, ruB, hb3.at_]
      have hz3 := hz.keep hx3
      have hx13 := hx2.trans hx3
      by_cases g2 : t.grp = 0
      · have e2 : (t.grp == 0) = true := by rw [beq_iff_eq]; exact g2
        rw [if_pos g2] at hut
        obtain ⟨v', m4, p1, p2, p3⟩ := hz3.app (by_ := 16) (es := spV (t.id, t.share)) hx13 (by omega) rfl rfl (by omega) (by omega)
        simp only [spV] at p1
        try simp only [go_sem, ruB, e2, hb3.at_, p1, s1]
        refine ⟨U.length - (i + 1), by omega, i + 1, v', by omega, rfl, rfl, ?_, p3⟩
        rw [hut, List.length_append, List.flatMap_append]
        simpa using p2
      · have e2 : (t.grp == 0) = false := by rw [beq_eq_false_iff_ne]; exact g2
        rw [if_neg g2, List.append_nil] at hut
        try simp only [go_sem, ruB, e2, s1]
        refine ⟨U.length - (i + 1), by omega, i + 1, z, by omega, rfl, rfl, ?_, hx13⟩
        rw [hut]; exact hz3
    · have e1 : decide (((i : Nat) : Int) < ((U.length : Nat) : Int)) = false := decide_eq_false (by omega)
      have hi2 : i = U.length := by omega
      subst hi2
      rw [List.take_length] at hz
      try simp only [go_sem, ruB, e1]
      exact ⟨z, _, rfl, hz, hx2⟩
  rintro _ _ m2 ⟨rfl, z0, rs, rfl, hz0, hx2⟩
  have h2 := h1.keep hx2
  simp only [pt]
  try simp only [go_sem, ruB]
  refine gC.of (Groups_spec h2 hk.k) ?_
  rintro w' m3 ⟨ho', hx3⟩
  have hs' := ho'.sl
  have hlt' := ho'.lt
  have hz3 := hz0.keep hx3
  have hx13 := hx2.trans hx3
  generalize groupsL s = V at *
  have hut0 := unitT_len (l := U)
  try simp only [go_sem, ruB, hs'.len]
  have hge3 := ho'.ge
  refine WL.of (fun k e m' => ∃ (i : Nat) (z : Value), i ≤ V.length ∧ k = V.length - i ∧ e = [(3, z), (28, w'), (29, .int .i64 ((V.length : Nat) : Int)), (30, .int .i64 ((i : Nat) : Int))] ∧ Own m1 m' 2 (unitT U ++ unitG (V.take i)).length ((unitT U ++ unitG (V.take i)).flatMap spV) z ∧ Ext m1 m' ∧ Sl m' 3 V.length (V.flatMap gpV) w' ∧ SlLt m' w' ∧ (∀ x ∈ vb w', x ∉ vb z)) V.length
    ⟨0, z0, by omega, by omega, by simp only [go_sem] <;> rfl, by simpa [unitG] using hz3, hx13, hs', hlt', fun x hm hx => by have := SlLt.vb_iff.1 hz0.lt x hx; have := hge3 x hm; omega⟩ ?_
  rintro _ _ m4 ⟨i, z, hi, rfl, rfl, hz, hx4, hs4, hlw, hoff⟩
  simp only [RB.roster_Roster_Units_1, go_sem]
  have s1 := st1 (show i < 1000000 by omega)
  by_cases g1 : i < V.length
  · have e1 : decide (((i : Nat) : Int) < ((V.length : Nat) : Int)) = true := decide_eq_true (by omega)
    obtain ⟨bb, oo, a1, a2, -, -⟩ := hs4.elem gpV_len (k := .i64) g1
    have hut := unitG_take g1
    have hid := hgm _ (List.getElem_mem g1)
    have hul : (unitG (V.take i)).length = i := by unfold unitG; rw [List.length_map, List.length_take]; omega
    generalize V[i] = g at *
    simp only [gpV] at a2
    have hw : IntKind.wrap .i64 (1000 + g.id) = 1000 + g.id := wrap_i64 (by omega) (by omega)
    try simp only [go_sem, ruB, e1, a1, a2]
    have hx5 : Ext m4 (m4.new (.cells [.int .i64 g.id, .int .i64 g.share, .int .i64 g.mem] (some 3))) := Ext.new
    have hb5 : Bk (m4.new (.cells [.int .i64 g.id, .int .i64 g.share, .int .i64 g.mem] (some 3))) m4.next [.int .i64 g.id, .int .i64 g.share, .int .i64 g.mem] 3 := Bk.new
    have hn5 : (m4.new (.cells [.int .i64 g.id, .int .i64 g.share, .int .i64 g.mem] (some 3))).next = m4.next + 1 := rfl
    generalize m4.new (.cells [.int .i64 g.id, .int .i64 g.share, .int .i64 g.mem] (some 3)) = m5 at hx5 hb5 hn5 ⊢
    have hz5 := hz.keep hx5
    have hx15 := hx4.trans hx5
    obtain ⟨v', m6, p1, p2, p3⟩ := hz5.app (by_ := 16) (es := spV (1000 + g.id, g.share)) hx15 (by omega) rfl rfl (by rw [List.length_append, hul]; omega) (by rw [List.length_append, hul]; omega)
    obtain ⟨a1', a2', a3'⟩ := app_updA (M := (m5.new (.cells (spV (1000 + g.id, g.share)) (some 2))).next) p1 (fun k hk => by cases hk) (Nat.le_refl _)
    have hx6 : Ext m4 (m5.new (.cells (spV (1000 + g.id, g.share)) (some 2))) := hx5.trans Ext.new
    have hU6 : Upd (m5.new (.cells (spV (1000 + g.id, g.share)) (some 2))) m6 (vb z) := ⟨a1', fun c hc hn => a2' c hc hn⟩
    have hs6 := (hs4.keep hlw hx6).upd (hlw.keep hx6) (SlOff.vb_iff.2 hoff) hU6
    have hl6 := (hlw.keep hx6).upd hU6
    have hoff6 : ∀ x ∈ vb w', x ∉ vb v' := fun x hx hm => by
      rcases a3' with e | ⟨k, e, hk⟩
      · rw [e] at hm; exact hoff x hx hm
      · rw [e] at hm
        simp at hm
        have := SlLt.vb_iff.1 (hlw.keep hx6) x hx
        omega
    simp only [spV] at p1
    rw [hn5] at p1
    try simp only [go_sem, ruB, hb5.at_, hw, p1, s1]
    refine ⟨V.length - (i + 1), by omega, i + 1, v', by omega, rfl, rfl, ?_, p3, hs6, hl6, hoff6⟩
    rw [hut, ← List.append_assoc, List.length_append, List.flatMap_append]
    simpa using p2
  · have e1 : decide (((i : Nat) : Int) < ((V.length : Nat) : Int)) = false := decide_eq_false (by omega)
    have hi2 : i = V.length := by omega
    subst hi2
    rw [List.take_length] at hz
    try simp only [go_sem, ruB, e1]
    exact ⟨hz.weak hx1, hx1.trans hx4⟩

/-! ### all together -/
def shSumR (l : List Sp) : Int := (l.map Prod.snd).sum
theorem totO_sum : ∀ {l : List Sp} {n : Int}, (∀ w ∈ l, 0 ≤ w.2 ∧ w.2 ≤ 64) → 0 ≤ n → n + 64 * l.length ≤ 1000000000 → totO n l = some (n + shSumR l)
  | [], n, _, _, _ => by simp [totO, shSumR]
  | w :: l, n, h, h0, h1 => by
    have hw := h w (by simp)
    rw [List.length_cons] at h1
    have ih := totO_sum (l := l) (n := n + w.2) (fun x hx => h x (by simp [hx])) (by omega) (by omega)
    unfold totO
    rw [if_pos (by unfold inR; omega), ih]
    congr 1
    simp only [shSumR, List.map_cons, List.sum_cons]; omega
theorem unitsR_sh {s : Rs} (h : RsWf s) : ∀ w ∈ unitsR s, 1 ≤ w.2 ∧ w.2 ≤ 64 := by
  intro w hw
  unfold unitsR at hw
  rcases List.mem_append.1 hw with hw | hw
  · obtain ⟨t, ht, rfl⟩ := List.mem_map.1 hw
    obtain ⟨h1, h2⟩ := List.mem_filter.1 ht
    have := h.sh0 _ (tasksL_mem h h1) (by simpa using h2)
    exact ⟨this.1, this.2.1⟩
  · obtain ⟨g, hg, rfl⟩ := List.mem_map.1 hw
    exact h.gsh _ (groupsL_mem h hg)
theorem Total_spec {b q1 q2 : Nat} {s : Rs} (h : RosV m b q1 q2 s) (hk : RsWf s) : WC R F.roster_Roster_Total [pt b] m fun r m' => r = .int .i64 (shSumR (unitsR s)) ∧ Ext m m' := by
  refine WC.of R.roster_Roster_Total rfl ?_
  simp only [RC.roster_Roster_Total, pt, go_sem]
  refine gC.of (Units_spec h hk) ?_
  rintro w m1 ⟨ho, hx1⟩
  have hsh := unitsR_sh hk
  have hl := unitsR_len hk
  have hsum := totO_sum (l := unitsR s) (n := 0) (fun w hw => by have := hsh w hw; omega) (by omega) (by omega)
  try simp only [go_sem, ruB]
  refine gC.of (orTotal ho.sl ho.lt (by omega) (fun w hw => by have := hsh w hw; unfold inR; omega)) ?_
  rintro r m2 ⟨⟨n, hn, rfl⟩ | ⟨hn, -⟩, hx2⟩
  · rw [hsum, Int.zero_add] at hn
    cases hn
    try simp only [go_sem, ruB, aExt0, aExt1]
    exact hx1.trans hx2
  · rw [hsum] at hn; cases hn
end Go.Am


/- RosterP1 over the table of ledgerz (relayset.py). -/
set_option linter.unusedVariables false
set_option linter.unusedSimpArgs false
namespace Go.Am
open Classical

theorem kys_upd_eq {α : Type} {L : List (Int × α)} {x : Int} {a : α} (h : x ∈ kys L) : kys (updL L x a) = kys L := by
  induction L with
  | nil => simp [kys] at h
  | cons p r ih =>
    obtain ⟨k, b⟩ := p
    unfold updL
    by_cases e : k = x
    · subst e; rw [if_pos rfl]; rfl
    · rw [if_neg e]
      simp only [kys, List.map_cons, List.mem_cons] at h ⊢
      have := ih (h.resolve_left fun e' => e e'.symm)
      simp only [kys] at this
      rw [this]
theorem mem_kys_upd {α : Type} {L : List (Int × α)} (hn : (kys L).Nodup) {x y : Int} {a : α} : y ∈ kys (updL L x a) ↔ y ∈ kys L ∨ y = x := by
  unfold kys
  simp only [List.mem_map, mem_upd hn]
  constructor
  · rintro ⟨p, ⟨hp, -⟩ | rfl, rfl⟩
    · exact .inl ⟨p, hp, rfl⟩
    · exact .inr rfl
  · rintro (⟨p, hp, rfl⟩ | rfl)
    · by_cases e : p.1 = x
      · exact ⟨(x, a), .inr rfl, e.symm⟩
      · exact ⟨p, .inl ⟨hp, e⟩, rfl⟩
    · exact ⟨_, .inr rfl, rfl⟩
theorem mem_kys_del {α : Type} {L : List (Int × α)} (hn : (kys L).Nodup) {x y : Int} : y ∈ kys (delL L x) ↔ y ∈ kys L ∧ y ≠ x := by rw [delL_eq hn]; exact mem_kys_out
theorem updL_same {α : Type} {L : List (Int × α)} {x : Int} {a : α} (h : lkp L x = some a) : updL L x a = L := by
  induction L with
  | nil => cases h
  | cons p r ih =>
    obtain ⟨k, b⟩ := p
    simp only [lkp] at h
    unfold updL
    by_cases e : k = x
    · rw [if_pos e] at h ⊢; cases h; rw [e]
    · rw [if_neg e] at h ⊢; rw [ih h]
theorem updL_len {α : Type} {L : List (Int × α)} {x : Int} {a : α} : (updL L x a).length = if x ∈ kys L then L.length else L.length + 1 := by
  by_cases h : x ∈ kys L
  · rw [if_pos h]
    have := congrArg List.length (kys_upd_eq (a := a) h)
    simpa [kys] using this
  · rw [if_neg h]
    have : lkp L x = none := lkp_not h
    clear h
    induction L with
    | nil => rfl
    | cons p r ih =>
      obtain ⟨k, b⟩ := p
      simp only [lkp] at this
      unfold updL
      by_cases e : k = x
      · rw [if_pos e] at this; cases this
      · rw [if_neg e] at this ⊢; simp [ih this]
theorem delL_len {α : Type} {L : List (Int × α)} {x : Int} : (delL L x).length ≤ L.length := by
  induction L with
  | nil => exact Nat.le_refl _
  | cons p r ih =>
    obtain ⟨k, b⟩ := p
    unfold delL
    split
    · simp
    · simp; exact ih
theorem range_card {l : List Int} {n : Nat} (hn : l.Nodup) (h : ∀ x ∈ l, 1 ≤ x ∧ x ≤ (n : Int)) : l.length ≤ n := by
  have h2 : ∀ x ∈ l, x ∈ (List.range n).map fun i : Nat => ((i + 1 : Nat) : Int) := fun x hx => List.mem_map.2 ⟨(x - 1).toNat, List.mem_range.2 (by have := h x hx; omega), by have := h x hx; omega⟩
  have := List.Nodup.length_le_of_subset hn h2
  rwa [List.length_map, List.length_range] at this

/-! ### counts -/
theorem cnt_upd {T : List (Int × Tk)} (hn : (kys T).Nodup) {id k : Int} {t : Tk} : cntT (updL T id t) k = cntT (outK T id) k + if t.grp = k then 1 else 0 := by
  unfold cntT
  rw [(updL_perm hn).countP_eq, List.countP_append, List.countP_singleton]
  simp only [decide_eq_true_eq]
theorem cnt_old {T : List (Int × Tk)} (hn : (kys T).Nodup) {id k : Int} {t : Tk} (h : lkp T id = some t) : cntT T k = cntT (outK T id) k + if t.grp = k then 1 else 0 := by
  rw [← cnt_upd hn, updL_same h]
theorem cnt_new {T : List (Int × Tk)} {id k : Int} (h : id ∉ kys T) : cntT (outK T id) k = cntT T k := by rw [outK_not h]
theorem cnt_zero {T : List (Int × Tk)} {k : Int} : cntT T k = 0 ↔ ∀ p ∈ T, p.2.grp ≠ k := by
  unfold cntT
  rw [List.countP_eq_zero]
  constructor
  · intro h p hp e; exact h p hp (by simpa using e)
  · intro h p hp e; exact h p hp (by simpa using e)
theorem mem_cntU {G : List (Int × Gp)} (hn : (kys G).Nodup) {k by_ : Int} {p : Int × Gp} (h : p ∈ cntU G k by_) : ∃ g, (p.1, g) ∈ G ∧ p.2.id = g.id ∧ p.2.share = g.share ∧ p.2.mem = g.mem + if p.1 = k then by_ else 0 := by
  unfold cntU at h
  cases hk : lkp G k with
  | none =>
    rw [hk] at h
    have : p.1 ≠ k := fun e => lkp_none hk (by rw [← e]; exact List.mem_map.2 ⟨p, h, rfl⟩)
    exact ⟨p.2, h, rfl, rfl, by rw [if_neg this]; omega⟩
  | some g =>
    rw [hk] at h
    rcases (mem_upd hn).1 h with ⟨h, hne⟩ | rfl
    · exact ⟨p.2, h, rfl, rfl, by rw [if_neg hne]; omega⟩
    · exact ⟨g, lkp_some hk, rfl, rfl, by rw [if_pos rfl]⟩
theorem kys_cntU {G : List (Int × Gp)} {k by_ : Int} : kys (cntU G k by_) = kys G := by
  unfold cntU
  cases hk : lkp G k with
  | none => rfl
  | some g => exact kys_upd_eq (List.mem_map.2 ⟨_, lkp_some hk, rfl⟩)
theorem cntU_len {G : List (Int × Gp)} {k by_ : Int} : (cntU G k by_).length = G.length := by
  have := congrArg List.length (kys_cntU (G := G) (k := k) (by_ := by_))
  simpa [kys] using this

/-- A task as it may be. -/
structure TkOk (s : Rs) (t : Tk) : Prop where
  id : 1 ≤ t.id ∧ t.id ≤ 200
  grp : t.grp ≠ 0 → t.grp ∈ kys s.G
  sh0 : t.grp = 0 → 1 ≤ t.share ∧ t.share ≤ 64 ∧ t.weight = 0 ∧ t.cap = 0
  sh1 : t.grp ≠ 0 → t.share = 0 ∧ 1 ≤ t.weight ∧ t.weight ≤ 1000 ∧ 0 ≤ t.cap ∧ t.cap ≤ 64
theorem RsWf.tk {s : Rs} (h : RsWf s) {id : Int} {t : Tk} (ht : lkp s.T id = some t) : TkOk s t ∧ t.id = id := by
  have hm := lkp_some ht
  have hi := h.ti _ hm
  exact ⟨⟨by rw [hi]; exact h.k.tr _ (List.mem_map.2 ⟨_, hm, rfl⟩), h.grp _ hm, h.sh0 _ hm, h.sh1 _ hm⟩, hi⟩

/-- A task put there, groups' counts mended. -/
theorem RsWf.put {s : Rs} (h : RsWf s) {id : Int} {t : Tk} (hid : t.id = id) (hok : TkOk s t) (hlen : (updL s.T id t).length ≤ 96) {G' : List (Int × Gp)} (hkg : kys G' = kys s.G)
    (hg : ∀ p ∈ G', ∃ g, (p.1, g) ∈ s.G ∧ p.2.id = g.id ∧ p.2.share = g.share ∧ p.2.mem = ((cntT (updL s.T id t) p.1 : Nat) : Int)) : RsWf ⟨s.f, updL s.T id t, G'⟩ := by
  have hgl : G'.length = s.G.length := by have := congrArg List.length hkg; simpa [kys] using this
  refine ⟨⟨kys_upd h.k.tn, by show (kys G').Nodup; rw [hkg]; exact h.k.gn, fun x hx => ?_, fun x hx => h.k.gr x (by rw [← hkg]; exact hx), hlen, by show G'.length ≤ 40; rw [hgl]; exact h.k.gl⟩, ?_, ?_, ?_, ?_, ?_, ?_, ?_, h.fr⟩
  · rcases (mem_kys_upd h.k.tn).1 hx with hx | rfl
    · exact h.k.tr x hx
    · have := hok.id; omega
  · intro p hp
    rcases (mem_upd h.k.tn).1 hp with ⟨hp, -⟩ | rfl
    · exact h.ti p hp
    · exact hid
  · intro p hp
    obtain ⟨g, a, b, -⟩ := hg p hp
    rw [b]; exact h.gi _ a
  · intro p hp
    obtain ⟨g, a, b, c, d⟩ := hg p hp
    exact d
  · intro p hp hne
    show p.2.grp ∈ kys G'
    rw [hkg]
    rcases (mem_upd h.k.tn).1 hp with ⟨hp, -⟩ | rfl
    · exact h.grp p hp hne
    · exact hok.grp hne
  · intro p hp he
    rcases (mem_upd h.k.tn).1 hp with ⟨hp, -⟩ | rfl
    · exact h.sh0 p hp he
    · exact hok.sh0 he
  · intro p hp he
    rcases (mem_upd h.k.tn).1 hp with ⟨hp, -⟩ | rfl
    · exact h.sh1 p hp he
    · exact hok.sh1 he
  · intro p hp
    obtain ⟨g, a, b, c, -⟩ := hg p hp
    rw [c]; exact h.gsh _ a
end Go.Am
