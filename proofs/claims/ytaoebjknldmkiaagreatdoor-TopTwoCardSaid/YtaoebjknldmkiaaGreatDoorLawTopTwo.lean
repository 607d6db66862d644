/- The statement TopTwo holds: for every input the Go function answers true, returns, and leaves its arguments as they were. Conditions: the listed package-level variable is as the program text lays it (the given tie). -/
import Derived.Test.YtaoebjknldmkiaaGreatDoorTopTwoPart5
import Derived.Test.YtaoebjknldmkiaaGreatDoorTopTwoPart7
import Derived.Test.YtaoebjknldmkiaaGreatDoorCards
import Derived.Test.YtaoebjknldmkiaaGreatDoorTie
import Derived.WalkKit
import Derived.ProofKit
import Derived.OpenShut
import Derived.ChangeOld
import Derived.Carry
import Derived.Deep.DeepHandedRow
namespace Go.Proofs.YtaoebjknldmkiaaGreatDoor.topTwo
open Go.ChangeShapes Go.WideShapes Go.ChangeAt Go.RowKit Go.Am
set_option linter.unusedVariables false
set_option maxRecDepth 100000
theorem own : ownKnob Tryz.prog.godebug = none := by kernel_rfl
theorem laidOut : laidOutB Tryz.prog = true := by kernel_rfl
theorem params : Tryz.f3.params.toList = [22] := by kernel_rfl
theorem shapes : argShs Tryz.prog [22] = some [(false, [.sl [.int .i64, .int .i64]])] := by kernel_rfl
theorem read_ : rowsReadable Tryz.prog [22] = true := by kernel_rfl

theorem contract (H : Type) (enc : TypeId × Value → H) (W : World) (base : Nat) (args : Array Value) (ds gs : List (DataW H)) (before : List MemPlace)
    (hval : ∀ (j : Nat) t v, Tryz.f3.params[j]? = some t → args[j]? = some v → Value.okWide Tryz.prog W .any base t v)
    (hW : DataW.Whole enc Tryz.prog Tryz.f3.params.toList Rows.topTwoSpec.vars false W args.toList ds gs before) (hG : G W.heap.size W) :
    Calls Tryz.prog 3 args W fun e W' => ∃ v, e = .returned v ∧ Rows.topTwoSpec.post enc Tryz.prog Tryz.f3 false true false false W args v W' := by
  have hW' := hW
  obtain ⟨p, q, hA0, hV, rfl, hfz, hnd⟩ := hW
  have hA : DataW.TrodAll enc Tryz.prog W 0 (fun _ => true) true Tryz.f3.params.toList args.toList ds p := hA0
  clear hA0
  rw [params] at hA
  obtain ⟨rfl, rfl⟩ := trodVars_none hV
  have hdl := trodAll_length hA
  obtain ⟨d0, rfl⟩ : ∃ d0, ds = [d0] := by
    match ds, hdl with
    | [d0], _ => exact ⟨d0, rfl⟩
  have call := law_holds (P := Tryz.prog) hmix tabOk shapes top_TopTwo_walk hG hA (fun j t v x y => hval j t v (by rw [← Array.getElem?_toList, params]; exact x) y)
  unfold F.top_TopTwo at call
  refine call.mono fun e W' ⟨he, bel⟩ => ?_
  subst he
  have hA2 := trodAll_below laidOut read_ hA bel
  rw [← params] at hA2
  exact ⟨_, rfl, _, _, _, [], _, [], hW', trodAll_mk1 (shut_bool Tryz.underlying4 _), hA2, rfl, bel.frame _, fun h => by cases h⟩

theorem laid_met (os : Os) : laidMet Tryz.prog Rows.topTwoRow.laid ((laidWorld os).forCall (fun _ _ => 0) ⟨#[], #[.slice none 0 0], []⟩).memory :=
  laidMet_of_run' 8 (by kernel_rfl) (by kernel_rfl)
theorem reads (os : Os) {H : Type} (enc : TypeId × Value → H) : ∃ places, DataW.whole enc Tryz.prog ((laidWorld os).forCall (fun _ _ => 0) ⟨#[], #[.slice none 0 0], []⟩).memory Tryz.f3.params.toList Rows.topTwoSpec.vars false #[.slice none 0 0].toList 8 = some ([.nil], [], places) :=
  ⟨[], by kernel_rfl⟩

theorem lifted (os : Os) (started : os.Started) (H : Type) (enc : TypeId × Value → H) (F : Stop.Interp) :
    ReturnsInHanded {} Tryz.checked os 3 .any ((OpenSpec.ofChange Rows.topTwoSpec).preRow enc Tryz.prog Tryz.f3 Rows.topTwoRow.domain false Rows.topTwoRow.laid) (((OpenSpec.ofChange Rows.topTwoSpec).at F).post enc Tryz.prog Tryz.f3 false true false false) := by
  obtain ⟨places, hx⟩ := reads os enc
  refine returnsInHanded_of_row (C := Tryz.checked) (s := OpenSpec.ofChange Rows.topTwoSpec) own started (by kernel_rfl) Tryz.func3
    (witness_row_at (enc := enc) (C := Tryz.checked) false (laidWorld os) #[.slice none 0 0] rfl (by kernel_rfl) (by kernel_rfl) (by kernel_rfl)
      (OpenSpec.preRow_of_cond 8 hx (by kernel_rfl) (fun k hk => by cases hk) (by kernel_rfl) (laid_met os))) ?_
  intro W base args ds gs before hval hW _ _ _ hL _ _
  exact contract H enc W base args ds gs before hval hW (laid_G hL)

theorem said : Rows.TopTwoSaid :=
  OpenClaim.holds_of_cond 3 Tryz.f3 rfl rfl rfl rfl rfl rfl rfl ⟨rfl, rfl, rfl, rfl, rfl⟩ rfl rfl rfl rfl rfl (by kernel_rfl) Tryz.func3 (by kernel_rfl)
    (of_decide_eq_true (by kernel_rfl)) (by unfold Func.isWrapper; first | (rw [if_pos (by decide +kernel)]; kernel_rfl) | (rw [if_neg (by decide +kernel)]; exact ⟨rfl, rfl⟩))
    (fun os started H enc _ F => by rw [OpenClaim.pre_eq_preRow]; exact lifted os started H enc F)

theorem plain (f : FuncId) (fn : Func) (hf : Tryz.pinned.checked.prog.funcNamed "dogwatch/dogwatchtop.TopTwo" = some f) (hfn : Tryz.pinned.checked.prog.funcs[f]? = some fn) :
    false = Tryz.pinned.checked.prog.looks [] ∧ ∀ (j : Nat) t, fn.params[j]? = some t → Tryz.pinned.checked.prog.wantsStandIn t = false := by
  obtain rfl : f = 3 := Option.some.inj ((show Tryz.prog.funcNamed "dogwatch/dogwatchtop.TopTwo" = some 3 by kernel_rfl).symm.trans hf) |>.symm
  obtain rfl : fn = Tryz.f3 := (Option.some.inj (Tryz.func3.symm.trans hfn)).symm
  refine ⟨by kernel_rfl, fun j t ht => ?_⟩
  have hm : t ∈ Tryz.f3.params.toList := Array.mem_toList_iff.2 (Array.mem_of_getElem? ht)
  rw [params] at hm
  have all : ([22].all fun t => !(Tryz.prog.wantsStandIn t)) = true := by kernel_rfl
  exact (by simpa using List.all_eq_true.1 all t hm : Tryz.prog.wantsStandIn t = false)

theorem card : Rows.TopTwoCardSaid :=
  Claim7.holds_tied_plain_at .later [] _ _ _ _ said (fun _ h => by cases h) (by kernel_rfl) (fun _ h => by cases h) topTwo_row_tie rfl ⟨rfl, rfl⟩ (by kernel_rfl) rfl plain (by kernel_rfl)
end Go.Proofs.YtaoebjknldmkiaaGreatDoor.topTwo
namespace Go.Proofs.YtaoebjknldmkiaaGreatDoor
theorem topTwo_holds : Rows.TopTwoCardSaid := topTwo.card
end Go.Proofs.YtaoebjknldmkiaaGreatDoor
