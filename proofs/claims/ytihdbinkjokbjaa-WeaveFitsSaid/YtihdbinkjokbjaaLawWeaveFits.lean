/- The statement WeaveFits holds: for every input the Go function answers true, returns, and leaves its arguments as they were. Conditions: none beyond the given row. -/
import Derived.Test.YtihdbinkjokbjaaWeaveFitsPart5
import Derived.Test.YtihdbinkjokbjaaWeaveFitsPart7
import Derived.WalkKit
import Derived.ProofKit
import Derived.OpenShut
import Derived.ChangeOld
import Derived.Carry
import Derived.SizedLaws
namespace Go.Proofs.Ytihdbinkjokbjaa.weaveFits
open Go.ChangeShapes Go.WideShapes Go.ChangeAt Go.RowKit Go.Am
set_option linter.unusedVariables false
set_option maxRecDepth 100000
theorem own : ownKnob Try.prog.godebug = none := by kernel_rfl
theorem laidOut : laidOutB Try.prog = true := by kernel_rfl
theorem params : Try.f5.params.toList = [25, 35] := by kernel_rfl
theorem shapes : argShs Try.prog [25, 35] = some [(true, [.int .i64, .int .u32, .sl [.int .i64, .int .i64, .int .i64, .sl [.int .i64, .int .u64]]]), (true, [.int .i64, .int .i64])] := by kernel_rfl
theorem read_ : rowsReadable Try.prog [25, 35] = true := by kernel_rfl

theorem contract (H : Type) (enc : TypeId × Value → H) (W : World) (base : Nat) (args : Array Value) (ds gs : List (DataW H)) (before : List MemPlace)
    (hval : ∀ (j : Nat) t v, Try.f5.params[j]? = some t → args[j]? = some v → Value.okWide Try.prog W .any base t v)
    (hW : DataW.Whole enc Try.prog Try.f5.params.toList Rows.weaveFitsSpec.vars false W args.toList ds gs before) (hG : G W.heap.size W) :
    Calls Try.prog 5 args W fun e W' => ∃ v, e = .returned v ∧ Rows.weaveFitsSpec.post enc Try.prog Try.f5 false true false false W args v W' := by
  have hW' := hW
  obtain ⟨p, q, hA0, hV, rfl, hfz, hnd⟩ := hW
  have hA : DataW.TrodAll enc Try.prog W 0 (fun _ => true) true Try.f5.params.toList args.toList ds p := hA0
  clear hA0
  rw [params] at hA
  obtain ⟨rfl, rfl⟩ := trodVars_none hV
  have hdl := trodAll_length hA
  obtain ⟨d0, d1, rfl⟩ : ∃ d0 d1, ds = [d0, d1] := by
    match ds, hdl with
    | [d0, d1], _ => exact ⟨d0, d1, rfl⟩
  have call := law_holds (P := Try.prog) hmix tabOk shapes law21_WeaveFits_walk hG hA (fun j t v x y => hval j t v (by rw [← Array.getElem?_toList, params]; exact x) y)
  unfold F.law21_WeaveFits at call
  refine call.mono fun e W' ⟨he, bel⟩ => ?_
  subst he
  have hA2 := trodAll_below laidOut read_ hA bel
  rw [← params] at hA2
  exact ⟨_, rfl, _, _, _, [], _, [], hW', trodAll_mk1 (shut_bool Try.underlying4 _), hA2, rfl, bel.frame _, fun h => by cases h⟩

theorem lifted (os : Os) (started : os.Started) (H : Type) (enc : TypeId × Value → H) :
    ReturnsInHanded {} Try.checked os 5 .any (Rows.weaveFitsSpec.pre6 enc Try.prog Try.f5 Rows.weaveFitsRow.domain false) (Rows.weaveFitsSpec.post enc Try.prog Try.f5 false true false false) := by
  refine returnsInHanded_of_change_sized (C := Try.checked) own started (by kernel_rfl) Try.func5
    (ChangeSpec.witness6 (enc := enc) (C := Try.checked) false ⟨#[], #[.agg #[.int .i64 0, .int .u32 0, .slice none 0 0], .agg #[.int .i64 0, .int .i64 0]], []⟩ 8 (by kernel_rfl) (by kernel_rfl) (by kernel_rfl) (by kernel_rfl)) ?_
  intro W base args ds gs before hval hW _ _ _
  exact contract H enc W base args ds gs before hval hW trivial

theorem over : Rows.WeaveFitsSaid :=
  OpenClaim.holds_of_wide 5 Try.f5 rfl rfl rfl rfl rfl rfl rfl ⟨rfl, rfl, rfl, rfl, rfl⟩ rfl rfl rfl rfl rfl (by kernel_rfl) Try.func5 (by kernel_rfl)
    (of_decide_eq_true (by kernel_rfl)) (by unfold Func.isWrapper; first | (rw [if_pos (by decide +kernel)]; kernel_rfl) | (rw [if_neg (by decide +kernel)]; exact ⟨rfl, rfl⟩))
    (fun os started H enc _ => lifted os started H enc)
end Go.Proofs.Ytihdbinkjokbjaa.weaveFits
namespace Go.Proofs.Ytihdbinkjokbjaa
theorem weaveFits_holds : Rows.WeaveFitsSaid := weaveFits.over
end Go.Proofs.Ytihdbinkjokbjaa
