/-
  No cell of these rows narrows 'for every input' (looked for: loops, veiled, ifaces, maps, wideKeys, modest, calm, conditions, laid).
  DERIVED. THE GIVEN ROWS OF THIS SEAT. 3 by the template 'for every input the law returns true; each argument reads behind the call as it read before'; 0 by the template 'total and deterministic' (their statements: YtihdbinkjokbjaaTotals.lean).
  GIVEN WITH THE SEED: the statements are not yours to turn. If you find one false, say at which input.
  Laid BY PROGRAM, IN A SANDBOX (cutbox-rows.mjs): the forced cells as the released guide's own fill.sh prints them over the translation 5726f03e15afbce1… (all of the seat's roots in one cut). By AI agents, Wed Nov 11 2026. No macro, syntax, notation, axiom, sorry.
-/
import Derived.Test.YtihdbinkjokbjaaChecked
import GoSem.Claim
import GoSem.ClaimJoined
import GoSem.ClaimMapViews
import Derived.JoinedTies
import Derived.KernelRfl
namespace Go.Proofs.Ytihdbinkjokbjaa
/- THE CELL 'sum', in the pinned program and in every row, IS THE sha256 OF THE DUMP (.gsa) THAT YtihdbinkjokbjaaProg.lean LOADS. Nothing in Lean hashes anything: it is a label: what it is worth is what the hold of that sum in a sandbox is worth. -/
noncomputable def Try.pinned : Pinned := { name := "ytihdbinkjokbjaa", sum := "5726f03e15afbce1f2d685dafc1f1a2555aa6c0f032cd8ebf87ebd7818254d6a", checked := Try.checked }
namespace Rows
def none {H : Type} : Left H := { results := [], args := [] }

/-- 'dogwatchlaw21.WeaveMost': WHATEVER THE INPUT: true; the input reads as it did. -/
def weaveMostSpec : ChangeSpec := { name := "weaveMost", fn := fun _ => fun
  | [d] => { results := [.lit (.bool true)], args := [d] }
  | _ => none }
def weaveMostRow : OpenClaim := { program := "ytihdbinkjokbjaa", sum := "5726f03e15afbce1f2d685dafc1f1a2555aa6c0f032cd8ebf87ebd7818254d6a", func := "dogwatch/dogwatchlaw21.WeaveMost", spec := "weaveMost", unfollowed := true, recurses := true, apart := false }
def WeaveMostSaid : Prop := weaveMostRow.holds Try.pinned (OpenSpec.ofChange weaveMostSpec)

/-- ITS FALSE NEIGHBOUR: 'it returns false'. Refute it at one input. -/
def weaveMostWrong : ChangeSpec := { name := "weaveMost", fn := fun _ => fun
  | [d] => { results := [.lit (.bool false)], args := [d] }
  | _ => none }
def WeaveMostWrongFalsely : Prop := weaveMostRow.holds Try.pinned (OpenSpec.ofChange weaveMostWrong)

/-- 'dogwatchlaw21.WeavePlaces': WHATEVER THE INPUT: true; the input reads as it did. -/
def weavePlacesSpec : ChangeSpec := { name := "weavePlaces", fn := fun _ => fun
  | [d1, d2] => { results := [.lit (.bool true)], args := [d1, d2] }
  | _ => none }
def weavePlacesRow : OpenClaim := { program := "ytihdbinkjokbjaa", sum := "5726f03e15afbce1f2d685dafc1f1a2555aa6c0f032cd8ebf87ebd7818254d6a", func := "dogwatch/dogwatchlaw21.WeavePlaces", spec := "weavePlaces", unfollowed := true, recurses := true, apart := false }
def WeavePlacesSaid : Prop := weavePlacesRow.holds Try.pinned (OpenSpec.ofChange weavePlacesSpec)

/-- ITS FALSE NEIGHBOUR: 'it returns false'. Refute it at one input. -/
def weavePlacesWrong : ChangeSpec := { name := "weavePlaces", fn := fun _ => fun
  | [d1, d2] => { results := [.lit (.bool false)], args := [d1, d2] }
  | _ => none }
def WeavePlacesWrongFalsely : Prop := weavePlacesRow.holds Try.pinned (OpenSpec.ofChange weavePlacesWrong)

/-- 'dogwatchlaw21.WeaveFits': WHATEVER THE INPUT: true; the input reads as it did. -/
def weaveFitsSpec : ChangeSpec := { name := "weaveFits", fn := fun _ => fun
  | [d1, d2] => { results := [.lit (.bool true)], args := [d1, d2] }
  | _ => none }
def weaveFitsRow : OpenClaim := { program := "ytihdbinkjokbjaa", sum := "5726f03e15afbce1f2d685dafc1f1a2555aa6c0f032cd8ebf87ebd7818254d6a", func := "dogwatch/dogwatchlaw21.WeaveFits", spec := "weaveFits", unfollowed := true, recurses := true, apart := false }
def WeaveFitsSaid : Prop := weaveFitsRow.holds Try.pinned (OpenSpec.ofChange weaveFitsSpec)

/-- ITS FALSE NEIGHBOUR: 'it returns false'. Refute it at one input. -/
def weaveFitsWrong : ChangeSpec := { name := "weaveFits", fn := fun _ => fun
  | [d1, d2] => { results := [.lit (.bool false)], args := [d1, d2] }
  | _ => none }
def WeaveFitsWrongFalsely : Prop := weaveFitsRow.holds Try.pinned (OpenSpec.ofChange weaveFitsWrong)

/- THE SECOND FORM. 'bulk': how many values and letters a reading holds, each counted each time it is reached (what is shared counts as often as it is met; a slice's spare places count too). A statement '..UptoSaid' is the law's where the arguments, and the package variables that the reading takes, are together of bulk at most 1048576: NARROWER than '..Said'. Prove '..Said' where nothing that the law and all that it calls make is longer than what came in: it says more and counts as full. Else prove '..UptoSaid'. A law counts once. -/
mutual
def uptoBulk {H : Type} : DataW H → Nat
  | .lit (.string bytes) => bytes.length + 1
  | .lit _ => 1
  | .nil => 1
  | .ptr d => uptoBulk d + 1
  | .slice elems spare => uptoBulkAll elems + uptoBulkAll spare + 1
  | .agg parts => uptoBulkAll parts + 1
  | .iface _ d => uptoBulk d + 1
  | .map entries => uptoBulkEntries entries + 1
  | .held _ => 1
def uptoBulkAll {H : Type} : List (DataW H) → Nat
  | [] => 0
  | d :: r => uptoBulk d + uptoBulkAll r
def uptoBulkEntries {H : Type} : List (Lit × DataW H) → Nat
  | [] => 0
  | x :: r => uptoBulkEntry x + uptoBulkEntries r
def uptoBulkEntry {H : Type} : Lit × DataW H → Nat
  | (.string bytes, d) => bytes.length + uptoBulk d + 1
  | (_, d) => uptoBulk d + 1
 end
def uptoSmall : (H : Type) → List (DataW H) → Bool := fun _ ds => decide (uptoBulkAll ds ≤ 1048576)
def OpenSpec.upto (s : _root_.Go.ChangeSpec) : _root_.Go.OpenSpec := { _root_.Go.OpenSpec.ofChange s with cond := some uptoSmall }

/-- 'dogwatchlaw21.WeaveMost', WHERE WHAT IT READS IS OF BULK AT MOST 1048576: true; the input reads as it did. -/
def weaveMostUptoRow : OpenClaim := { program := "ytihdbinkjokbjaa", sum := "5726f03e15afbce1f2d685dafc1f1a2555aa6c0f032cd8ebf87ebd7818254d6a", func := "dogwatch/dogwatchlaw21.WeaveMost", spec := "weaveMost", unfollowed := true, recurses := true, apart := false, narrowed := true }
def WeaveMostUptoSaid : Prop := weaveMostUptoRow.holds Try.pinned (OpenSpec.upto weaveMostSpec)

/-- 'dogwatchlaw21.WeavePlaces', WHERE WHAT IT READS IS OF BULK AT MOST 1048576: true; the input reads as it did. -/
def weavePlacesUptoRow : OpenClaim := { program := "ytihdbinkjokbjaa", sum := "5726f03e15afbce1f2d685dafc1f1a2555aa6c0f032cd8ebf87ebd7818254d6a", func := "dogwatch/dogwatchlaw21.WeavePlaces", spec := "weavePlaces", unfollowed := true, recurses := true, apart := false, narrowed := true }
def WeavePlacesUptoSaid : Prop := weavePlacesUptoRow.holds Try.pinned (OpenSpec.upto weavePlacesSpec)

/-- 'dogwatchlaw21.WeaveFits', WHERE WHAT IT READS IS OF BULK AT MOST 1048576: true; the input reads as it did. -/
def weaveFitsUptoRow : OpenClaim := { program := "ytihdbinkjokbjaa", sum := "5726f03e15afbce1f2d685dafc1f1a2555aa6c0f032cd8ebf87ebd7818254d6a", func := "dogwatch/dogwatchlaw21.WeaveFits", spec := "weaveFits", unfollowed := true, recurses := true, apart := false, narrowed := true }
def WeaveFitsUptoSaid : Prop := weaveFitsUptoRow.holds Try.pinned (OpenSpec.upto weaveFitsSpec)

end Rows
end Go.Proofs.Ytihdbinkjokbjaa
