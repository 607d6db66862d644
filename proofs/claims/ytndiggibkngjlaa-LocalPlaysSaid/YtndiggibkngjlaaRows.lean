/-
  No cell of these rows narrows 'for every input' (looked for: loops, veiled, ifaces, maps, wideKeys, modest, calm, conditions, laid).
  DERIVED. THE GIVEN ROWS OF THIS SEAT. 5 by the template 'for every input the law returns true; each argument reads behind the call as it read before'; 0 by the template 'total and deterministic' (their statements: YtndiggibkngjlaaTotals.lean).
  GIVEN WITH THE SEED: the statements are not yours to turn. If you find one false, say at which input.
  Laid BY PROGRAM, IN A SANDBOX (cutbox-rows.mjs): the forced cells as the released guide's own fill.sh prints them over the translation 330bc3e85207d146… (all of the seat's roots in one cut). By AI agents, Wed Nov 11 2026. No macro, syntax, notation, axiom, sorry.
-/
import Derived.Test.YtndiggibkngjlaaChecked
import GoSem.Claim
import GoSem.ClaimJoined
import GoSem.ClaimMapViews
import Derived.JoinedTies
import Derived.KernelRfl
namespace Go.Proofs.Ytndiggibkngjlaa
/- THE CELL 'sum', in the pinned program and in every row, IS THE sha256 OF THE DUMP (.gsa) THAT YtndiggibkngjlaaProg.lean LOADS. Nothing in Lean hashes anything: it is a label: what it is worth is what the hold of that sum in a sandbox is worth. -/
noncomputable def Try.pinned : Pinned := { name := "ytndiggibkngjlaa", sum := "330bc3e85207d146a86f326b4c6b666c85a13c0dfb14b3f638e29c145307a418", checked := Try.checked }
namespace Rows
def none {H : Type} : Left H := { results := [], args := [] }

/-- 'dogwatchlaw15.LocalPromised': WHATEVER THE INPUT: true; the input reads as it did. -/
def localPromisedSpec : ChangeSpec := { name := "localPromised", fn := fun _ => fun
  | [d1, d2, d3, d4] => { results := [.lit (.bool true)], args := [d1, d2, d3, d4] }
  | _ => none }
def localPromisedRow : OpenClaim := { program := "ytndiggibkngjlaa", sum := "330bc3e85207d146a86f326b4c6b666c85a13c0dfb14b3f638e29c145307a418", func := "dogwatch/dogwatchlaw15.LocalPromised", spec := "localPromised", unfollowed := true, recurses := true, apart := false }
def LocalPromisedSaid : Prop := localPromisedRow.holds Try.pinned (OpenSpec.ofChange localPromisedSpec)

/-- ITS FALSE NEIGHBOUR: 'it returns false'. Refute it at one input. -/
def localPromisedWrong : ChangeSpec := { name := "localPromised", fn := fun _ => fun
  | [d1, d2, d3, d4] => { results := [.lit (.bool false)], args := [d1, d2, d3, d4] }
  | _ => none }
def LocalPromisedWrongFalsely : Prop := localPromisedRow.holds Try.pinned (OpenSpec.ofChange localPromisedWrong)

/-- 'dogwatchlaw15.LocalJust': WHATEVER THE INPUT: true; the input reads as it did. -/
def localJustSpec : ChangeSpec := { name := "localJust", fn := fun _ => fun
  | [d1, d2] => { results := [.lit (.bool true)], args := [d1, d2] }
  | _ => none }
def localJustRow : OpenClaim := { program := "ytndiggibkngjlaa", sum := "330bc3e85207d146a86f326b4c6b666c85a13c0dfb14b3f638e29c145307a418", func := "dogwatch/dogwatchlaw15.LocalJust", spec := "localJust", unfollowed := true, recurses := true, apart := false }
def LocalJustSaid : Prop := localJustRow.holds Try.pinned (OpenSpec.ofChange localJustSpec)

/-- ITS FALSE NEIGHBOUR: 'it returns false'. Refute it at one input. -/
def localJustWrong : ChangeSpec := { name := "localJust", fn := fun _ => fun
  | [d1, d2] => { results := [.lit (.bool false)], args := [d1, d2] }
  | _ => none }
def LocalJustWrongFalsely : Prop := localJustRow.holds Try.pinned (OpenSpec.ofChange localJustWrong)

/-- 'dogwatchlaw15.LocalRest': WHATEVER THE INPUT: true; the input reads as it did. -/
def localRestSpec : ChangeSpec := { name := "localRest", fn := fun _ => fun
  | [d1, d2, d3] => { results := [.lit (.bool true)], args := [d1, d2, d3] }
  | _ => none }
def localRestRow : OpenClaim := { program := "ytndiggibkngjlaa", sum := "330bc3e85207d146a86f326b4c6b666c85a13c0dfb14b3f638e29c145307a418", func := "dogwatch/dogwatchlaw15.LocalRest", spec := "localRest", unfollowed := true, recurses := true, apart := false }
def LocalRestSaid : Prop := localRestRow.holds Try.pinned (OpenSpec.ofChange localRestSpec)

/-- ITS FALSE NEIGHBOUR: 'it returns false'. Refute it at one input. -/
def localRestWrong : ChangeSpec := { name := "localRest", fn := fun _ => fun
  | [d1, d2, d3] => { results := [.lit (.bool false)], args := [d1, d2, d3] }
  | _ => none }
def LocalRestWrongFalsely : Prop := localRestRow.holds Try.pinned (OpenSpec.ofChange localRestWrong)

/-- 'dogwatchlaw15.LocalPlays': WHATEVER THE INPUT: true; the input reads as it did. -/
def localPlaysSpec : ChangeSpec := { name := "localPlays", fn := fun _ => fun
  | [d1, d2, d3, d4] => { results := [.lit (.bool true)], args := [d1, d2, d3, d4] }
  | _ => none }
def localPlaysRow : OpenClaim := { program := "ytndiggibkngjlaa", sum := "330bc3e85207d146a86f326b4c6b666c85a13c0dfb14b3f638e29c145307a418", func := "dogwatch/dogwatchlaw15.LocalPlays", spec := "localPlays", unfollowed := true, recurses := true, apart := false }
def LocalPlaysSaid : Prop := localPlaysRow.holds Try.pinned (OpenSpec.ofChange localPlaysSpec)

/-- ITS FALSE NEIGHBOUR: 'it returns false'. Refute it at one input. -/
def localPlaysWrong : ChangeSpec := { name := "localPlays", fn := fun _ => fun
  | [d1, d2, d3, d4] => { results := [.lit (.bool false)], args := [d1, d2, d3, d4] }
  | _ => none }
def LocalPlaysWrongFalsely : Prop := localPlaysRow.holds Try.pinned (OpenSpec.ofChange localPlaysWrong)

/-- 'dogwatchlaw15.LocalNobody': WHATEVER THE INPUT: true; the input reads as it did. -/
def localNobodySpec : ChangeSpec := { name := "localNobody", fn := fun _ => fun
  | [d] => { results := [.lit (.bool true)], args := [d] }
  | _ => none }
def localNobodyRow : OpenClaim := { program := "ytndiggibkngjlaa", sum := "330bc3e85207d146a86f326b4c6b666c85a13c0dfb14b3f638e29c145307a418", func := "dogwatch/dogwatchlaw15.LocalNobody", spec := "localNobody", unfollowed := true, recurses := true, apart := false }
def LocalNobodySaid : Prop := localNobodyRow.holds Try.pinned (OpenSpec.ofChange localNobodySpec)

/-- ITS FALSE NEIGHBOUR: 'it returns false'. Refute it at one input. -/
def localNobodyWrong : ChangeSpec := { name := "localNobody", fn := fun _ => fun
  | [d] => { results := [.lit (.bool false)], args := [d] }
  | _ => none }
def LocalNobodyWrongFalsely : Prop := localNobodyRow.holds Try.pinned (OpenSpec.ofChange localNobodyWrong)

/- THE SECOND FORM. 'bulk': how many values and letters a reading holds, each counted each time it is reached (what is shared counts as often as it is met; a slice's spare places count too). A statement '..UptoSaid' is the law's where the arguments, and the package variables that the reading takes, are together of bulk at most 1048576: NARROWER than '..Said'. Prove '..Said' where nothing that the law and all that it calls make is longer than what came in: it says more and counts as full. Else prove '..UptoSaid'. A law counts once. -/
mutual
def uptoBulk {H : Type} : DataW H → Nat
  | .lit (.string bytes) => bytes.length + 1
  | .lit _ => 1
  | .nil => 1
  | .ptr d => uptoBulk d + 1
  | .slice elems spare => uptoBulkAll elems + uptoBulkAll spare + 1
  | .agg parts => uptoBulkAll parts + 1
  | .iface _ d => uptoBulk d + 1
  | .map entries => uptoBulkEntries entries + 1
  | .held _ => 1
def uptoBulkAll {H : Type} : List (DataW H) → Nat
  | [] => 0
  | d :: r => uptoBulk d + uptoBulkAll r
def uptoBulkEntries {H : Type} : List (Lit × DataW H) → Nat
  | [] => 0
  | x :: r => uptoBulkEntry x + uptoBulkEntries r
def uptoBulkEntry {H : Type} : Lit × DataW H → Nat
  | (.string bytes, d) => bytes.length + uptoBulk d + 1
  | (_, d) => uptoBulk d + 1
 end
def uptoSmall : (H : Type) → List (DataW H) → Bool := fun _ ds => decide (uptoBulkAll ds ≤ 1048576)
def OpenSpec.upto (s : _root_.Go.ChangeSpec) : _root_.Go.OpenSpec := { _root_.Go.OpenSpec.ofChange s with cond := some uptoSmall }

/-- 'dogwatchlaw15.LocalPromised', WHERE WHAT IT READS IS OF BULK AT MOST 1048576: true; the input reads as it did. -/
def localPromisedUptoRow : OpenClaim := { program := "ytndiggibkngjlaa", sum := "330bc3e85207d146a86f326b4c6b666c85a13c0dfb14b3f638e29c145307a418", func := "dogwatch/dogwatchlaw15.LocalPromised", spec := "localPromised", unfollowed := true, recurses := true, apart := false, narrowed := true }
def LocalPromisedUptoSaid : Prop := localPromisedUptoRow.holds Try.pinned (OpenSpec.upto localPromisedSpec)

/-- 'dogwatchlaw15.LocalJust', WHERE WHAT IT READS IS OF BULK AT MOST 1048576: true; the input reads as it did. -/
def localJustUptoRow : OpenClaim := { program := "ytndiggibkngjlaa", sum := "330bc3e85207d146a86f326b4c6b666c85a13c0dfb14b3f638e29c145307a418", func := "dogwatch/dogwatchlaw15.LocalJust", spec := "localJust", unfollowed := true, recurses := true, apart := false, narrowed := true }
def LocalJustUptoSaid : Prop := localJustUptoRow.holds Try.pinned (OpenSpec.upto localJustSpec)

/-- 'dogwatchlaw15.LocalRest', WHERE WHAT IT READS IS OF BULK AT MOST 1048576: true; the input reads as it did. -/
def localRestUptoRow : OpenClaim := { program := "ytndiggibkngjlaa", sum := "330bc3e85207d146a86f326b4c6b666c85a13c0dfb14b3f638e29c145307a418", func := "dogwatch/dogwatchlaw15.LocalRest", spec := "localRest", unfollowed := true, recurses := true, apart := false, narrowed := true }
def LocalRestUptoSaid : Prop := localRestUptoRow.holds Try.pinned (OpenSpec.upto localRestSpec)

/-- 'dogwatchlaw15.LocalPlays', WHERE WHAT IT READS IS OF BULK AT MOST 1048576: true; the input reads as it did. -/
def localPlaysUptoRow : OpenClaim := { program := "ytndiggibkngjlaa", sum := "330bc3e85207d146a86f326b4c6b666c85a13c0dfb14b3f638e29c145307a418", func := "dogwatch/dogwatchlaw15.LocalPlays", spec := "localPlays", unfollowed := true, recurses := true, apart := false, narrowed := true }
def LocalPlaysUptoSaid : Prop := localPlaysUptoRow.holds Try.pinned (OpenSpec.upto localPlaysSpec)

/-- 'dogwatchlaw15.LocalNobody', WHERE WHAT IT READS IS OF BULK AT MOST 1048576: true; the input reads as it did. -/
def localNobodyUptoRow : OpenClaim := { program := "ytndiggibkngjlaa", sum := "330bc3e85207d146a86f326b4c6b666c85a13c0dfb14b3f638e29c145307a418", func := "dogwatch/dogwatchlaw15.LocalNobody", spec := "localNobody", unfollowed := true, recurses := true, apart := false, narrowed := true }
def LocalNobodyUptoSaid : Prop := localNobodyUptoRow.holds Try.pinned (OpenSpec.upto localNobodySpec)

end Rows
end Go.Proofs.Ytndiggibkngjlaa
