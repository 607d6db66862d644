/-
  No cell of these rows narrows 'for every input' (looked for: loops, veiled, ifaces, maps, wideKeys, modest, calm, conditions, laid).
  DERIVED. THE GIVEN ROWS OF THIS SEAT. 4 by the template 'for every input the law returns true; each argument reads behind the call as it read before'; 0 by the template 'total and deterministic' (their statements: YtdnifbijbegomaaTotals.lean).
  GIVEN WITH THE SEED: the statements are not yours to turn. If you find one false, say at which input.
  Laid BY PROGRAM, IN A SANDBOX (cutbox-rows.mjs): the forced cells as the released guide's own fill.sh prints them over the translation 46e12d11aebc9692… (all of the seat's roots in one cut). By AI agents, Wed Nov 11 2026. No macro, syntax, notation, axiom, sorry.
-/
import Derived.Test.YtdnifbijbegomaaChecked
import GoSem.Claim
import GoSem.ClaimJoined
import GoSem.ClaimMapViews
import Derived.JoinedTies
import Derived.KernelRfl
namespace Go.Proofs.Ytdnifbijbegomaa
/- THE CELL 'sum', in the pinned program and in every row, IS THE sha256 OF THE DUMP (.gsa) THAT YtdnifbijbegomaaProg.lean LOADS. Nothing in Lean hashes anything: it is a label: what it is worth is what the hold of that sum in a sandbox is worth. -/
noncomputable def Try.pinned : Pinned := { name := "ytdnifbijbegomaa", sum := "46e12d11aebc969232c004f94800ef04f1cfeefd8a20e44c0f52d60a17b15b0d", checked := Try.checked }
namespace Rows
def none {H : Type} : Left H := { results := [], args := [] }

/-- 'dogwatchlaw05.SpansGaps': WHATEVER THE INPUT: true; the input reads as it did. -/
def spansGapsSpec : ChangeSpec := { name := "spansGaps", fn := fun _ => fun
  | [d1, d2, d3] => { results := [.lit (.bool true)], args := [d1, d2, d3] }
  | _ => none }
def spansGapsRow : OpenClaim := { program := "ytdnifbijbegomaa", sum := "46e12d11aebc969232c004f94800ef04f1cfeefd8a20e44c0f52d60a17b15b0d", func := "dogwatch/dogwatchlaw05.SpansGaps", spec := "spansGaps", unfollowed := true, recurses := true, apart := false }
def SpansGapsSaid : Prop := spansGapsRow.holds Try.pinned (OpenSpec.ofChange spansGapsSpec)

/-- ITS FALSE NEIGHBOUR: 'it returns false'. Refute it at one input. -/
def spansGapsWrong : ChangeSpec := { name := "spansGaps", fn := fun _ => fun
  | [d1, d2, d3] => { results := [.lit (.bool false)], args := [d1, d2, d3] }
  | _ => none }
def SpansGapsWrongFalsely : Prop := spansGapsRow.holds Try.pinned (OpenSpec.ofChange spansGapsWrong)

/-- 'dogwatchlaw05.SpansNorm': WHATEVER THE INPUT: true; the input reads as it did. -/
def spansNormSpec : ChangeSpec := { name := "spansNorm", fn := fun _ => fun
  | [d1, d2] => { results := [.lit (.bool true)], args := [d1, d2] }
  | _ => none }
def spansNormRow : OpenClaim := { program := "ytdnifbijbegomaa", sum := "46e12d11aebc969232c004f94800ef04f1cfeefd8a20e44c0f52d60a17b15b0d", func := "dogwatch/dogwatchlaw05.SpansNorm", spec := "spansNorm", unfollowed := true, recurses := true, apart := false }
def SpansNormSaid : Prop := spansNormRow.holds Try.pinned (OpenSpec.ofChange spansNormSpec)

/-- ITS FALSE NEIGHBOUR: 'it returns false'. Refute it at one input. -/
def spansNormWrong : ChangeSpec := { name := "spansNorm", fn := fun _ => fun
  | [d1, d2] => { results := [.lit (.bool false)], args := [d1, d2] }
  | _ => none }
def SpansNormWrongFalsely : Prop := spansNormRow.holds Try.pinned (OpenSpec.ofChange spansNormWrong)

/-- 'dogwatchlaw05.SpansBoth': WHATEVER THE INPUT: true; the input reads as it did. -/
def spansBothSpec : ChangeSpec := { name := "spansBoth", fn := fun _ => fun
  | [d1, d2] => { results := [.lit (.bool true)], args := [d1, d2] }
  | _ => none }
def spansBothRow : OpenClaim := { program := "ytdnifbijbegomaa", sum := "46e12d11aebc969232c004f94800ef04f1cfeefd8a20e44c0f52d60a17b15b0d", func := "dogwatch/dogwatchlaw05.SpansBoth", spec := "spansBoth", unfollowed := true, recurses := true, apart := false }
def SpansBothSaid : Prop := spansBothRow.holds Try.pinned (OpenSpec.ofChange spansBothSpec)

/-- ITS FALSE NEIGHBOUR: 'it returns false'. Refute it at one input. -/
def spansBothWrong : ChangeSpec := { name := "spansBoth", fn := fun _ => fun
  | [d1, d2] => { results := [.lit (.bool false)], args := [d1, d2] }
  | _ => none }
def SpansBothWrongFalsely : Prop := spansBothRow.holds Try.pinned (OpenSpec.ofChange spansBothWrong)

/-- 'dogwatchlaw05.SpansParts': WHATEVER THE INPUT: true; the input reads as it did. -/
def spansPartsSpec : ChangeSpec := { name := "spansParts", fn := fun _ => fun
  | [d1, d2] => { results := [.lit (.bool true)], args := [d1, d2] }
  | _ => none }
def spansPartsRow : OpenClaim := { program := "ytdnifbijbegomaa", sum := "46e12d11aebc969232c004f94800ef04f1cfeefd8a20e44c0f52d60a17b15b0d", func := "dogwatch/dogwatchlaw05.SpansParts", spec := "spansParts", unfollowed := true, recurses := true, apart := false }
def SpansPartsSaid : Prop := spansPartsRow.holds Try.pinned (OpenSpec.ofChange spansPartsSpec)

/-- ITS FALSE NEIGHBOUR: 'it returns false'. Refute it at one input. -/
def spansPartsWrong : ChangeSpec := { name := "spansParts", fn := fun _ => fun
  | [d1, d2] => { results := [.lit (.bool false)], args := [d1, d2] }
  | _ => none }
def SpansPartsWrongFalsely : Prop := spansPartsRow.holds Try.pinned (OpenSpec.ofChange spansPartsWrong)

/- THE SECOND FORM. 'bulk': how many values and letters a reading holds, each counted each time it is reached (what is shared counts as often as it is met; a slice's spare places count too). A statement '..UptoSaid' is the law's where the arguments, and the package variables that the reading takes, are together of bulk at most 1048576: NARROWER than '..Said'. Prove '..Said' where nothing that the law and all that it calls make is longer than what came in: it says more and counts as full. Else prove '..UptoSaid'. A law counts once. -/
mutual
def uptoBulk {H : Type} : DataW H → Nat
  | .lit (.string bytes) => bytes.length + 1
  | .lit _ => 1
  | .nil => 1
  | .ptr d => uptoBulk d + 1
  | .slice elems spare => uptoBulkAll elems + uptoBulkAll spare + 1
  | .agg parts => uptoBulkAll parts + 1
  | .iface _ d => uptoBulk d + 1
  | .map entries => uptoBulkEntries entries + 1
  | .held _ => 1
def uptoBulkAll {H : Type} : List (DataW H) → Nat
  | [] => 0
  | d :: r => uptoBulk d + uptoBulkAll r
def uptoBulkEntries {H : Type} : List (Lit × DataW H) → Nat
  | [] => 0
  | x :: r => uptoBulkEntry x + uptoBulkEntries r
def uptoBulkEntry {H : Type} : Lit × DataW H → Nat
  | (.string bytes, d) => bytes.length + uptoBulk d + 1
  | (_, d) => uptoBulk d + 1
 end
def uptoSmall : (H : Type) → List (DataW H) → Bool := fun _ ds => decide (uptoBulkAll ds ≤ 1048576)
def OpenSpec.upto (s : _root_.Go.ChangeSpec) : _root_.Go.OpenSpec := { _root_.Go.OpenSpec.ofChange s with cond := some uptoSmall }

/-- 'dogwatchlaw05.SpansGaps', WHERE WHAT IT READS IS OF BULK AT MOST 1048576: true; the input reads as it did. -/
def spansGapsUptoRow : OpenClaim := { program := "ytdnifbijbegomaa", sum := "46e12d11aebc969232c004f94800ef04f1cfeefd8a20e44c0f52d60a17b15b0d", func := "dogwatch/dogwatchlaw05.SpansGaps", spec := "spansGaps", unfollowed := true, recurses := true, apart := false, narrowed := true }
def SpansGapsUptoSaid : Prop := spansGapsUptoRow.holds Try.pinned (OpenSpec.upto spansGapsSpec)

/-- 'dogwatchlaw05.SpansNorm', WHERE WHAT IT READS IS OF BULK AT MOST 1048576: true; the input reads as it did. -/
def spansNormUptoRow : OpenClaim := { program := "ytdnifbijbegomaa", sum := "46e12d11aebc969232c004f94800ef04f1cfeefd8a20e44c0f52d60a17b15b0d", func := "dogwatch/dogwatchlaw05.SpansNorm", spec := "spansNorm", unfollowed := true, recurses := true, apart := false, narrowed := true }
def SpansNormUptoSaid : Prop := spansNormUptoRow.holds Try.pinned (OpenSpec.upto spansNormSpec)

/-- 'dogwatchlaw05.SpansBoth', WHERE WHAT IT READS IS OF BULK AT MOST 1048576: true; the input reads as it did. -/
def spansBothUptoRow : OpenClaim := { program := "ytdnifbijbegomaa", sum := "46e12d11aebc969232c004f94800ef04f1cfeefd8a20e44c0f52d60a17b15b0d", func := "dogwatch/dogwatchlaw05.SpansBoth", spec := "spansBoth", unfollowed := true, recurses := true, apart := false, narrowed := true }
def SpansBothUptoSaid : Prop := spansBothUptoRow.holds Try.pinned (OpenSpec.upto spansBothSpec)

/-- 'dogwatchlaw05.SpansParts', WHERE WHAT IT READS IS OF BULK AT MOST 1048576: true; the input reads as it did. -/
def spansPartsUptoRow : OpenClaim := { program := "ytdnifbijbegomaa", sum := "46e12d11aebc969232c004f94800ef04f1cfeefd8a20e44c0f52d60a17b15b0d", func := "dogwatch/dogwatchlaw05.SpansParts", spec := "spansParts", unfollowed := true, recurses := true, apart := false, narrowed := true }
def SpansPartsUptoSaid : Prop := spansPartsUptoRow.holds Try.pinned (OpenSpec.upto spansPartsSpec)

end Rows
end Go.Proofs.Ytdnifbijbegomaa
