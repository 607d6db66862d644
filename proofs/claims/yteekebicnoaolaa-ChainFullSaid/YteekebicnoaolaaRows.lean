/-
  No cell of these rows narrows 'for every input' (looked for: loops, veiled, ifaces, maps, wideKeys, modest, calm, conditions, laid).
  DERIVED. THE GIVEN ROWS OF THIS SEAT. 3 by the template 'for every input the law returns true; each argument reads behind the call as it read before'; 0 by the template 'total and deterministic' (their statements: YteekebicnoaolaaTotals.lean).
  GIVEN WITH THE SEED: the statements are not yours to turn. If you find one false, say at which input.
  Laid BY PROGRAM, IN A SANDBOX (cutbox-rows.mjs): the forced cells as the released guide's own fill.sh prints them over the translation bad098d7f8a8fe98… (all of the seat's roots in one cut). By AI agents, Wed Nov 11 2026. No macro, syntax, notation, axiom, sorry.
-/
import Derived.Test.YteekebicnoaolaaChecked
import GoSem.Claim
import GoSem.ClaimJoined
import GoSem.ClaimMapViews
import Derived.JoinedTies
import Derived.KernelRfl
namespace Go.Proofs.Yteekebicnoaolaa
/- THE CELL 'sum', in the pinned program and in every row, IS THE sha256 OF THE DUMP (.gsa) THAT YteekebicnoaolaaProg.lean LOADS. Nothing in Lean hashes anything: it is a label: what it is worth is what the hold of that sum in a sandbox is worth. -/
noncomputable def Try.pinned : Pinned := { name := "yteekebicnoaolaa", sum := "bad098d7f8a8fe9844410edf6876c41193d76606385d06267f16470256d3b3e2", checked := Try.checked }
namespace Rows
def none {H : Type} : Left H := { results := [], args := [] }

/-- 'dogwatchlaw19.ChainSplits': WHATEVER THE INPUT: true; the input reads as it did. -/
def chainSplitsSpec : ChangeSpec := { name := "chainSplits", fn := fun _ => fun
  | [d1, d2] => { results := [.lit (.bool true)], args := [d1, d2] }
  | _ => none }
def chainSplitsRow : OpenClaim := { program := "yteekebicnoaolaa", sum := "bad098d7f8a8fe9844410edf6876c41193d76606385d06267f16470256d3b3e2", func := "dogwatch/dogwatchlaw19.ChainSplits", spec := "chainSplits", inPlace := ["slices.overlaps[dogwatch/api.Place]"], unfollowed := true, recurses := true, apart := false }
def ChainSplitsSaid : Prop := chainSplitsRow.holds Try.pinned (OpenSpec.ofChange chainSplitsSpec)

/-- ITS FALSE NEIGHBOUR: 'it returns false'. Refute it at one input. -/
def chainSplitsWrong : ChangeSpec := { name := "chainSplits", fn := fun _ => fun
  | [d1, d2] => { results := [.lit (.bool false)], args := [d1, d2] }
  | _ => none }
def ChainSplitsWrongFalsely : Prop := chainSplitsRow.holds Try.pinned (OpenSpec.ofChange chainSplitsWrong)

/-- 'dogwatchlaw19.ChainGoes': WHATEVER THE INPUT: true; the input reads as it did. -/
def chainGoesSpec : ChangeSpec := { name := "chainGoes", fn := fun _ => fun
  | [d1, d2] => { results := [.lit (.bool true)], args := [d1, d2] }
  | _ => none }
def chainGoesRow : OpenClaim := { program := "yteekebicnoaolaa", sum := "bad098d7f8a8fe9844410edf6876c41193d76606385d06267f16470256d3b3e2", func := "dogwatch/dogwatchlaw19.ChainGoes", spec := "chainGoes", inPlace := ["slices.overlaps[dogwatch/api.Place]"], unfollowed := true, recurses := true, apart := false }
def ChainGoesSaid : Prop := chainGoesRow.holds Try.pinned (OpenSpec.ofChange chainGoesSpec)

/-- ITS FALSE NEIGHBOUR: 'it returns false'. Refute it at one input. -/
def chainGoesWrong : ChangeSpec := { name := "chainGoes", fn := fun _ => fun
  | [d1, d2] => { results := [.lit (.bool false)], args := [d1, d2] }
  | _ => none }
def ChainGoesWrongFalsely : Prop := chainGoesRow.holds Try.pinned (OpenSpec.ofChange chainGoesWrong)

/-- 'dogwatchlaw19.ChainFull': WHATEVER THE INPUT: true; the input reads as it did. -/
def chainFullSpec : ChangeSpec := { name := "chainFull", fn := fun _ => fun
  | [d1, d2] => { results := [.lit (.bool true)], args := [d1, d2] }
  | _ => none }
def chainFullRow : OpenClaim := { program := "yteekebicnoaolaa", sum := "bad098d7f8a8fe9844410edf6876c41193d76606385d06267f16470256d3b3e2", func := "dogwatch/dogwatchlaw19.ChainFull", spec := "chainFull", inPlace := ["slices.overlaps[dogwatch/api.Place]"], unfollowed := true, recurses := true, apart := false }
def ChainFullSaid : Prop := chainFullRow.holds Try.pinned (OpenSpec.ofChange chainFullSpec)

/-- ITS FALSE NEIGHBOUR: 'it returns false'. Refute it at one input. -/
def chainFullWrong : ChangeSpec := { name := "chainFull", fn := fun _ => fun
  | [d1, d2] => { results := [.lit (.bool false)], args := [d1, d2] }
  | _ => none }
def ChainFullWrongFalsely : Prop := chainFullRow.holds Try.pinned (OpenSpec.ofChange chainFullWrong)

/- THE SECOND FORM. 'bulk': how many values and letters a reading holds, each counted each time it is reached (what is shared counts as often as it is met; a slice's spare places count too). A statement '..UptoSaid' is the law's where the arguments, and the package variables that the reading takes, are together of bulk at most 1048576: NARROWER than '..Said'. Prove '..Said' where nothing that the law and all that it calls make is longer than what came in: it says more and counts as full. Else prove '..UptoSaid'. A law counts once. -/
mutual
def uptoBulk {H : Type} : DataW H → Nat
  | .lit (.string bytes) => bytes.length + 1
  | .lit _ => 1
  | .nil => 1
  | .ptr d => uptoBulk d + 1
  | .slice elems spare => uptoBulkAll elems + uptoBulkAll spare + 1
  | .agg parts => uptoBulkAll parts + 1
  | .iface _ d => uptoBulk d + 1
  | .map entries => uptoBulkEntries entries + 1
  | .held _ => 1
def uptoBulkAll {H : Type} : List (DataW H) → Nat
  | [] => 0
  | d :: r => uptoBulk d + uptoBulkAll r
def uptoBulkEntries {H : Type} : List (Lit × DataW H) → Nat
  | [] => 0
  | x :: r => uptoBulkEntry x + uptoBulkEntries r
def uptoBulkEntry {H : Type} : Lit × DataW H → Nat
  | (.string bytes, d) => bytes.length + uptoBulk d + 1
  | (_, d) => uptoBulk d + 1
 end
def uptoSmall : (H : Type) → List (DataW H) → Bool := fun _ ds => decide (uptoBulkAll ds ≤ 1048576)
def OpenSpec.upto (s : _root_.Go.ChangeSpec) : _root_.Go.OpenSpec := { _root_.Go.OpenSpec.ofChange s with cond := some uptoSmall }

/-- 'dogwatchlaw19.ChainSplits', WHERE WHAT IT READS IS OF BULK AT MOST 1048576: true; the input reads as it did. -/
def chainSplitsUptoRow : OpenClaim := { program := "yteekebicnoaolaa", sum := "bad098d7f8a8fe9844410edf6876c41193d76606385d06267f16470256d3b3e2", func := "dogwatch/dogwatchlaw19.ChainSplits", spec := "chainSplits", inPlace := ["slices.overlaps[dogwatch/api.Place]"], unfollowed := true, recurses := true, apart := false, narrowed := true }
def ChainSplitsUptoSaid : Prop := chainSplitsUptoRow.holds Try.pinned (OpenSpec.upto chainSplitsSpec)

/-- 'dogwatchlaw19.ChainGoes', WHERE WHAT IT READS IS OF BULK AT MOST 1048576: true; the input reads as it did. -/
def chainGoesUptoRow : OpenClaim := { program := "yteekebicnoaolaa", sum := "bad098d7f8a8fe9844410edf6876c41193d76606385d06267f16470256d3b3e2", func := "dogwatch/dogwatchlaw19.ChainGoes", spec := "chainGoes", inPlace := ["slices.overlaps[dogwatch/api.Place]"], unfollowed := true, recurses := true, apart := false, narrowed := true }
def ChainGoesUptoSaid : Prop := chainGoesUptoRow.holds Try.pinned (OpenSpec.upto chainGoesSpec)

/-- 'dogwatchlaw19.ChainFull', WHERE WHAT IT READS IS OF BULK AT MOST 1048576: true; the input reads as it did. -/
def chainFullUptoRow : OpenClaim := { program := "yteekebicnoaolaa", sum := "bad098d7f8a8fe9844410edf6876c41193d76606385d06267f16470256d3b3e2", func := "dogwatch/dogwatchlaw19.ChainFull", spec := "chainFull", inPlace := ["slices.overlaps[dogwatch/api.Place]"], unfollowed := true, recurses := true, apart := false, narrowed := true }
def ChainFullUptoSaid : Prop := chainFullUptoRow.holds Try.pinned (OpenSpec.upto chainFullSpec)

end Rows
end Go.Proofs.Yteekebicnoaolaa
