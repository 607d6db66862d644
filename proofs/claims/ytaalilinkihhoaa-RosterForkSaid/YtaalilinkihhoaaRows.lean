/-
  No cell of these rows narrows 'for every input' (looked for: loops, veiled, ifaces, maps, wideKeys, modest, calm, conditions, laid).
  DERIVED. THE GIVEN ROWS OF THIS SEAT. 5 by the template 'for every input the law returns true; each argument reads behind the call as it read before'; 0 by the template 'total and deterministic' (their statements: YtaalilinkihhoaaTotals.lean).
  GIVEN WITH THE SEED: the statements are not yours to turn. If you find one false, say at which input.
  Laid BY PROGRAM, IN A SANDBOX (cutbox-rows.mjs): the forced cells as the released guide's own fill.sh prints them over the translation 06471bc3048cc05e… (all of the seat's roots in one cut). By AI agents, Wed Nov 11 2026. No macro, syntax, notation, axiom, sorry.
-/
import Derived.Test.YtaalilinkihhoaaChecked
import GoSem.Claim
import GoSem.ClaimJoined
import GoSem.ClaimMapViews
import Derived.JoinedTies
import Derived.KernelRfl
namespace Go.Proofs.Ytaalilinkihhoaa
/- THE CELL 'sum', in the pinned program and in every row, IS THE sha256 OF THE DUMP (.gsa) THAT YtaalilinkihhoaaProg.lean LOADS. Nothing in Lean hashes anything: it is a label: what it is worth is what the hold of that sum in a sandbox is worth. -/
noncomputable def Try.pinned : Pinned := { name := "ytaalilinkihhoaa", sum := "06471bc3048cc05e32a61da49d91707df0590fe9fae56a05cf180cd58967446f", checked := Try.checked }
namespace Rows
def none {H : Type} : Left H := { results := [], args := [] }

/-- 'dogwatchlaw28.RosterFull': WHATEVER THE INPUT: true; the input reads as it did. -/
def rosterFullSpec : ChangeSpec := { name := "rosterFull", fn := fun _ => fun
  | [d1, d2] => { results := [.lit (.bool true)], args := [d1, d2] }
  | _ => none }
def rosterFullRow : OpenClaim := { program := "ytaalilinkihhoaa", sum := "06471bc3048cc05e32a61da49d91707df0590fe9fae56a05cf180cd58967446f", func := "dogwatch/dogwatchlaw28.RosterFull", spec := "rosterFull", unfollowed := true, recurses := true, apart := false }
def RosterFullSaid : Prop := rosterFullRow.holds Try.pinned (OpenSpec.ofChange rosterFullSpec)

/-- ITS FALSE NEIGHBOUR: 'it returns false'. Refute it at one input. -/
def rosterFullWrong : ChangeSpec := { name := "rosterFull", fn := fun _ => fun
  | [d1, d2] => { results := [.lit (.bool false)], args := [d1, d2] }
  | _ => none }
def RosterFullWrongFalsely : Prop := rosterFullRow.holds Try.pinned (OpenSpec.ofChange rosterFullWrong)

/-- 'dogwatchlaw28.RosterPlaces': WHATEVER THE INPUT: true; the input reads as it did. -/
def rosterPlacesSpec : ChangeSpec := { name := "rosterPlaces", fn := fun _ => fun
  | [d] => { results := [.lit (.bool true)], args := [d] }
  | _ => none }
def rosterPlacesRow : OpenClaim := { program := "ytaalilinkihhoaa", sum := "06471bc3048cc05e32a61da49d91707df0590fe9fae56a05cf180cd58967446f", func := "dogwatch/dogwatchlaw28.RosterPlaces", spec := "rosterPlaces", unfollowed := true, recurses := true, apart := false }
def RosterPlacesSaid : Prop := rosterPlacesRow.holds Try.pinned (OpenSpec.ofChange rosterPlacesSpec)

/-- ITS FALSE NEIGHBOUR: 'it returns false'. Refute it at one input. -/
def rosterPlacesWrong : ChangeSpec := { name := "rosterPlaces", fn := fun _ => fun
  | [d] => { results := [.lit (.bool false)], args := [d] }
  | _ => none }
def RosterPlacesWrongFalsely : Prop := rosterPlacesRow.holds Try.pinned (OpenSpec.ofChange rosterPlacesWrong)

/-- 'dogwatchlaw28.RosterPlays': WHATEVER THE INPUT: true; the input reads as it did. -/
def rosterPlaysSpec : ChangeSpec := { name := "rosterPlays", fn := fun _ => fun
  | [d1, d2, d3, d4] => { results := [.lit (.bool true)], args := [d1, d2, d3, d4] }
  | _ => none }
def rosterPlaysRow : OpenClaim := { program := "ytaalilinkihhoaa", sum := "06471bc3048cc05e32a61da49d91707df0590fe9fae56a05cf180cd58967446f", func := "dogwatch/dogwatchlaw28.RosterPlays", spec := "rosterPlays", unfollowed := true, recurses := true, apart := false }
def RosterPlaysSaid : Prop := rosterPlaysRow.holds Try.pinned (OpenSpec.ofChange rosterPlaysSpec)

/-- ITS FALSE NEIGHBOUR: 'it returns false'. Refute it at one input. -/
def rosterPlaysWrong : ChangeSpec := { name := "rosterPlays", fn := fun _ => fun
  | [d1, d2, d3, d4] => { results := [.lit (.bool false)], args := [d1, d2, d3, d4] }
  | _ => none }
def RosterPlaysWrongFalsely : Prop := rosterPlaysRow.holds Try.pinned (OpenSpec.ofChange rosterPlaysWrong)

/-- 'dogwatchlaw28.RosterFork': WHATEVER THE INPUT: true; the input reads as it did. -/
def rosterForkSpec : ChangeSpec := { name := "rosterFork", fn := fun _ => fun
  | [d1, d2] => { results := [.lit (.bool true)], args := [d1, d2] }
  | _ => none }
def rosterForkRow : OpenClaim := { program := "ytaalilinkihhoaa", sum := "06471bc3048cc05e32a61da49d91707df0590fe9fae56a05cf180cd58967446f", func := "dogwatch/dogwatchlaw28.RosterFork", spec := "rosterFork", inPlace := ["maps.clone"], unfollowed := true, recurses := true, apart := false }
def RosterForkSaid : Prop := rosterForkRow.holds Try.pinned (OpenSpec.ofChange rosterForkSpec)

/-- ITS FALSE NEIGHBOUR: 'it returns false'. Refute it at one input. -/
def rosterForkWrong : ChangeSpec := { name := "rosterFork", fn := fun _ => fun
  | [d1, d2] => { results := [.lit (.bool false)], args := [d1, d2] }
  | _ => none }
def RosterForkWrongFalsely : Prop := rosterForkRow.holds Try.pinned (OpenSpec.ofChange rosterForkWrong)

/-- 'dogwatchlaw28.RosterNobody': WHATEVER THE INPUT: true; the input reads as it did. -/
def rosterNobodySpec : ChangeSpec := { name := "rosterNobody", fn := fun _ => fun
  | [d] => { results := [.lit (.bool true)], args := [d] }
  | _ => none }
def rosterNobodyRow : OpenClaim := { program := "ytaalilinkihhoaa", sum := "06471bc3048cc05e32a61da49d91707df0590fe9fae56a05cf180cd58967446f", func := "dogwatch/dogwatchlaw28.RosterNobody", spec := "rosterNobody", inPlace := ["maps.clone"], unfollowed := true, recurses := true, apart := false }
def RosterNobodySaid : Prop := rosterNobodyRow.holds Try.pinned (OpenSpec.ofChange rosterNobodySpec)

/-- ITS FALSE NEIGHBOUR: 'it returns false'. Refute it at one input. -/
def rosterNobodyWrong : ChangeSpec := { name := "rosterNobody", fn := fun _ => fun
  | [d] => { results := [.lit (.bool false)], args := [d] }
  | _ => none }
def RosterNobodyWrongFalsely : Prop := rosterNobodyRow.holds Try.pinned (OpenSpec.ofChange rosterNobodyWrong)

/- THE SECOND FORM. 'bulk': how many values and letters a reading holds, each counted each time it is reached (what is shared counts as often as it is met; a slice's spare places count too). A statement '..UptoSaid' is the law's where the arguments, and the package variables that the reading takes, are together of bulk at most 1048576: NARROWER than '..Said'. Prove '..Said' where nothing that the law and all that it calls make is longer than what came in: it says more and counts as full. Else prove '..UptoSaid'. A law counts once. -/
mutual
def uptoBulk {H : Type} : DataW H → Nat
  | .lit (.string bytes) => bytes.length + 1
  | .lit _ => 1
  | .nil => 1
  | .ptr d => uptoBulk d + 1
  | .slice elems spare => uptoBulkAll elems + uptoBulkAll spare + 1
  | .agg parts => uptoBulkAll parts + 1
  | .iface _ d => uptoBulk d + 1
  | .map entries => uptoBulkEntries entries + 1
  | .held _ => 1
def uptoBulkAll {H : Type} : List (DataW H) → Nat
  | [] => 0
  | d :: r => uptoBulk d + uptoBulkAll r
def uptoBulkEntries {H : Type} : List (Lit × DataW H) → Nat
  | [] => 0
  | x :: r => uptoBulkEntry x + uptoBulkEntries r
def uptoBulkEntry {H : Type} : Lit × DataW H → Nat
  | (.string bytes, d) => bytes.length + uptoBulk d + 1
  | (_, d) => uptoBulk d + 1
 end
def uptoSmall : (H : Type) → List (DataW H) → Bool := fun _ ds => decide (uptoBulkAll ds ≤ 1048576)
def OpenSpec.upto (s : _root_.Go.ChangeSpec) : _root_.Go.OpenSpec := { _root_.Go.OpenSpec.ofChange s with cond := some uptoSmall }

/-- 'dogwatchlaw28.RosterFull', WHERE WHAT IT READS IS OF BULK AT MOST 1048576: true; the input reads as it did. -/
def rosterFullUptoRow : OpenClaim := { program := "ytaalilinkihhoaa", sum := "06471bc3048cc05e32a61da49d91707df0590fe9fae56a05cf180cd58967446f", func := "dogwatch/dogwatchlaw28.RosterFull", spec := "rosterFull", unfollowed := true, recurses := true, apart := false, narrowed := true }
def RosterFullUptoSaid : Prop := rosterFullUptoRow.holds Try.pinned (OpenSpec.upto rosterFullSpec)

/-- 'dogwatchlaw28.RosterPlaces', WHERE WHAT IT READS IS OF BULK AT MOST 1048576: true; the input reads as it did. -/
def rosterPlacesUptoRow : OpenClaim := { program := "ytaalilinkihhoaa", sum := "06471bc3048cc05e32a61da49d91707df0590fe9fae56a05cf180cd58967446f", func := "dogwatch/dogwatchlaw28.RosterPlaces", spec := "rosterPlaces", unfollowed := true, recurses := true, apart := false, narrowed := true }
def RosterPlacesUptoSaid : Prop := rosterPlacesUptoRow.holds Try.pinned (OpenSpec.upto rosterPlacesSpec)

/-- 'dogwatchlaw28.RosterPlays', WHERE WHAT IT READS IS OF BULK AT MOST 1048576: true; the input reads as it did. -/
def rosterPlaysUptoRow : OpenClaim := { program := "ytaalilinkihhoaa", sum := "06471bc3048cc05e32a61da49d91707df0590fe9fae56a05cf180cd58967446f", func := "dogwatch/dogwatchlaw28.RosterPlays", spec := "rosterPlays", unfollowed := true, recurses := true, apart := false, narrowed := true }
def RosterPlaysUptoSaid : Prop := rosterPlaysUptoRow.holds Try.pinned (OpenSpec.upto rosterPlaysSpec)

/-- 'dogwatchlaw28.RosterFork', WHERE WHAT IT READS IS OF BULK AT MOST 1048576: true; the input reads as it did. -/
def rosterForkUptoRow : OpenClaim := { program := "ytaalilinkihhoaa", sum := "06471bc3048cc05e32a61da49d91707df0590fe9fae56a05cf180cd58967446f", func := "dogwatch/dogwatchlaw28.RosterFork", spec := "rosterFork", inPlace := ["maps.clone"], unfollowed := true, recurses := true, apart := false, narrowed := true }
def RosterForkUptoSaid : Prop := rosterForkUptoRow.holds Try.pinned (OpenSpec.upto rosterForkSpec)

/-- 'dogwatchlaw28.RosterNobody', WHERE WHAT IT READS IS OF BULK AT MOST 1048576: true; the input reads as it did. -/
def rosterNobodyUptoRow : OpenClaim := { program := "ytaalilinkihhoaa", sum := "06471bc3048cc05e32a61da49d91707df0590fe9fae56a05cf180cd58967446f", func := "dogwatch/dogwatchlaw28.RosterNobody", spec := "rosterNobody", inPlace := ["maps.clone"], unfollowed := true, recurses := true, apart := false, narrowed := true }
def RosterNobodyUptoSaid : Prop := rosterNobodyUptoRow.holds Try.pinned (OpenSpec.upto rosterNobodySpec)

end Rows
end Go.Proofs.Ytaalilinkihhoaa
