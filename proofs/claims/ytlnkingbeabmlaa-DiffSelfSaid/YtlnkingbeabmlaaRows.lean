/-
  No cell of these rows narrows 'for every input' (looked for: loops, veiled, ifaces, maps, wideKeys, modest, calm, conditions, laid).
  DERIVED. THE GIVEN ROWS OF THIS SEAT. 3 by the template 'for every input the law returns true; each argument reads behind the call as it read before'; 0 by the template 'total and deterministic' (their statements: YtlnkingbeabmlaaTotals.lean).
  GIVEN WITH THE SEED: the statements are not yours to turn. If you find one false, say at which input.
  Laid BY PROGRAM, IN A SANDBOX (cutbox-rows.mjs): the forced cells as the released guide's own fill.sh prints them over the translation 2bbf8a7e4e233e32… (all of the seat's roots in one cut). By AI agents, Wed Nov 11 2026. No macro, syntax, notation, axiom, sorry.
-/
import Derived.Test.YtlnkingbeabmlaaChecked
import GoSem.Claim
import GoSem.ClaimJoined
import GoSem.ClaimMapViews
import Derived.JoinedTies
import Derived.KernelRfl
namespace Go.Proofs.Ytlnkingbeabmlaa
/- THE CELL 'sum', in the pinned program and in every row, IS THE sha256 OF THE DUMP (.gsa) THAT YtlnkingbeabmlaaProg.lean LOADS. Nothing in Lean hashes anything: it is a label: what it is worth is what the hold of that sum in a sandbox is worth. -/
noncomputable def Try.pinned : Pinned := { name := "ytlnkingbeabmlaa", sum := "2bbf8a7e4e233e3298c51e689589a77928ac206dc4eb608874f44710cc62562d", checked := Try.checked }
namespace Rows
def none {H : Type} : Left H := { results := [], args := [] }

/-- 'dogwatchlaw22.DiffChanges': WHATEVER THE INPUT: true; the input reads as it did. -/
def diffChangesSpec : ChangeSpec := { name := "diffChanges", fn := fun _ => fun
  | [d1, d2] => { results := [.lit (.bool true)], args := [d1, d2] }
  | _ => none }
def diffChangesRow : OpenClaim := { program := "ytlnkingbeabmlaa", sum := "2bbf8a7e4e233e3298c51e689589a77928ac206dc4eb608874f44710cc62562d", func := "dogwatch/dogwatchlaw22.DiffChanges", spec := "diffChanges", unfollowed := true, recurses := true, apart := false }
def DiffChangesSaid : Prop := diffChangesRow.holds Try.pinned (OpenSpec.ofChange diffChangesSpec)

/-- ITS FALSE NEIGHBOUR: 'it returns false'. Refute it at one input. -/
def diffChangesWrong : ChangeSpec := { name := "diffChanges", fn := fun _ => fun
  | [d1, d2] => { results := [.lit (.bool false)], args := [d1, d2] }
  | _ => none }
def DiffChangesWrongFalsely : Prop := diffChangesRow.holds Try.pinned (OpenSpec.ofChange diffChangesWrong)

/-- 'dogwatchlaw22.DiffSelf': WHATEVER THE INPUT: true; the input reads as it did. -/
def diffSelfSpec : ChangeSpec := { name := "diffSelf", fn := fun _ => fun
  | [d1, d2] => { results := [.lit (.bool true)], args := [d1, d2] }
  | _ => none }
def diffSelfRow : OpenClaim := { program := "ytlnkingbeabmlaa", sum := "2bbf8a7e4e233e3298c51e689589a77928ac206dc4eb608874f44710cc62562d", func := "dogwatch/dogwatchlaw22.DiffSelf", spec := "diffSelf", unfollowed := true, recurses := true, apart := false }
def DiffSelfSaid : Prop := diffSelfRow.holds Try.pinned (OpenSpec.ofChange diffSelfSpec)

/-- ITS FALSE NEIGHBOUR: 'it returns false'. Refute it at one input. -/
def diffSelfWrong : ChangeSpec := { name := "diffSelf", fn := fun _ => fun
  | [d1, d2] => { results := [.lit (.bool false)], args := [d1, d2] }
  | _ => none }
def DiffSelfWrongFalsely : Prop := diffSelfRow.holds Try.pinned (OpenSpec.ofChange diffSelfWrong)

/-- 'dogwatchlaw22.DiffLists': WHATEVER THE INPUT: true; the input reads as it did. -/
def diffListsSpec : ChangeSpec := { name := "diffLists", fn := fun _ => fun
  | [d1, d2] => { results := [.lit (.bool true)], args := [d1, d2] }
  | _ => none }
def diffListsRow : OpenClaim := { program := "ytlnkingbeabmlaa", sum := "2bbf8a7e4e233e3298c51e689589a77928ac206dc4eb608874f44710cc62562d", func := "dogwatch/dogwatchlaw22.DiffLists", spec := "diffLists", unfollowed := true, recurses := true, apart := false }
def DiffListsSaid : Prop := diffListsRow.holds Try.pinned (OpenSpec.ofChange diffListsSpec)

/-- ITS FALSE NEIGHBOUR: 'it returns false'. Refute it at one input. -/
def diffListsWrong : ChangeSpec := { name := "diffLists", fn := fun _ => fun
  | [d1, d2] => { results := [.lit (.bool false)], args := [d1, d2] }
  | _ => none }
def DiffListsWrongFalsely : Prop := diffListsRow.holds Try.pinned (OpenSpec.ofChange diffListsWrong)

/- THE SECOND FORM. 'bulk': how many values and letters a reading holds, each counted each time it is reached (what is shared counts as often as it is met; a slice's spare places count too). A statement '..UptoSaid' is the law's where the arguments, and the package variables that the reading takes, are together of bulk at most 1048576: NARROWER than '..Said'. Prove '..Said' where nothing that the law and all that it calls make is longer than what came in: it says more and counts as full. Else prove '..UptoSaid'. A law counts once. -/
mutual
def uptoBulk {H : Type} : DataW H → Nat
  | .lit (.string bytes) => bytes.length + 1
  | .lit _ => 1
  | .nil => 1
  | .ptr d => uptoBulk d + 1
  | .slice elems spare => uptoBulkAll elems + uptoBulkAll spare + 1
  | .agg parts => uptoBulkAll parts + 1
  | .iface _ d => uptoBulk d + 1
  | .map entries => uptoBulkEntries entries + 1
  | .held _ => 1
def uptoBulkAll {H : Type} : List (DataW H) → Nat
  | [] => 0
  | d :: r => uptoBulk d + uptoBulkAll r
def uptoBulkEntries {H : Type} : List (Lit × DataW H) → Nat
  | [] => 0
  | x :: r => uptoBulkEntry x + uptoBulkEntries r
def uptoBulkEntry {H : Type} : Lit × DataW H → Nat
  | (.string bytes, d) => bytes.length + uptoBulk d + 1
  | (_, d) => uptoBulk d + 1
 end
def uptoSmall : (H : Type) → List (DataW H) → Bool := fun _ ds => decide (uptoBulkAll ds ≤ 1048576)
def OpenSpec.upto (s : _root_.Go.ChangeSpec) : _root_.Go.OpenSpec := { _root_.Go.OpenSpec.ofChange s with cond := some uptoSmall }

/-- 'dogwatchlaw22.DiffChanges', WHERE WHAT IT READS IS OF BULK AT MOST 1048576: true; the input reads as it did. -/
def diffChangesUptoRow : OpenClaim := { program := "ytlnkingbeabmlaa", sum := "2bbf8a7e4e233e3298c51e689589a77928ac206dc4eb608874f44710cc62562d", func := "dogwatch/dogwatchlaw22.DiffChanges", spec := "diffChanges", unfollowed := true, recurses := true, apart := false, narrowed := true }
def DiffChangesUptoSaid : Prop := diffChangesUptoRow.holds Try.pinned (OpenSpec.upto diffChangesSpec)

/-- 'dogwatchlaw22.DiffSelf', WHERE WHAT IT READS IS OF BULK AT MOST 1048576: true; the input reads as it did. -/
def diffSelfUptoRow : OpenClaim := { program := "ytlnkingbeabmlaa", sum := "2bbf8a7e4e233e3298c51e689589a77928ac206dc4eb608874f44710cc62562d", func := "dogwatch/dogwatchlaw22.DiffSelf", spec := "diffSelf", unfollowed := true, recurses := true, apart := false, narrowed := true }
def DiffSelfUptoSaid : Prop := diffSelfUptoRow.holds Try.pinned (OpenSpec.upto diffSelfSpec)

/-- 'dogwatchlaw22.DiffLists', WHERE WHAT IT READS IS OF BULK AT MOST 1048576: true; the input reads as it did. -/
def diffListsUptoRow : OpenClaim := { program := "ytlnkingbeabmlaa", sum := "2bbf8a7e4e233e3298c51e689589a77928ac206dc4eb608874f44710cc62562d", func := "dogwatch/dogwatchlaw22.DiffLists", spec := "diffLists", unfollowed := true, recurses := true, apart := false, narrowed := true }
def DiffListsUptoSaid : Prop := diffListsUptoRow.holds Try.pinned (OpenSpec.upto diffListsSpec)

end Rows
end Go.Proofs.Ytlnkingbeabmlaa
