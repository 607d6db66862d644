/-
  No cell of these rows narrows 'for every input' (looked for: loops, veiled, ifaces, maps, wideKeys, modest, calm, conditions, laid).
  DERIVED. THE GIVEN ROWS OF THIS SEAT. 3 by the template 'for every input the law returns true; each argument reads behind the call as it read before'; 0 by the template 'total and deterministic' (their statements: YtapnnihajniakaaTotals.lean).
  GIVEN WITH THE SEED: the statements are not yours to turn. If you find one false, say at which input.
  Laid BY PROGRAM, IN A SANDBOX (cutbox-rows.mjs): the forced cells as the released guide's own fill.sh prints them over the translation 1c9f7d77e4266be0… (all of the seat's roots in one cut). By AI agents, Wed Nov 11 2026. No macro, syntax, notation, axiom, sorry.
-/
import Derived.Test.YtapnnihajniakaaChecked
import GoSem.Claim
import GoSem.ClaimJoined
import GoSem.ClaimMapViews
import Derived.JoinedTies
import Derived.KernelRfl
namespace Go.Proofs.Ytapnnihajniakaa
/- THE CELL 'sum', in the pinned program and in every row, IS THE sha256 OF THE DUMP (.gsa) THAT YtapnnihajniakaaProg.lean LOADS. Nothing in Lean hashes anything: it is a label: what it is worth is what the hold of that sum in a sandbox is worth. -/
noncomputable def Try.pinned : Pinned := { name := "ytapnnihajniakaa", sum := "1c9f7d77e4266be0c080c48abfa2d74a166c3e8331fa922f869b0a1fc4584ea1", checked := Try.checked }
namespace Rows
def none {H : Type} : Left H := { results := [], args := [] }

/-- 'dogwatchlaw29.LedgerNever': WHATEVER THE INPUT: true; the input reads as it did. -/
def ledgerNeverSpec : ChangeSpec := { name := "ledgerNever", fn := fun _ => fun
  | [d1, d2] => { results := [.lit (.bool true)], args := [d1, d2] }
  | _ => none }
def ledgerNeverRow : OpenClaim := { program := "ytapnnihajniakaa", sum := "1c9f7d77e4266be0c080c48abfa2d74a166c3e8331fa922f869b0a1fc4584ea1", func := "dogwatch/dogwatchlaw29.LedgerNever", spec := "ledgerNever", inPlace := ["maps.clone"], unfollowed := true, recurses := true, apart := false }
def LedgerNeverSaid : Prop := ledgerNeverRow.holds Try.pinned (OpenSpec.ofChange ledgerNeverSpec)

/-- ITS FALSE NEIGHBOUR: 'it returns false'. Refute it at one input. -/
def ledgerNeverWrong : ChangeSpec := { name := "ledgerNever", fn := fun _ => fun
  | [d1, d2] => { results := [.lit (.bool false)], args := [d1, d2] }
  | _ => none }
def LedgerNeverWrongFalsely : Prop := ledgerNeverRow.holds Try.pinned (OpenSpec.ofChange ledgerNeverWrong)

/-- 'dogwatchlaw29.LedgerAbsent': WHATEVER THE INPUT: true; the input reads as it did. -/
def ledgerAbsentSpec : ChangeSpec := { name := "ledgerAbsent", fn := fun _ => fun
  | [d1, d2] => { results := [.lit (.bool true)], args := [d1, d2] }
  | _ => none }
def ledgerAbsentRow : OpenClaim := { program := "ytapnnihajniakaa", sum := "1c9f7d77e4266be0c080c48abfa2d74a166c3e8331fa922f869b0a1fc4584ea1", func := "dogwatch/dogwatchlaw29.LedgerAbsent", spec := "ledgerAbsent", inPlace := ["maps.clone"], unfollowed := true, recurses := true, apart := false }
def LedgerAbsentSaid : Prop := ledgerAbsentRow.holds Try.pinned (OpenSpec.ofChange ledgerAbsentSpec)

/-- ITS FALSE NEIGHBOUR: 'it returns false'. Refute it at one input. -/
def ledgerAbsentWrong : ChangeSpec := { name := "ledgerAbsent", fn := fun _ => fun
  | [d1, d2] => { results := [.lit (.bool false)], args := [d1, d2] }
  | _ => none }
def LedgerAbsentWrongFalsely : Prop := ledgerAbsentRow.holds Try.pinned (OpenSpec.ofChange ledgerAbsentWrong)

/-- 'dogwatchlaw29.LedgerNobody': WHATEVER THE INPUT: true; the input reads as it did. -/
def ledgerNobodySpec : ChangeSpec := { name := "ledgerNobody", fn := fun _ => fun
  | [d] => { results := [.lit (.bool true)], args := [d] }
  | _ => none }
def ledgerNobodyRow : OpenClaim := { program := "ytapnnihajniakaa", sum := "1c9f7d77e4266be0c080c48abfa2d74a166c3e8331fa922f869b0a1fc4584ea1", func := "dogwatch/dogwatchlaw29.LedgerNobody", spec := "ledgerNobody", inPlace := ["maps.clone"], unfollowed := true, recurses := true, apart := false }
def LedgerNobodySaid : Prop := ledgerNobodyRow.holds Try.pinned (OpenSpec.ofChange ledgerNobodySpec)

/-- ITS FALSE NEIGHBOUR: 'it returns false'. Refute it at one input. -/
def ledgerNobodyWrong : ChangeSpec := { name := "ledgerNobody", fn := fun _ => fun
  | [d] => { results := [.lit (.bool false)], args := [d] }
  | _ => none }
def LedgerNobodyWrongFalsely : Prop := ledgerNobodyRow.holds Try.pinned (OpenSpec.ofChange ledgerNobodyWrong)

/- THE SECOND FORM. 'bulk': how many values and letters a reading holds, each counted each time it is reached (what is shared counts as often as it is met; a slice's spare places count too). A statement '..UptoSaid' is the law's where the arguments, and the package variables that the reading takes, are together of bulk at most 1048576: NARROWER than '..Said'. Prove '..Said' where nothing that the law and all that it calls make is longer than what came in: it says more and counts as full. Else prove '..UptoSaid'. A law counts once. -/
mutual
def uptoBulk {H : Type} : DataW H → Nat
  | .lit (.string bytes) => bytes.length + 1
  | .lit _ => 1
  | .nil => 1
  | .ptr d => uptoBulk d + 1
  | .slice elems spare => uptoBulkAll elems + uptoBulkAll spare + 1
  | .agg parts => uptoBulkAll parts + 1
  | .iface _ d => uptoBulk d + 1
  | .map entries => uptoBulkEntries entries + 1
  | .held _ => 1
def uptoBulkAll {H : Type} : List (DataW H) → Nat
  | [] => 0
  | d :: r => uptoBulk d + uptoBulkAll r
def uptoBulkEntries {H : Type} : List (Lit × DataW H) → Nat
  | [] => 0
  | x :: r => uptoBulkEntry x + uptoBulkEntries r
def uptoBulkEntry {H : Type} : Lit × DataW H → Nat
  | (.string bytes, d) => bytes.length + uptoBulk d + 1
  | (_, d) => uptoBulk d + 1
 end
def uptoSmall : (H : Type) → List (DataW H) → Bool := fun _ ds => decide (uptoBulkAll ds ≤ 1048576)
def OpenSpec.upto (s : _root_.Go.ChangeSpec) : _root_.Go.OpenSpec := { _root_.Go.OpenSpec.ofChange s with cond := some uptoSmall }

/-- 'dogwatchlaw29.LedgerNever', WHERE WHAT IT READS IS OF BULK AT MOST 1048576: true; the input reads as it did. -/
def ledgerNeverUptoRow : OpenClaim := { program := "ytapnnihajniakaa", sum := "1c9f7d77e4266be0c080c48abfa2d74a166c3e8331fa922f869b0a1fc4584ea1", func := "dogwatch/dogwatchlaw29.LedgerNever", spec := "ledgerNever", inPlace := ["maps.clone"], unfollowed := true, recurses := true, apart := false, narrowed := true }
def LedgerNeverUptoSaid : Prop := ledgerNeverUptoRow.holds Try.pinned (OpenSpec.upto ledgerNeverSpec)

/-- 'dogwatchlaw29.LedgerAbsent', WHERE WHAT IT READS IS OF BULK AT MOST 1048576: true; the input reads as it did. -/
def ledgerAbsentUptoRow : OpenClaim := { program := "ytapnnihajniakaa", sum := "1c9f7d77e4266be0c080c48abfa2d74a166c3e8331fa922f869b0a1fc4584ea1", func := "dogwatch/dogwatchlaw29.LedgerAbsent", spec := "ledgerAbsent", inPlace := ["maps.clone"], unfollowed := true, recurses := true, apart := false, narrowed := true }
def LedgerAbsentUptoSaid : Prop := ledgerAbsentUptoRow.holds Try.pinned (OpenSpec.upto ledgerAbsentSpec)

/-- 'dogwatchlaw29.LedgerNobody', WHERE WHAT IT READS IS OF BULK AT MOST 1048576: true; the input reads as it did. -/
def ledgerNobodyUptoRow : OpenClaim := { program := "ytapnnihajniakaa", sum := "1c9f7d77e4266be0c080c48abfa2d74a166c3e8331fa922f869b0a1fc4584ea1", func := "dogwatch/dogwatchlaw29.LedgerNobody", spec := "ledgerNobody", inPlace := ["maps.clone"], unfollowed := true, recurses := true, apart := false, narrowed := true }
def LedgerNobodyUptoSaid : Prop := ledgerNobodyUptoRow.holds Try.pinned (OpenSpec.upto ledgerNobodySpec)

end Rows
end Go.Proofs.Ytapnnihajniakaa
