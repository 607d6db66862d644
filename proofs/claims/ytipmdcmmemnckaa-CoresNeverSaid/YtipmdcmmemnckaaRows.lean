/-
  No cell of these rows narrows 'for every input' (looked for: loops, veiled, ifaces, maps, wideKeys, modest, calm, conditions, laid).
  DERIVED. THE GIVEN ROWS OF THIS SEAT. 4 by the template 'for every input the law returns true; each argument reads behind the call as it read before'; 0 by the template 'total and deterministic' (their statements: YtipmdcmmemnckaaTotals.lean).
  GIVEN WITH THE SEED: the statements are not yours to turn. If you find one false, say at which input.
  Laid BY PROGRAM, IN A SANDBOX (cutbox-rows.mjs): the forced cells as the released guide's own fill.sh prints them over the translation 9bcceb406a545680… (all of the seat's roots in one cut). By AI agents, Wed Nov 11 2026. No macro, syntax, notation, axiom, sorry.
-/
import Derived.Test.YtipmdcmmemnckaaChecked
import GoSem.Claim
import GoSem.ClaimJoined
import GoSem.ClaimMapViews
import Derived.JoinedTies
import Derived.KernelRfl
namespace Go.Proofs.Ytipmdcmmemnckaa
/- THE CELL 'sum', in the pinned program and in every row, IS THE sha256 OF THE DUMP (.gsa) THAT YtipmdcmmemnckaaProg.lean LOADS. Nothing in Lean hashes anything: it is a label: what it is worth is what the hold of that sum in a sandbox is worth. -/
noncomputable def Try.pinned : Pinned := { name := "ytipmdcmmemnckaa", sum := "9bcceb406a5456808f0dc2a588d942db95a5df3e8074fd8466148a12ebb04403", checked := Try.checked }
namespace Rows
def none {H : Type} : Left H := { results := [], args := [] }

/-- 'dogwatchlaw27.CoresPlay': WHATEVER THE INPUT: true; the input reads as it did. -/
def coresPlaySpec : ChangeSpec := { name := "coresPlay", fn := fun _ => fun
  | [d1, d2, d3] => { results := [.lit (.bool true)], args := [d1, d2, d3] }
  | _ => none }
def coresPlayRow : OpenClaim := { program := "ytipmdcmmemnckaa", sum := "9bcceb406a5456808f0dc2a588d942db95a5df3e8074fd8466148a12ebb04403", func := "dogwatch/dogwatchlaw27.CoresPlay", spec := "coresPlay", apart := false }
def CoresPlaySaid : Prop := coresPlayRow.holds Try.pinned (OpenSpec.ofChange coresPlaySpec)

/-- ITS FALSE NEIGHBOUR: 'it returns false'. Refute it at one input. -/
def coresPlayWrong : ChangeSpec := { name := "coresPlay", fn := fun _ => fun
  | [d1, d2, d3] => { results := [.lit (.bool false)], args := [d1, d2, d3] }
  | _ => none }
def CoresPlayWrongFalsely : Prop := coresPlayRow.holds Try.pinned (OpenSpec.ofChange coresPlayWrong)

/-- 'dogwatchlaw27.CoresNever': WHATEVER THE INPUT: true; the input reads as it did. -/
def coresNeverSpec : ChangeSpec := { name := "coresNever", fn := fun _ => fun
  | [d1, d2] => { results := [.lit (.bool true)], args := [d1, d2] }
  | _ => none }
def coresNeverRow : OpenClaim := { program := "ytipmdcmmemnckaa", sum := "9bcceb406a5456808f0dc2a588d942db95a5df3e8074fd8466148a12ebb04403", func := "dogwatch/dogwatchlaw27.CoresNever", spec := "coresNever", apart := false }
def CoresNeverSaid : Prop := coresNeverRow.holds Try.pinned (OpenSpec.ofChange coresNeverSpec)

/-- ITS FALSE NEIGHBOUR: 'it returns false'. Refute it at one input. -/
def coresNeverWrong : ChangeSpec := { name := "coresNever", fn := fun _ => fun
  | [d1, d2] => { results := [.lit (.bool false)], args := [d1, d2] }
  | _ => none }
def CoresNeverWrongFalsely : Prop := coresNeverRow.holds Try.pinned (OpenSpec.ofChange coresNeverWrong)

/-- 'dogwatchlaw27.CoresTwo': WHATEVER THE INPUT: true; the input reads as it did. -/
def coresTwoSpec : ChangeSpec := { name := "coresTwo", fn := fun _ => fun
  | [d1, d2, d3] => { results := [.lit (.bool true)], args := [d1, d2, d3] }
  | _ => none }
def coresTwoRow : OpenClaim := { program := "ytipmdcmmemnckaa", sum := "9bcceb406a5456808f0dc2a588d942db95a5df3e8074fd8466148a12ebb04403", func := "dogwatch/dogwatchlaw27.CoresTwo", spec := "coresTwo", apart := false }
def CoresTwoSaid : Prop := coresTwoRow.holds Try.pinned (OpenSpec.ofChange coresTwoSpec)

/-- ITS FALSE NEIGHBOUR: 'it returns false'. Refute it at one input. -/
def coresTwoWrong : ChangeSpec := { name := "coresTwo", fn := fun _ => fun
  | [d1, d2, d3] => { results := [.lit (.bool false)], args := [d1, d2, d3] }
  | _ => none }
def CoresTwoWrongFalsely : Prop := coresTwoRow.holds Try.pinned (OpenSpec.ofChange coresTwoWrong)

/-- 'dogwatchlaw27.CoresNobody': WHATEVER THE INPUT: true; the input reads as it did. -/
def coresNobodySpec : ChangeSpec := { name := "coresNobody", fn := fun _ => fun
  | [d] => { results := [.lit (.bool true)], args := [d] }
  | _ => none }
def coresNobodyRow : OpenClaim := { program := "ytipmdcmmemnckaa", sum := "9bcceb406a5456808f0dc2a588d942db95a5df3e8074fd8466148a12ebb04403", func := "dogwatch/dogwatchlaw27.CoresNobody", spec := "coresNobody", apart := false }
def CoresNobodySaid : Prop := coresNobodyRow.holds Try.pinned (OpenSpec.ofChange coresNobodySpec)

/-- ITS FALSE NEIGHBOUR: 'it returns false'. Refute it at one input. -/
def coresNobodyWrong : ChangeSpec := { name := "coresNobody", fn := fun _ => fun
  | [d] => { results := [.lit (.bool false)], args := [d] }
  | _ => none }
def CoresNobodyWrongFalsely : Prop := coresNobodyRow.holds Try.pinned (OpenSpec.ofChange coresNobodyWrong)

/- THE SECOND FORM. 'bulk': how many values and letters a reading holds, each counted each time it is reached (what is shared counts as often as it is met; a slice's spare places count too). A statement '..UptoSaid' is the law's where the arguments, and the package variables that the reading takes, are together of bulk at most 1048576: NARROWER than '..Said'. Prove '..Said' where nothing that the law and all that it calls make is longer than what came in: it says more and counts as full. Else prove '..UptoSaid'. A law counts once. -/
mutual
def uptoBulk {H : Type} : DataW H → Nat
  | .lit (.string bytes) => bytes.length + 1
  | .lit _ => 1
  | .nil => 1
  | .ptr d => uptoBulk d + 1
  | .slice elems spare => uptoBulkAll elems + uptoBulkAll spare + 1
  | .agg parts => uptoBulkAll parts + 1
  | .iface _ d => uptoBulk d + 1
  | .map entries => uptoBulkEntries entries + 1
  | .held _ => 1
def uptoBulkAll {H : Type} : List (DataW H) → Nat
  | [] => 0
  | d :: r => uptoBulk d + uptoBulkAll r
def uptoBulkEntries {H : Type} : List (Lit × DataW H) → Nat
  | [] => 0
  | x :: r => uptoBulkEntry x + uptoBulkEntries r
def uptoBulkEntry {H : Type} : Lit × DataW H → Nat
  | (.string bytes, d) => bytes.length + uptoBulk d + 1
  | (_, d) => uptoBulk d + 1
 end
def uptoSmall : (H : Type) → List (DataW H) → Bool := fun _ ds => decide (uptoBulkAll ds ≤ 1048576)
def OpenSpec.upto (s : _root_.Go.ChangeSpec) : _root_.Go.OpenSpec := { _root_.Go.OpenSpec.ofChange s with cond := some uptoSmall }

/-- 'dogwatchlaw27.CoresPlay', WHERE WHAT IT READS IS OF BULK AT MOST 1048576: true; the input reads as it did. -/
def coresPlayUptoRow : OpenClaim := { program := "ytipmdcmmemnckaa", sum := "9bcceb406a5456808f0dc2a588d942db95a5df3e8074fd8466148a12ebb04403", func := "dogwatch/dogwatchlaw27.CoresPlay", spec := "coresPlay", apart := false, narrowed := true }
def CoresPlayUptoSaid : Prop := coresPlayUptoRow.holds Try.pinned (OpenSpec.upto coresPlaySpec)

/-- 'dogwatchlaw27.CoresNever', WHERE WHAT IT READS IS OF BULK AT MOST 1048576: true; the input reads as it did. -/
def coresNeverUptoRow : OpenClaim := { program := "ytipmdcmmemnckaa", sum := "9bcceb406a5456808f0dc2a588d942db95a5df3e8074fd8466148a12ebb04403", func := "dogwatch/dogwatchlaw27.CoresNever", spec := "coresNever", apart := false, narrowed := true }
def CoresNeverUptoSaid : Prop := coresNeverUptoRow.holds Try.pinned (OpenSpec.upto coresNeverSpec)

/-- 'dogwatchlaw27.CoresTwo', WHERE WHAT IT READS IS OF BULK AT MOST 1048576: true; the input reads as it did. -/
def coresTwoUptoRow : OpenClaim := { program := "ytipmdcmmemnckaa", sum := "9bcceb406a5456808f0dc2a588d942db95a5df3e8074fd8466148a12ebb04403", func := "dogwatch/dogwatchlaw27.CoresTwo", spec := "coresTwo", apart := false, narrowed := true }
def CoresTwoUptoSaid : Prop := coresTwoUptoRow.holds Try.pinned (OpenSpec.upto coresTwoSpec)

/-- 'dogwatchlaw27.CoresNobody', WHERE WHAT IT READS IS OF BULK AT MOST 1048576: true; the input reads as it did. -/
def coresNobodyUptoRow : OpenClaim := { program := "ytipmdcmmemnckaa", sum := "9bcceb406a5456808f0dc2a588d942db95a5df3e8074fd8466148a12ebb04403", func := "dogwatch/dogwatchlaw27.CoresNobody", spec := "coresNobody", apart := false, narrowed := true }
def CoresNobodyUptoSaid : Prop := coresNobodyUptoRow.holds Try.pinned (OpenSpec.upto coresNobodySpec)

end Rows
end Go.Proofs.Ytipmdcmmemnckaa
