/-
  DERIVED. GIVEN WITH THE SEED: THE CARDS: each row of YtnnebejpegfkbaaDoorRows.lean that lists a variable, with what it lists TIED to the program's text (the seventh form; the later family's looks); each row that meets fmt, with fmt's text TOLD by the authors' own Lean function (tested against real Go, not proved from fmt's source: count such statements apart). THE CARD IS WHAT COUNTS. Prove the row's statement (the work); the ties are given (YtnnebejpegfkbaaDoorTie.lean); close each card by the builder's one call (the guide's Derived/Test/ToyasCard.lean, 'card_holds'). Laid BY PROGRAM, IN A SANDBOX (cutbox-door.mjs). By AI agents, Wed Nov 11 2026. No macro, syntax, notation, axiom, sorry.
-/
import Derived.Test.YtnnebejpegfkbaaDoorRows
import GoSem.ClaimSeven
namespace Go.Proofs.YtnnebejpegfkbaaDoor
namespace Rows

/-- THE TIED CARD OF 'dogwatchlaw17.TableOf'. -/
def tableOfCard : Claim7 := { stood := { row := tableOfRow, standIns := [], harness := (true, "79cde53cfc3878b3d242c4a079a631213c71a33746428ac5aaaf957b414a5621"), looks := false }, kinds := [], alts := [], laidByText := true, laidKinds := [.data], laidTests := true, laidLooks := .later }
def TableOfCardSaid : Prop := Claim7.holds Tryd.pinned (.plain (OpenSpec.ofChange tableOfSpec)) tableOfCard

/-- THE TIED CARD OF 'dogwatchlaw17.TableAt'. -/
def tableAtCard : Claim7 := { stood := { row := tableAtRow, standIns := [], harness := (true, "79cde53cfc3878b3d242c4a079a631213c71a33746428ac5aaaf957b414a5621"), looks := false }, kinds := [], alts := [], laidByText := true, laidKinds := [.data], laidTests := true, laidLooks := .later }
def TableAtCardSaid : Prop := Claim7.holds Tryd.pinned (.plain (OpenSpec.ofChange tableAtSpec)) tableAtCard

/-- THE TIED CARD OF 'dogwatchlaw17.TableTwice'. -/
def tableTwiceCard : Claim7 := { stood := { row := tableTwiceRow, standIns := [], harness := (true, "79cde53cfc3878b3d242c4a079a631213c71a33746428ac5aaaf957b414a5621"), looks := false }, kinds := [], alts := [], laidByText := true, laidKinds := [.data], laidTests := true, laidLooks := .later }
def TableTwiceCardSaid : Prop := Claim7.holds Tryd.pinned (.plain (OpenSpec.ofChange tableTwiceSpec)) tableTwiceCard

/-- THE TIED CARD OF 'dogwatchlaw17.TableBack'. -/
def tableBackCard : Claim7 := { stood := { row := tableBackRow, standIns := [], harness := (true, "79cde53cfc3878b3d242c4a079a631213c71a33746428ac5aaaf957b414a5621"), looks := false }, kinds := [], alts := [], laidByText := true, laidKinds := [.data], laidTests := true, laidLooks := .later }
def TableBackCardSaid : Prop := Claim7.holds Tryd.pinned (.plain (OpenSpec.ofChange tableBackSpec)) tableBackCard

/-- THE SECOND FORM's CARD OF 'dogwatchlaw17.TableOf'. -/
def tableOfUptoCard : Claim7 := { stood := { row := tableOfUptoRow, standIns := [], harness := (true, "79cde53cfc3878b3d242c4a079a631213c71a33746428ac5aaaf957b414a5621"), looks := false }, kinds := [], alts := [], laidByText := true, laidKinds := [.data], laidTests := true, laidLooks := .later }
def TableOfUptoCardSaid : Prop := Claim7.holds Tryd.pinned (.plain (OpenSpec.upto tableOfSpec)) tableOfUptoCard

/-- THE SECOND FORM's CARD OF 'dogwatchlaw17.TableAt'. -/
def tableAtUptoCard : Claim7 := { stood := { row := tableAtUptoRow, standIns := [], harness := (true, "79cde53cfc3878b3d242c4a079a631213c71a33746428ac5aaaf957b414a5621"), looks := false }, kinds := [], alts := [], laidByText := true, laidKinds := [.data], laidTests := true, laidLooks := .later }
def TableAtUptoCardSaid : Prop := Claim7.holds Tryd.pinned (.plain (OpenSpec.upto tableAtSpec)) tableAtUptoCard

/-- THE SECOND FORM's CARD OF 'dogwatchlaw17.TableTwice'. -/
def tableTwiceUptoCard : Claim7 := { stood := { row := tableTwiceUptoRow, standIns := [], harness := (true, "79cde53cfc3878b3d242c4a079a631213c71a33746428ac5aaaf957b414a5621"), looks := false }, kinds := [], alts := [], laidByText := true, laidKinds := [.data], laidTests := true, laidLooks := .later }
def TableTwiceUptoCardSaid : Prop := Claim7.holds Tryd.pinned (.plain (OpenSpec.upto tableTwiceSpec)) tableTwiceUptoCard

/-- THE SECOND FORM's CARD OF 'dogwatchlaw17.TableBack'. -/
def tableBackUptoCard : Claim7 := { stood := { row := tableBackUptoRow, standIns := [], harness := (true, "79cde53cfc3878b3d242c4a079a631213c71a33746428ac5aaaf957b414a5621"), looks := false }, kinds := [], alts := [], laidByText := true, laidKinds := [.data], laidTests := true, laidLooks := .later }
def TableBackUptoCardSaid : Prop := Claim7.holds Tryd.pinned (.plain (OpenSpec.upto tableBackSpec)) tableBackUptoCard
end Rows
end Go.Proofs.YtnnebejpegfkbaaDoor
