/-
  DERIVED. GIVEN WITH THE SEED: THE CARDS: each row of YtmkoplmgefaheaaDoorRows.lean that lists a variable, with what it lists TIED to the program's text (the seventh form; the later family's looks); each row that meets fmt, with fmt's text TOLD by the authors' own Lean function (tested against real Go, not proved from fmt's source: count such statements apart). THE CARD IS WHAT COUNTS. Prove the row's statement (the work); the ties are given (YtmkoplmgefaheaaDoorTie.lean); close each card by the builder's one call (the guide's Derived/Test/ToyasCard.lean, 'card_holds'). Laid BY PROGRAM, IN A SANDBOX (cutbox-door.mjs). By AI agents, Wed Nov 11 2026. No macro, syntax, notation, axiom, sorry.
-/
import Derived.Test.YtmkoplmgefaheaaDoorRows
import GoSem.ClaimSeven
namespace Go.Proofs.YtmkoplmgefaheaaDoor
namespace Rows

/-- THE TIED CARD OF 'dogwatchlaw04.MaskRounds'. -/
def maskRoundsCard : Claim7 := { stood := { row := maskRoundsRow, standIns := [], harness := (true, "5a4a1796dc716c41883ca9c161f6fcb8ca8a1b8c7455483e79a48ca9552361b6"), looks := false }, kinds := [], alts := [], laidByText := true, laidKinds := [.data], laidTests := true, laidLooks := .later }
def MaskRoundsCardSaid : Prop := Claim7.holds Tryd.pinned (.plain (OpenSpec.ofChange maskRoundsSpec)) maskRoundsCard

/-- THE TIED CARD OF 'dogwatchlaw04.MaskRuns'. -/
def maskRunsCard : Claim7 := { stood := { row := maskRunsRow, standIns := [], harness := (true, "5a4a1796dc716c41883ca9c161f6fcb8ca8a1b8c7455483e79a48ca9552361b6"), looks := false }, kinds := [], alts := [], laidByText := true, laidKinds := [.data], laidTests := true, laidLooks := .later }
def MaskRunsCardSaid : Prop := Claim7.holds Tryd.pinned (.plain (OpenSpec.ofChange maskRunsSpec)) maskRunsCard

/-- THE TIED CARD OF 'dogwatchlaw04.MaskApart'. -/
def maskApartCard : Claim7 := { stood := { row := maskApartRow, standIns := [], harness := (true, "5a4a1796dc716c41883ca9c161f6fcb8ca8a1b8c7455483e79a48ca9552361b6"), looks := false }, kinds := [], alts := [], laidByText := true, laidKinds := [.data], laidTests := true, laidLooks := .later }
def MaskApartCardSaid : Prop := Claim7.holds Tryd.pinned (.plain (OpenSpec.ofChange maskApartSpec)) maskApartCard

/-- THE TIED CARD OF 'dogwatchlaw04.MaskSets'. -/
def maskSetsCard : Claim7 := { stood := { row := maskSetsRow, standIns := [], harness := (true, "5a4a1796dc716c41883ca9c161f6fcb8ca8a1b8c7455483e79a48ca9552361b6"), looks := false }, kinds := [], alts := [], laidByText := true, laidKinds := [.data], laidTests := true, laidLooks := .later }
def MaskSetsCardSaid : Prop := Claim7.holds Tryd.pinned (.plain (OpenSpec.ofChange maskSetsSpec)) maskSetsCard

/-- THE TIED CARD OF 'dogwatchlaw04.MaskEnds'. -/
def maskEndsCard : Claim7 := { stood := { row := maskEndsRow, standIns := [], harness := (true, "5a4a1796dc716c41883ca9c161f6fcb8ca8a1b8c7455483e79a48ca9552361b6"), looks := false }, kinds := [], alts := [], laidByText := true, laidKinds := [.data], laidTests := true, laidLooks := .later }
def MaskEndsCardSaid : Prop := Claim7.holds Tryd.pinned (.plain (OpenSpec.ofChange maskEndsSpec)) maskEndsCard

/-- THE SECOND FORM's CARD OF 'dogwatchlaw04.MaskRounds'. -/
def maskRoundsUptoCard : Claim7 := { stood := { row := maskRoundsUptoRow, standIns := [], harness := (true, "5a4a1796dc716c41883ca9c161f6fcb8ca8a1b8c7455483e79a48ca9552361b6"), looks := false }, kinds := [], alts := [], laidByText := true, laidKinds := [.data], laidTests := true, laidLooks := .later }
def MaskRoundsUptoCardSaid : Prop := Claim7.holds Tryd.pinned (.plain (OpenSpec.upto maskRoundsSpec)) maskRoundsUptoCard

/-- THE SECOND FORM's CARD OF 'dogwatchlaw04.MaskRuns'. -/
def maskRunsUptoCard : Claim7 := { stood := { row := maskRunsUptoRow, standIns := [], harness := (true, "5a4a1796dc716c41883ca9c161f6fcb8ca8a1b8c7455483e79a48ca9552361b6"), looks := false }, kinds := [], alts := [], laidByText := true, laidKinds := [.data], laidTests := true, laidLooks := .later }
def MaskRunsUptoCardSaid : Prop := Claim7.holds Tryd.pinned (.plain (OpenSpec.upto maskRunsSpec)) maskRunsUptoCard

/-- THE SECOND FORM's CARD OF 'dogwatchlaw04.MaskApart'. -/
def maskApartUptoCard : Claim7 := { stood := { row := maskApartUptoRow, standIns := [], harness := (true, "5a4a1796dc716c41883ca9c161f6fcb8ca8a1b8c7455483e79a48ca9552361b6"), looks := false }, kinds := [], alts := [], laidByText := true, laidKinds := [.data], laidTests := true, laidLooks := .later }
def MaskApartUptoCardSaid : Prop := Claim7.holds Tryd.pinned (.plain (OpenSpec.upto maskApartSpec)) maskApartUptoCard

/-- THE SECOND FORM's CARD OF 'dogwatchlaw04.MaskSets'. -/
def maskSetsUptoCard : Claim7 := { stood := { row := maskSetsUptoRow, standIns := [], harness := (true, "5a4a1796dc716c41883ca9c161f6fcb8ca8a1b8c7455483e79a48ca9552361b6"), looks := false }, kinds := [], alts := [], laidByText := true, laidKinds := [.data], laidTests := true, laidLooks := .later }
def MaskSetsUptoCardSaid : Prop := Claim7.holds Tryd.pinned (.plain (OpenSpec.upto maskSetsSpec)) maskSetsUptoCard

/-- THE SECOND FORM's CARD OF 'dogwatchlaw04.MaskEnds'. -/
def maskEndsUptoCard : Claim7 := { stood := { row := maskEndsUptoRow, standIns := [], harness := (true, "5a4a1796dc716c41883ca9c161f6fcb8ca8a1b8c7455483e79a48ca9552361b6"), looks := false }, kinds := [], alts := [], laidByText := true, laidKinds := [.data], laidTests := true, laidLooks := .later }
def MaskEndsUptoCardSaid : Prop := Claim7.holds Tryd.pinned (.plain (OpenSpec.upto maskEndsSpec)) maskEndsUptoCard
end Rows
end Go.Proofs.YtmkoplmgefaheaaDoor
