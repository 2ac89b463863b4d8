/-
  DERIVED. GIVEN WITH THE SEED: THE CARDS: each row of YtmgkgjacnbeboaaDoorRows.lean that lists a variable, with what it lists TIED to the program's text (the seventh form; the later family's looks); each row that meets fmt, with fmt's text TOLD by the authors' own Lean function (tested against real Go, not proved from fmt's source: count such statements apart). THE CARD IS WHAT COUNTS. Prove the row's statement (the work); the ties are given (YtmgkgjacnbeboaaDoorTie.lean); close each card by the builder's one call (the guide's Derived/Test/ToyasCard.lean, 'card_holds'). Laid BY PROGRAM, IN A SANDBOX (cutbox-door.mjs). By AI agents, Wed Nov 11 2026. No macro, syntax, notation, axiom, sorry.
-/
import Derived.Test.YtmgkgjacnbeboaaDoorRows
import GoSem.ClaimSeven
namespace Go.Proofs.YtmgkgjacnbeboaaDoor
namespace Rows

/-- THE TIED CARD OF 'imprimaturlaw20.NameMakes'. -/
def nameMakesCard : Claim7 := { stood := { row := nameMakesRow, standIns := [], harness := (true, "1f2dfd0f628abc2af6628e6592ad5460aaa987339ebeed8ae2915b6277e59caa"), looks := true }, kinds := [], alts := [], laidByText := true, laidKinds := [.data, .data, .data, .data, .pinned], laidTests := true, laidLooks := .later }
def NameMakesCardSaid : Prop := Claim7.holds Tryd.pinned (.plain (OpenSpec.ofChange nameMakesSpec)) nameMakesCard

/-- THE TIED CARD OF 'imprimaturlaw20.NameReads'. -/
def nameReadsCard : Claim7 := { stood := { row := nameReadsRow, standIns := [], harness := (true, "1f2dfd0f628abc2af6628e6592ad5460aaa987339ebeed8ae2915b6277e59caa"), looks := true }, kinds := [], alts := [], laidByText := true, laidKinds := [.data, .data, .data, .data, .sentinel, .sentinel, .pinned], laidTests := true, laidLooks := .later }
def NameReadsCardSaid : Prop := Claim7.holds Tryd.pinned (.plain (OpenSpec.ofChange nameReadsSpec)) nameReadsCard

/-- THE TIED CARD OF 'imprimaturlaw20.NameApart'. -/
def nameApartCard : Claim7 := { stood := { row := nameApartRow, standIns := [], harness := (true, "1f2dfd0f628abc2af6628e6592ad5460aaa987339ebeed8ae2915b6277e59caa"), looks := true }, kinds := [], alts := [], laidByText := true, laidKinds := [.data, .data, .data, .data, .sentinel, .sentinel, .pinned], laidTests := true, laidLooks := .later }
def NameApartCardSaid : Prop := Claim7.holds Tryd.pinned (.plain (OpenSpec.ofChange nameApartSpec)) nameApartCard

/-- THE TIED CARD OF 'imprimaturlaw20.NameLogs'. -/
def nameLogsCard : Claim7 := { stood := { row := nameLogsRow, standIns := [], harness := (true, "1f2dfd0f628abc2af6628e6592ad5460aaa987339ebeed8ae2915b6277e59caa"), looks := true }, kinds := [], alts := [], laidByText := true, laidKinds := [.data, .data, .data, .data, .sentinel, .sentinel, .pinned], laidTests := true, laidLooks := .later }
def NameLogsCardSaid : Prop := Claim7.holds Tryd.pinned (.plain (OpenSpec.ofChange nameLogsSpec)) nameLogsCard

/-- THE SECOND FORM's CARD OF 'imprimaturlaw20.NameMakes'. -/
def nameMakesUptoCard : Claim7 := { stood := { row := nameMakesUptoRow, standIns := [], harness := (true, "1f2dfd0f628abc2af6628e6592ad5460aaa987339ebeed8ae2915b6277e59caa"), looks := true }, kinds := [], alts := [], laidByText := true, laidKinds := [.data, .data, .data, .data, .pinned], laidTests := true, laidLooks := .later }
def NameMakesUptoCardSaid : Prop := Claim7.holds Tryd.pinned (.plain (OpenSpec.upto nameMakesSpec)) nameMakesUptoCard

/-- THE SECOND FORM's CARD OF 'imprimaturlaw20.NameReads'. -/
def nameReadsUptoCard : Claim7 := { stood := { row := nameReadsUptoRow, standIns := [], harness := (true, "1f2dfd0f628abc2af6628e6592ad5460aaa987339ebeed8ae2915b6277e59caa"), looks := true }, kinds := [], alts := [], laidByText := true, laidKinds := [.data, .data, .data, .data, .sentinel, .sentinel, .pinned], laidTests := true, laidLooks := .later }
def NameReadsUptoCardSaid : Prop := Claim7.holds Tryd.pinned (.plain (OpenSpec.upto nameReadsSpec)) nameReadsUptoCard

/-- THE SECOND FORM's CARD OF 'imprimaturlaw20.NameApart'. -/
def nameApartUptoCard : Claim7 := { stood := { row := nameApartUptoRow, standIns := [], harness := (true, "1f2dfd0f628abc2af6628e6592ad5460aaa987339ebeed8ae2915b6277e59caa"), looks := true }, kinds := [], alts := [], laidByText := true, laidKinds := [.data, .data, .data, .data, .sentinel, .sentinel, .pinned], laidTests := true, laidLooks := .later }
def NameApartUptoCardSaid : Prop := Claim7.holds Tryd.pinned (.plain (OpenSpec.upto nameApartSpec)) nameApartUptoCard

/-- THE SECOND FORM's CARD OF 'imprimaturlaw20.NameLogs'. -/
def nameLogsUptoCard : Claim7 := { stood := { row := nameLogsUptoRow, standIns := [], harness := (true, "1f2dfd0f628abc2af6628e6592ad5460aaa987339ebeed8ae2915b6277e59caa"), looks := true }, kinds := [], alts := [], laidByText := true, laidKinds := [.data, .data, .data, .data, .sentinel, .sentinel, .pinned], laidTests := true, laidLooks := .later }
def NameLogsUptoCardSaid : Prop := Claim7.holds Tryd.pinned (.plain (OpenSpec.upto nameLogsSpec)) nameLogsUptoCard
end Rows
end Go.Proofs.YtmgkgjacnbeboaaDoor
