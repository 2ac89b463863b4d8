/-
  DERIVED. GIVEN WITH THE SEED: THE CARDS: each row of YteignlfpjmfleaaDoorRows.lean that lists a variable, with what it lists TIED to the program's text (the seventh form; the later family's looks); each row that meets fmt, with fmt's text TOLD by the authors' own Lean function (tested against real Go, not proved from fmt's source: count such statements apart). THE CARD IS WHAT COUNTS. Prove the row's statement (the work); the ties are given (YteignlfpjmfleaaDoorTie.lean); close each card by the builder's one call (the guide's Derived/Test/ToyasCard.lean, 'card_holds'). Laid BY PROGRAM, IN A SANDBOX (cutbox-door.mjs). By AI agents, Wed Nov 11 2026. No macro, syntax, notation, axiom, sorry.
-/
import Derived.Test.YteignlfpjmfleaaDoorRows
import GoSem.ClaimSeven
namespace Go.Proofs.YteignlfpjmfleaaDoor
namespace Rows

/-- THE TIED CARD OF 'imprimaturlaw13.GlobMatches'. -/
def globMatchesCard : Claim7 := { stood := { row := globMatchesRow, standIns := [], harness := (true, "5dddd353a9cb4bd72f8bf2a143e35f33a7f0e9a68a5b6d165eb1b67376a3d1bf"), looks := false }, kinds := [], alts := [], laidByText := true, laidKinds := [.data, .pinned], laidTests := true, laidLooks := .later }
def GlobMatchesCardSaid : Prop := Claim7.holds Tryd.pinned (.plain (OpenSpec.ofChange globMatchesSpec)) globMatchesCard

/-- THE TIED CARD OF 'imprimaturlaw13.GlobFirst'. -/
def globFirstCard : Claim7 := { stood := { row := globFirstRow, standIns := [], harness := (true, "5dddd353a9cb4bd72f8bf2a143e35f33a7f0e9a68a5b6d165eb1b67376a3d1bf"), looks := false }, kinds := [], alts := [], laidByText := true, laidKinds := [.data, .pinned], laidTests := true, laidLooks := .later }
def GlobFirstCardSaid : Prop := Claim7.holds Tryd.pinned (.plain (OpenSpec.ofChange globFirstSpec)) globFirstCard

/-- THE TIED CARD OF 'imprimaturlaw13.GlobMarks'. -/
def globMarksCard : Claim7 := { stood := { row := globMarksRow, standIns := [], harness := (true, "5dddd353a9cb4bd72f8bf2a143e35f33a7f0e9a68a5b6d165eb1b67376a3d1bf"), looks := false }, kinds := [], alts := [], laidByText := true, laidKinds := [.data, .pinned], laidTests := true, laidLooks := .later }
def GlobMarksCardSaid : Prop := Claim7.holds Tryd.pinned (.plain (OpenSpec.ofChange globMarksSpec)) globMarksCard

/-- THE TIED CARD OF 'imprimaturlaw13.GlobStars'. -/
def globStarsCard : Claim7 := { stood := { row := globStarsRow, standIns := [], harness := (true, "5dddd353a9cb4bd72f8bf2a143e35f33a7f0e9a68a5b6d165eb1b67376a3d1bf"), looks := false }, kinds := [], alts := [], laidByText := true, laidKinds := [.data, .pinned], laidTests := true, laidLooks := .later }
def GlobStarsCardSaid : Prop := Claim7.holds Tryd.pinned (.plain (OpenSpec.ofChange globStarsSpec)) globStarsCard

/-- THE SECOND FORM's CARD OF 'imprimaturlaw13.GlobMatches'. -/
def globMatchesUptoCard : Claim7 := { stood := { row := globMatchesUptoRow, standIns := [], harness := (true, "5dddd353a9cb4bd72f8bf2a143e35f33a7f0e9a68a5b6d165eb1b67376a3d1bf"), looks := false }, kinds := [], alts := [], laidByText := true, laidKinds := [.data, .pinned], laidTests := true, laidLooks := .later }
def GlobMatchesUptoCardSaid : Prop := Claim7.holds Tryd.pinned (.plain (OpenSpec.upto globMatchesSpec)) globMatchesUptoCard

/-- THE SECOND FORM's CARD OF 'imprimaturlaw13.GlobFirst'. -/
def globFirstUptoCard : Claim7 := { stood := { row := globFirstUptoRow, standIns := [], harness := (true, "5dddd353a9cb4bd72f8bf2a143e35f33a7f0e9a68a5b6d165eb1b67376a3d1bf"), looks := false }, kinds := [], alts := [], laidByText := true, laidKinds := [.data, .pinned], laidTests := true, laidLooks := .later }
def GlobFirstUptoCardSaid : Prop := Claim7.holds Tryd.pinned (.plain (OpenSpec.upto globFirstSpec)) globFirstUptoCard

/-- THE SECOND FORM's CARD OF 'imprimaturlaw13.GlobMarks'. -/
def globMarksUptoCard : Claim7 := { stood := { row := globMarksUptoRow, standIns := [], harness := (true, "5dddd353a9cb4bd72f8bf2a143e35f33a7f0e9a68a5b6d165eb1b67376a3d1bf"), looks := false }, kinds := [], alts := [], laidByText := true, laidKinds := [.data, .pinned], laidTests := true, laidLooks := .later }
def GlobMarksUptoCardSaid : Prop := Claim7.holds Tryd.pinned (.plain (OpenSpec.upto globMarksSpec)) globMarksUptoCard

/-- THE SECOND FORM's CARD OF 'imprimaturlaw13.GlobStars'. -/
def globStarsUptoCard : Claim7 := { stood := { row := globStarsUptoRow, standIns := [], harness := (true, "5dddd353a9cb4bd72f8bf2a143e35f33a7f0e9a68a5b6d165eb1b67376a3d1bf"), looks := false }, kinds := [], alts := [], laidByText := true, laidKinds := [.data, .pinned], laidTests := true, laidLooks := .later }
def GlobStarsUptoCardSaid : Prop := Claim7.holds Tryd.pinned (.plain (OpenSpec.upto globStarsSpec)) globStarsUptoCard
end Rows
end Go.Proofs.YteignlfpjmfleaaDoor
