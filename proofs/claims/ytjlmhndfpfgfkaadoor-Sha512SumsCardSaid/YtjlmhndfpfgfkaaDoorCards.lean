/-
  DERIVED. GIVEN WITH THE SEED: THE CARDS: each row of YtjlmhndfpfgfkaaDoorRows.lean that lists a variable, with what it lists TIED to the program's text (the seventh form; the later family's looks); each row that meets fmt, with fmt's text TOLD by the authors' own Lean function (tested against real Go, not proved from fmt's source: count such statements apart). THE CARD IS WHAT COUNTS. Prove the row's statement (the work); the ties are given (YtjlmhndfpfgfkaaDoorTie.lean); close each card by the builder's one call (the guide's Derived/Test/ToyasCard.lean, 'card_holds'). Laid BY PROGRAM, IN A SANDBOX (cutbox-door.mjs). By AI agents, Wed Nov 11 2026. No macro, syntax, notation, axiom, sorry.
-/
import Derived.Test.YtjlmhndfpfgfkaaDoorRows
import GoSem.ClaimSeven
namespace Go.Proofs.YtjlmhndfpfgfkaaDoor
namespace Rows

/-- THE TIED CARD OF 'imprimaturlaw03.Sha512Sums'. -/
def sha512SumsCard : Claim7 := { stood := { row := sha512SumsRow, standIns := [], harness := (true, "9b59b1b5a2e689a23c32c7c7531c06e023c95e65211c096a3b50f70e64dce62b"), looks := false }, kinds := [], alts := [], laidByText := true, laidKinds := [.data], laidTests := true, laidLooks := .later }
def Sha512SumsCardSaid : Prop := Claim7.holds Tryd.pinned (.plain (OpenSpec.ofChange sha512SumsSpec)) sha512SumsCard

/-- THE TIED CARD OF 'imprimaturlaw03.Sha512Blocks'. -/
def sha512BlocksCard : Claim7 := { stood := { row := sha512BlocksRow, standIns := [], harness := (true, "9b59b1b5a2e689a23c32c7c7531c06e023c95e65211c096a3b50f70e64dce62b"), looks := false }, kinds := [], alts := [], laidByText := true, laidKinds := [.data], laidTests := true, laidLooks := .later }
def Sha512BlocksCardSaid : Prop := Claim7.holds Tryd.pinned (.plain (OpenSpec.ofChange sha512BlocksSpec)) sha512BlocksCard

/-- THE TIED CARD OF 'imprimaturlaw03.Sha512Goes'. -/
def sha512GoesCard : Claim7 := { stood := { row := sha512GoesRow, standIns := [], harness := (true, "9b59b1b5a2e689a23c32c7c7531c06e023c95e65211c096a3b50f70e64dce62b"), looks := false }, kinds := [], alts := [], laidByText := true, laidKinds := [.data], laidTests := true, laidLooks := .later }
def Sha512GoesCardSaid : Prop := Claim7.holds Tryd.pinned (.plain (OpenSpec.ofChange sha512GoesSpec)) sha512GoesCard

/-- THE TIED CARD OF 'imprimaturlaw03.Sha512Pieces'. -/
def sha512PiecesCard : Claim7 := { stood := { row := sha512PiecesRow, standIns := [], harness := (true, "9b59b1b5a2e689a23c32c7c7531c06e023c95e65211c096a3b50f70e64dce62b"), looks := false }, kinds := [], alts := [], laidByText := true, laidKinds := [.data], laidTests := true, laidLooks := .later }
def Sha512PiecesCardSaid : Prop := Claim7.holds Tryd.pinned (.plain (OpenSpec.ofChange sha512PiecesSpec)) sha512PiecesCard

/-- THE SECOND FORM's CARD OF 'imprimaturlaw03.Sha512Sums'. -/
def sha512SumsUptoCard : Claim7 := { stood := { row := sha512SumsUptoRow, standIns := [], harness := (true, "9b59b1b5a2e689a23c32c7c7531c06e023c95e65211c096a3b50f70e64dce62b"), looks := false }, kinds := [], alts := [], laidByText := true, laidKinds := [.data], laidTests := true, laidLooks := .later }
def Sha512SumsUptoCardSaid : Prop := Claim7.holds Tryd.pinned (.plain (OpenSpec.upto sha512SumsSpec)) sha512SumsUptoCard

/-- THE SECOND FORM's CARD OF 'imprimaturlaw03.Sha512Blocks'. -/
def sha512BlocksUptoCard : Claim7 := { stood := { row := sha512BlocksUptoRow, standIns := [], harness := (true, "9b59b1b5a2e689a23c32c7c7531c06e023c95e65211c096a3b50f70e64dce62b"), looks := false }, kinds := [], alts := [], laidByText := true, laidKinds := [.data], laidTests := true, laidLooks := .later }
def Sha512BlocksUptoCardSaid : Prop := Claim7.holds Tryd.pinned (.plain (OpenSpec.upto sha512BlocksSpec)) sha512BlocksUptoCard

/-- THE SECOND FORM's CARD OF 'imprimaturlaw03.Sha512Goes'. -/
def sha512GoesUptoCard : Claim7 := { stood := { row := sha512GoesUptoRow, standIns := [], harness := (true, "9b59b1b5a2e689a23c32c7c7531c06e023c95e65211c096a3b50f70e64dce62b"), looks := false }, kinds := [], alts := [], laidByText := true, laidKinds := [.data], laidTests := true, laidLooks := .later }
def Sha512GoesUptoCardSaid : Prop := Claim7.holds Tryd.pinned (.plain (OpenSpec.upto sha512GoesSpec)) sha512GoesUptoCard

/-- THE SECOND FORM's CARD OF 'imprimaturlaw03.Sha512Pieces'. -/
def sha512PiecesUptoCard : Claim7 := { stood := { row := sha512PiecesUptoRow, standIns := [], harness := (true, "9b59b1b5a2e689a23c32c7c7531c06e023c95e65211c096a3b50f70e64dce62b"), looks := false }, kinds := [], alts := [], laidByText := true, laidKinds := [.data], laidTests := true, laidLooks := .later }
def Sha512PiecesUptoCardSaid : Prop := Claim7.holds Tryd.pinned (.plain (OpenSpec.upto sha512PiecesSpec)) sha512PiecesUptoCard
end Rows
end Go.Proofs.YtjlmhndfpfgfkaaDoor
