/-
  DERIVED. GIVEN WITH THE SEED: THE CARDS: each row of YtgcflmhlegagbaaGreatDoorRows.lean that lists a variable, with what it lists TIED to the program's text (the seventh form; the later family's looks); each row that meets fmt, with fmt's text TOLD by the authors' own Lean function (tested against real Go, not proved from fmt's source: count such statements apart). THE CARD IS WHAT COUNTS. Prove the row's statement (the work); the ties are given (YtgcflmhlegagbaaGreatDoorTie.lean); close each card by the builder's one call (the guide's Derived/Test/ToyasCard.lean, 'card_holds'). Laid BY PROGRAM, IN A SANDBOX (cutbox-door.mjs). By AI agents, Wed Nov 11 2026. No macro, syntax, notation, axiom, sorry.
-/
import Derived.Test.YtgcflmhlegagbaaGreatDoorRows
import GoSem.ClaimSeven
namespace Go.Proofs.YtgcflmhlegagbaaGreatDoor
namespace Rows

/-- THE TIED CARD OF 'imprimaturlaw16.DelegWalks'. -/
def delegWalksCard : Claim7 := { stood := { row := delegWalksRow, standIns := [], harness := (true, "7ca19ac854e7cedb9c7155eb2253e947503b6f2b2849c2a2eb6739280bebbbec"), looks := false }, kinds := [], alts := [], laidByText := true, laidKinds := [.data, .data, .pinned], laidTests := true, laidLooks := .later }
def DelegWalksCardSaid : Prop := Claim7.holds Tryz.pinned (.plain (OpenSpec.ofChange delegWalksSpec)) delegWalksCard

/-- THE TIED CARD OF 'imprimaturlaw16.DelegOnce'. -/
def delegOnceCard : Claim7 := { stood := { row := delegOnceRow, standIns := [], harness := (true, "7ca19ac854e7cedb9c7155eb2253e947503b6f2b2849c2a2eb6739280bebbbec"), looks := false }, kinds := [], alts := [], laidByText := true, laidKinds := [.data, .data, .pinned], laidTests := true, laidLooks := .later }
def DelegOnceCardSaid : Prop := Claim7.holds Tryz.pinned (.plain (OpenSpec.ofChange delegOnceSpec)) delegOnceCard

/-- THE TIED CARD OF 'imprimaturlaw16.DelegGoes'. -/
def delegGoesCard : Claim7 := { stood := { row := delegGoesRow, standIns := [], harness := (true, "7ca19ac854e7cedb9c7155eb2253e947503b6f2b2849c2a2eb6739280bebbbec"), looks := false }, kinds := [], alts := [], laidByText := true, laidKinds := [.data, .data, .pinned], laidTests := true, laidLooks := .later }
def DelegGoesCardSaid : Prop := Claim7.holds Tryz.pinned (.plain (OpenSpec.ofChange delegGoesSpec)) delegGoesCard

/-- THE TIED CARD OF 'imprimaturlaw16.DelegLast'. -/
def delegLastCard : Claim7 := { stood := { row := delegLastRow, standIns := [], harness := (true, "7ca19ac854e7cedb9c7155eb2253e947503b6f2b2849c2a2eb6739280bebbbec"), looks := false }, kinds := [], alts := [], laidByText := true, laidKinds := [.data, .data, .pinned], laidTests := true, laidLooks := .later }
def DelegLastCardSaid : Prop := Claim7.holds Tryz.pinned (.plain (OpenSpec.ofChange delegLastSpec)) delegLastCard

/-- THE TIED CARD OF 'imprimaturlaw16.DelegNone'. -/
def delegNoneCard : Claim7 := { stood := { row := delegNoneRow, standIns := [], harness := (true, "7ca19ac854e7cedb9c7155eb2253e947503b6f2b2849c2a2eb6739280bebbbec"), looks := false }, kinds := [], alts := [], laidByText := true, laidKinds := [.data, .data, .pinned], laidTests := true, laidLooks := .later }
def DelegNoneCardSaid : Prop := Claim7.holds Tryz.pinned (.plain (OpenSpec.ofChange delegNoneSpec)) delegNoneCard

/-- THE SECOND FORM's CARD OF 'imprimaturlaw16.DelegWalks'. -/
def delegWalksUptoCard : Claim7 := { stood := { row := delegWalksUptoRow, standIns := [], harness := (true, "7ca19ac854e7cedb9c7155eb2253e947503b6f2b2849c2a2eb6739280bebbbec"), looks := false }, kinds := [], alts := [], laidByText := true, laidKinds := [.data, .data, .pinned], laidTests := true, laidLooks := .later }
def DelegWalksUptoCardSaid : Prop := Claim7.holds Tryz.pinned (.plain (OpenSpec.upto delegWalksSpec)) delegWalksUptoCard

/-- THE SECOND FORM's CARD OF 'imprimaturlaw16.DelegOnce'. -/
def delegOnceUptoCard : Claim7 := { stood := { row := delegOnceUptoRow, standIns := [], harness := (true, "7ca19ac854e7cedb9c7155eb2253e947503b6f2b2849c2a2eb6739280bebbbec"), looks := false }, kinds := [], alts := [], laidByText := true, laidKinds := [.data, .data, .pinned], laidTests := true, laidLooks := .later }
def DelegOnceUptoCardSaid : Prop := Claim7.holds Tryz.pinned (.plain (OpenSpec.upto delegOnceSpec)) delegOnceUptoCard

/-- THE SECOND FORM's CARD OF 'imprimaturlaw16.DelegGoes'. -/
def delegGoesUptoCard : Claim7 := { stood := { row := delegGoesUptoRow, standIns := [], harness := (true, "7ca19ac854e7cedb9c7155eb2253e947503b6f2b2849c2a2eb6739280bebbbec"), looks := false }, kinds := [], alts := [], laidByText := true, laidKinds := [.data, .data, .pinned], laidTests := true, laidLooks := .later }
def DelegGoesUptoCardSaid : Prop := Claim7.holds Tryz.pinned (.plain (OpenSpec.upto delegGoesSpec)) delegGoesUptoCard

/-- THE SECOND FORM's CARD OF 'imprimaturlaw16.DelegLast'. -/
def delegLastUptoCard : Claim7 := { stood := { row := delegLastUptoRow, standIns := [], harness := (true, "7ca19ac854e7cedb9c7155eb2253e947503b6f2b2849c2a2eb6739280bebbbec"), looks := false }, kinds := [], alts := [], laidByText := true, laidKinds := [.data, .data, .pinned], laidTests := true, laidLooks := .later }
def DelegLastUptoCardSaid : Prop := Claim7.holds Tryz.pinned (.plain (OpenSpec.upto delegLastSpec)) delegLastUptoCard

/-- THE SECOND FORM's CARD OF 'imprimaturlaw16.DelegNone'. -/
def delegNoneUptoCard : Claim7 := { stood := { row := delegNoneUptoRow, standIns := [], harness := (true, "7ca19ac854e7cedb9c7155eb2253e947503b6f2b2849c2a2eb6739280bebbbec"), looks := false }, kinds := [], alts := [], laidByText := true, laidKinds := [.data, .data, .pinned], laidTests := true, laidLooks := .later }
def DelegNoneUptoCardSaid : Prop := Claim7.holds Tryz.pinned (.plain (OpenSpec.upto delegNoneSpec)) delegNoneUptoCard
end Rows
end Go.Proofs.YtgcflmhlegagbaaGreatDoor
