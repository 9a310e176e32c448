/-
  DERIVED. GIVEN WITH THE SEED: THE CARDS: each row of YtmnlkganmgcpbaaGreatDoorRows.lean that lists a variable, with what it lists TIED to the program's text (the seventh form; the later family's looks); each row that meets fmt, with fmt's text TOLD by the authors' own Lean function (tested against real Go, not proved from fmt's source: count such statements apart). THE CARD IS WHAT COUNTS. Prove the row's statement (the work); the ties are given (YtmnlkganmgcpbaaGreatDoorTie.lean); close each card by the builder's one call (the guide's Derived/Test/ToyasCard.lean, 'card_holds'). Laid BY PROGRAM, IN A SANDBOX (cutbox-door.mjs). By AI agents, Wed Nov 11 2026. No macro, syntax, notation, axiom, sorry.
-/
import Derived.Test.YtmnlkganmgcpbaaGreatDoorRows
import GoSem.ClaimSeven
namespace Go.Proofs.YtmnlkganmgcpbaaGreatDoor
namespace Rows

/-- THE TIED CARD OF 'barscanlaw28.AztecRoundTrip'. -/
def aztecRoundTripCard : Claim7 := { stood := { row := aztecRoundTripRow, standIns := [], harness := (true, "65e349eac71c602cf550908973254ebb7b14ef88971fe42e5ec397cea621a45b"), looks := false }, kinds := [], alts := [], laidByText := true, laidKinds := [.data, .pinned], laidTests := true, laidLooks := .later }
def AztecRoundTripCardSaid : Prop := Claim7.holds Tryz.pinned (.plain (OpenSpec.ofChange aztecRoundTripSpec)) aztecRoundTripCard

/-- THE TIED CARD OF 'barscanlaw28.AztecCorrects'. -/
def aztecCorrectsCard : Claim7 := { stood := { row := aztecCorrectsRow, standIns := [], harness := (true, "65e349eac71c602cf550908973254ebb7b14ef88971fe42e5ec397cea621a45b"), looks := false }, kinds := [], alts := [], laidByText := true, laidKinds := [.data, .pinned], laidTests := true, laidLooks := .later }
def AztecCorrectsCardSaid : Prop := Claim7.holds Tryz.pinned (.plain (OpenSpec.ofChange aztecCorrectsSpec)) aztecCorrectsCard

/-- THE TIED CARD OF 'barscanlaw28.AztecSides'. -/
def aztecSidesCard : Claim7 := { stood := { row := aztecSidesRow, standIns := [], harness := (true, "65e349eac71c602cf550908973254ebb7b14ef88971fe42e5ec397cea621a45b"), looks := false }, kinds := [], alts := [], laidByText := true, laidKinds := [.data, .pinned], laidTests := true, laidLooks := .later }
def AztecSidesCardSaid : Prop := Claim7.holds Tryz.pinned (.plain (OpenSpec.ofChange aztecSidesSpec)) aztecSidesCard

/-- THE TIED CARD OF 'barscanlaw28.AztecEncodes'. -/
def aztecEncodesCard : Claim7 := { stood := { row := aztecEncodesRow, standIns := [], harness := (true, "65e349eac71c602cf550908973254ebb7b14ef88971fe42e5ec397cea621a45b"), looks := false }, kinds := [], alts := [], laidByText := true, laidKinds := [.data, .pinned], laidTests := true, laidLooks := .later }
def AztecEncodesCardSaid : Prop := Claim7.holds Tryz.pinned (.plain (OpenSpec.ofChange aztecEncodesSpec)) aztecEncodesCard

/-- THE TIED CARD OF 'barscanlaw28.AztecGeometry'. -/
def aztecGeometryCard : Claim7 := { stood := { row := aztecGeometryRow, standIns := [], harness := (true, "65e349eac71c602cf550908973254ebb7b14ef88971fe42e5ec397cea621a45b"), looks := false }, kinds := [], alts := [], laidByText := true, laidKinds := [.data, .pinned], laidTests := true, laidLooks := .later }
def AztecGeometryCardSaid : Prop := Claim7.holds Tryz.pinned (.plain (OpenSpec.ofChange aztecGeometrySpec)) aztecGeometryCard

/-- THE TIED CARD OF 'barscanlaw28.AztecSmallest'. -/
def aztecSmallestCard : Claim7 := { stood := { row := aztecSmallestRow, standIns := [], harness := (true, "65e349eac71c602cf550908973254ebb7b14ef88971fe42e5ec397cea621a45b"), looks := false }, kinds := [], alts := [], laidByText := true, laidKinds := [.data, .pinned], laidTests := true, laidLooks := .later }
def AztecSmallestCardSaid : Prop := Claim7.holds Tryz.pinned (.plain (OpenSpec.ofChange aztecSmallestSpec)) aztecSmallestCard

/-- THE TIED CARD OF 'barscanlaw28.AztecModes'. -/
def aztecModesCard : Claim7 := { stood := { row := aztecModesRow, standIns := [], harness := (true, "65e349eac71c602cf550908973254ebb7b14ef88971fe42e5ec397cea621a45b"), looks := false }, kinds := [], alts := [], laidByText := true, laidKinds := [.data, .pinned], laidTests := true, laidLooks := .later }
def AztecModesCardSaid : Prop := Claim7.holds Tryz.pinned (.plain (OpenSpec.ofChange aztecModesSpec)) aztecModesCard

/-- THE TIED CARD OF 'barscanlaw28.AztecDecodes'. -/
def aztecDecodesCard : Claim7 := { stood := { row := aztecDecodesRow, standIns := [], harness := (true, "65e349eac71c602cf550908973254ebb7b14ef88971fe42e5ec397cea621a45b"), looks := false }, kinds := [], alts := [], laidByText := true, laidKinds := [.data, .pinned], laidTests := true, laidLooks := .later }
def AztecDecodesCardSaid : Prop := Claim7.holds Tryz.pinned (.plain (OpenSpec.ofChange aztecDecodesSpec)) aztecDecodesCard

/-- THE SECOND FORM's CARD OF 'barscanlaw28.AztecRoundTrip'. -/
def aztecRoundTripUptoCard : Claim7 := { stood := { row := aztecRoundTripUptoRow, standIns := [], harness := (true, "65e349eac71c602cf550908973254ebb7b14ef88971fe42e5ec397cea621a45b"), looks := false }, kinds := [], alts := [], laidByText := true, laidKinds := [.data, .pinned], laidTests := true, laidLooks := .later }
def AztecRoundTripUptoCardSaid : Prop := Claim7.holds Tryz.pinned (.plain (OpenSpec.upto aztecRoundTripSpec)) aztecRoundTripUptoCard

/-- THE SECOND FORM's CARD OF 'barscanlaw28.AztecCorrects'. -/
def aztecCorrectsUptoCard : Claim7 := { stood := { row := aztecCorrectsUptoRow, standIns := [], harness := (true, "65e349eac71c602cf550908973254ebb7b14ef88971fe42e5ec397cea621a45b"), looks := false }, kinds := [], alts := [], laidByText := true, laidKinds := [.data, .pinned], laidTests := true, laidLooks := .later }
def AztecCorrectsUptoCardSaid : Prop := Claim7.holds Tryz.pinned (.plain (OpenSpec.upto aztecCorrectsSpec)) aztecCorrectsUptoCard

/-- THE SECOND FORM's CARD OF 'barscanlaw28.AztecSides'. -/
def aztecSidesUptoCard : Claim7 := { stood := { row := aztecSidesUptoRow, standIns := [], harness := (true, "65e349eac71c602cf550908973254ebb7b14ef88971fe42e5ec397cea621a45b"), looks := false }, kinds := [], alts := [], laidByText := true, laidKinds := [.data, .pinned], laidTests := true, laidLooks := .later }
def AztecSidesUptoCardSaid : Prop := Claim7.holds Tryz.pinned (.plain (OpenSpec.upto aztecSidesSpec)) aztecSidesUptoCard

/-- THE SECOND FORM's CARD OF 'barscanlaw28.AztecEncodes'. -/
def aztecEncodesUptoCard : Claim7 := { stood := { row := aztecEncodesUptoRow, standIns := [], harness := (true, "65e349eac71c602cf550908973254ebb7b14ef88971fe42e5ec397cea621a45b"), looks := false }, kinds := [], alts := [], laidByText := true, laidKinds := [.data, .pinned], laidTests := true, laidLooks := .later }
def AztecEncodesUptoCardSaid : Prop := Claim7.holds Tryz.pinned (.plain (OpenSpec.upto aztecEncodesSpec)) aztecEncodesUptoCard

/-- THE SECOND FORM's CARD OF 'barscanlaw28.AztecGeometry'. -/
def aztecGeometryUptoCard : Claim7 := { stood := { row := aztecGeometryUptoRow, standIns := [], harness := (true, "65e349eac71c602cf550908973254ebb7b14ef88971fe42e5ec397cea621a45b"), looks := false }, kinds := [], alts := [], laidByText := true, laidKinds := [.data, .pinned], laidTests := true, laidLooks := .later }
def AztecGeometryUptoCardSaid : Prop := Claim7.holds Tryz.pinned (.plain (OpenSpec.upto aztecGeometrySpec)) aztecGeometryUptoCard

/-- THE SECOND FORM's CARD OF 'barscanlaw28.AztecSmallest'. -/
def aztecSmallestUptoCard : Claim7 := { stood := { row := aztecSmallestUptoRow, standIns := [], harness := (true, "65e349eac71c602cf550908973254ebb7b14ef88971fe42e5ec397cea621a45b"), looks := false }, kinds := [], alts := [], laidByText := true, laidKinds := [.data, .pinned], laidTests := true, laidLooks := .later }
def AztecSmallestUptoCardSaid : Prop := Claim7.holds Tryz.pinned (.plain (OpenSpec.upto aztecSmallestSpec)) aztecSmallestUptoCard

/-- THE SECOND FORM's CARD OF 'barscanlaw28.AztecModes'. -/
def aztecModesUptoCard : Claim7 := { stood := { row := aztecModesUptoRow, standIns := [], harness := (true, "65e349eac71c602cf550908973254ebb7b14ef88971fe42e5ec397cea621a45b"), looks := false }, kinds := [], alts := [], laidByText := true, laidKinds := [.data, .pinned], laidTests := true, laidLooks := .later }
def AztecModesUptoCardSaid : Prop := Claim7.holds Tryz.pinned (.plain (OpenSpec.upto aztecModesSpec)) aztecModesUptoCard

/-- THE SECOND FORM's CARD OF 'barscanlaw28.AztecDecodes'. -/
def aztecDecodesUptoCard : Claim7 := { stood := { row := aztecDecodesUptoRow, standIns := [], harness := (true, "65e349eac71c602cf550908973254ebb7b14ef88971fe42e5ec397cea621a45b"), looks := false }, kinds := [], alts := [], laidByText := true, laidKinds := [.data, .pinned], laidTests := true, laidLooks := .later }
def AztecDecodesUptoCardSaid : Prop := Claim7.holds Tryz.pinned (.plain (OpenSpec.upto aztecDecodesSpec)) aztecDecodesUptoCard
end Rows
end Go.Proofs.YtmnlkganmgcpbaaGreatDoor
