/-
  DERIVED. GIVEN WITH THE SEED: THE CARDS: each row of YtkmohnciiincmaaDoorRows.lean that lists a variable, with what it lists TIED to the program's text (the seventh form; the later family's looks); each row that meets fmt, with fmt's text TOLD by the authors' own Lean function (tested against real Go, not proved from fmt's source: count such statements apart). THE CARD IS WHAT COUNTS. Prove the row's statement (the work); the ties are given (YtkmohnciiincmaaDoorTie.lean); close each card by the builder's one call (the guide's Derived/Test/ToyasCard.lean, 'card_holds'). Laid BY PROGRAM, IN A SANDBOX (cutbox-door.mjs). By AI agents, Wed Nov 11 2026. No macro, syntax, notation, axiom, sorry.
-/
import Derived.Test.YtkmohnciiincmaaDoorRows
import GoSem.ClaimSeven
namespace Go.Proofs.YtkmohnciiincmaaDoor
namespace Rows

/-- THE TIED CARD OF 'additivelaw39.GcodeParses'. -/
def gcodeParsesCard : Claim7 := { stood := { row := gcodeParsesRow, standIns := [], harness := (true, "aa32b510bf4859abd69f7c952e20aa14812224e99a46c6d215e5a286273c744c"), looks := false }, kinds := [], alts := [], laidByText := true, laidKinds := [.data, .pinned], laidTests := true, laidLooks := .later }
def GcodeParsesCardSaid : Prop := Claim7.holds Tryd.pinned (.plain (OpenSpec.ofChange gcodeParsesSpec)) gcodeParsesCard

/-- THE TIED CARD OF 'additivelaw39.GcodeRoundTrips'. -/
def gcodeRoundTripsCard : Claim7 := { stood := { row := gcodeRoundTripsRow, standIns := [], harness := (true, "aa32b510bf4859abd69f7c952e20aa14812224e99a46c6d215e5a286273c744c"), looks := false }, kinds := [], alts := [], laidByText := true, laidKinds := [.data, .pinned], laidTests := true, laidLooks := .later }
def GcodeRoundTripsCardSaid : Prop := Claim7.holds Tryd.pinned (.plain (OpenSpec.ofChange gcodeRoundTripsSpec)) gcodeRoundTripsCard

/-- THE SECOND FORM's CARD OF 'additivelaw39.GcodeParses'. -/
def gcodeParsesUptoCard : Claim7 := { stood := { row := gcodeParsesUptoRow, standIns := [], harness := (true, "aa32b510bf4859abd69f7c952e20aa14812224e99a46c6d215e5a286273c744c"), looks := false }, kinds := [], alts := [], laidByText := true, laidKinds := [.data, .pinned], laidTests := true, laidLooks := .later }
def GcodeParsesUptoCardSaid : Prop := Claim7.holds Tryd.pinned (.plain (OpenSpec.upto gcodeParsesSpec)) gcodeParsesUptoCard

/-- THE SECOND FORM's CARD OF 'additivelaw39.GcodeRoundTrips'. -/
def gcodeRoundTripsUptoCard : Claim7 := { stood := { row := gcodeRoundTripsUptoRow, standIns := [], harness := (true, "aa32b510bf4859abd69f7c952e20aa14812224e99a46c6d215e5a286273c744c"), looks := false }, kinds := [], alts := [], laidByText := true, laidKinds := [.data, .pinned], laidTests := true, laidLooks := .later }
def GcodeRoundTripsUptoCardSaid : Prop := Claim7.holds Tryd.pinned (.plain (OpenSpec.upto gcodeRoundTripsSpec)) gcodeRoundTripsUptoCard
end Rows
end Go.Proofs.YtkmohnciiincmaaDoor
