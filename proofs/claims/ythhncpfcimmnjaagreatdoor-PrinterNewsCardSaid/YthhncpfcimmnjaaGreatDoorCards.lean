/-
  DERIVED. GIVEN WITH THE SEED: THE CARDS: each row of YthhncpfcimmnjaaGreatDoorRows.lean that lists a variable, with what it lists TIED to the program's text (the seventh form; the later family's looks); each row that meets fmt, with fmt's text TOLD by the authors' own Lean function (tested against real Go, not proved from fmt's source: count such statements apart). THE CARD IS WHAT COUNTS. Prove the row's statement (the work); the ties are given (YthhncpfcimmnjaaGreatDoorTie.lean); close each card by the builder's one call (the guide's Derived/Test/ToyasCard.lean, 'card_holds'). Laid BY PROGRAM, IN A SANDBOX (cutbox-door.mjs). By AI agents, Wed Nov 11 2026. No macro, syntax, notation, axiom, sorry.
-/
import Derived.Test.YthhncpfcimmnjaaGreatDoorRows
import GoSem.ClaimSeven
namespace Go.Proofs.YthhncpfcimmnjaaGreatDoor
namespace Rows

/-- THE TIED CARD OF 'additivelaw58.PrinterNews'. -/
def printerNewsCard : Claim7 := { stood := { row := printerNewsRow, standIns := [], harness := (true, "e9dedafd16ad8e3f892ee600b60b74490788b3ceba7ff349d5a15e41daa79731"), looks := true }, kinds := [], alts := [], laidByText := true, laidKinds := [.data, .pinned], laidTests := true, laidLooks := .later }
def PrinterNewsCardSaid : Prop := Claim7.holds Tryz.pinned (.plain (OpenSpec.ofChange printerNewsSpec)) printerNewsCard

/-- THE SECOND FORM's CARD OF 'additivelaw58.PrinterNews'. -/
def printerNewsUptoCard : Claim7 := { stood := { row := printerNewsUptoRow, standIns := [], harness := (true, "e9dedafd16ad8e3f892ee600b60b74490788b3ceba7ff349d5a15e41daa79731"), looks := true }, kinds := [], alts := [], laidByText := true, laidKinds := [.data, .pinned], laidTests := true, laidLooks := .later }
def PrinterNewsUptoCardSaid : Prop := Claim7.holds Tryz.pinned (.plain (OpenSpec.upto printerNewsSpec)) printerNewsUptoCard
end Rows
end Go.Proofs.YthhncpfcimmnjaaGreatDoor
