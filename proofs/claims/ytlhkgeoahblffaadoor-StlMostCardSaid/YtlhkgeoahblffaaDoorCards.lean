/-
  DERIVED. GIVEN WITH THE SEED: THE CARDS: each row of YtlhkgeoahblffaaDoorRows.lean that lists a variable, with what it lists TIED to the program's text (the seventh form; the later family's looks); each row that meets fmt, with fmt's text TOLD by the authors' own Lean function (tested against real Go, not proved from fmt's source: count such statements apart). THE CARD IS WHAT COUNTS. Prove the row's statement (the work); the ties are given (YtlhkgeoahblffaaDoorTie.lean); close each card by the builder's one call (the guide's Derived/Test/ToyasCard.lean, 'card_holds'). Laid BY PROGRAM, IN A SANDBOX (cutbox-door.mjs). By AI agents, Wed Nov 11 2026. No macro, syntax, notation, axiom, sorry.
-/
import Derived.Test.YtlhkgeoahblffaaDoorRows
import GoSem.ClaimSeven
namespace Go.Proofs.YtlhkgeoahblffaaDoor
namespace Rows

/-- THE TIED CARD OF 'additivelaw08.StlPrints'. -/
def stlPrintsCard : Claim7 := { stood := { row := stlPrintsRow, standIns := [], harness := (true, "9090c5ffdc91385a6202e3370fa2d69f8aa0054ed27fc9996543e07f4ed766eb"), looks := true }, kinds := [], alts := [], laidByText := true, laidKinds := [.data, .pinned], laidTests := true, laidLooks := .later }
def StlPrintsCardSaid : Prop := Claim7.holds Tryd.pinned (.plain (OpenSpec.ofChange stlPrintsSpec)) stlPrintsCard

/-- THE TIED CARD OF 'additivelaw08.StlParses'. -/
def stlParsesCard : Claim7 := { stood := { row := stlParsesRow, standIns := [], harness := (true, "9090c5ffdc91385a6202e3370fa2d69f8aa0054ed27fc9996543e07f4ed766eb"), looks := true }, kinds := [], alts := [], laidByText := true, laidKinds := [.data, .pinned], laidTests := true, laidLooks := .later }
def StlParsesCardSaid : Prop := Claim7.holds Tryd.pinned (.plain (OpenSpec.ofChange stlParsesSpec)) stlParsesCard

/-- THE TIED CARD OF 'additivelaw08.StlRoundTrips'. -/
def stlRoundTripsCard : Claim7 := { stood := { row := stlRoundTripsRow, standIns := [], harness := (true, "9090c5ffdc91385a6202e3370fa2d69f8aa0054ed27fc9996543e07f4ed766eb"), looks := true }, kinds := [], alts := [], laidByText := true, laidKinds := [.data, .pinned], laidTests := true, laidLooks := .later }
def StlRoundTripsCardSaid : Prop := Claim7.holds Tryd.pinned (.plain (OpenSpec.ofChange stlRoundTripsSpec)) stlRoundTripsCard

/-- THE TIED CARD OF 'additivelaw08.StlCanonical'. -/
def stlCanonicalCard : Claim7 := { stood := { row := stlCanonicalRow, standIns := [], harness := (true, "9090c5ffdc91385a6202e3370fa2d69f8aa0054ed27fc9996543e07f4ed766eb"), looks := true }, kinds := [], alts := [], laidByText := true, laidKinds := [.data, .pinned], laidTests := true, laidLooks := .later }
def StlCanonicalCardSaid : Prop := Claim7.holds Tryd.pinned (.plain (OpenSpec.ofChange stlCanonicalSpec)) stlCanonicalCard

/-- THE TIED CARD OF 'additivelaw08.StlSpaces'. -/
def stlSpacesCard : Claim7 := { stood := { row := stlSpacesRow, standIns := [], harness := (true, "9090c5ffdc91385a6202e3370fa2d69f8aa0054ed27fc9996543e07f4ed766eb"), looks := true }, kinds := [], alts := [], laidByText := true, laidKinds := [.data, .pinned], laidTests := true, laidLooks := .later }
def StlSpacesCardSaid : Prop := Claim7.holds Tryd.pinned (.plain (OpenSpec.ofChange stlSpacesSpec)) stlSpacesCard

/-- THE TIED CARD OF 'additivelaw08.StlLimits'. -/
def stlLimitsCard : Claim7 := { stood := { row := stlLimitsRow, standIns := [], harness := (true, "9090c5ffdc91385a6202e3370fa2d69f8aa0054ed27fc9996543e07f4ed766eb"), looks := true }, kinds := [], alts := [], laidByText := true, laidKinds := [.data, .pinned], laidTests := true, laidLooks := .later }
def StlLimitsCardSaid : Prop := Claim7.holds Tryd.pinned (.plain (OpenSpec.ofChange stlLimitsSpec)) stlLimitsCard

/-- THE TIED CARD OF 'additivelaw08.StlPacks'. -/
def stlPacksCard : Claim7 := { stood := { row := stlPacksRow, standIns := [], harness := (true, "9090c5ffdc91385a6202e3370fa2d69f8aa0054ed27fc9996543e07f4ed766eb"), looks := true }, kinds := [], alts := [], laidByText := true, laidKinds := [.data, .pinned], laidTests := true, laidLooks := .later }
def StlPacksCardSaid : Prop := Claim7.holds Tryd.pinned (.plain (OpenSpec.ofChange stlPacksSpec)) stlPacksCard

/-- THE TIED CARD OF 'additivelaw08.StlUnpacks'. -/
def stlUnpacksCard : Claim7 := { stood := { row := stlUnpacksRow, standIns := [], harness := (true, "9090c5ffdc91385a6202e3370fa2d69f8aa0054ed27fc9996543e07f4ed766eb"), looks := true }, kinds := [], alts := [], laidByText := true, laidKinds := [.data, .pinned], laidTests := true, laidLooks := .later }
def StlUnpacksCardSaid : Prop := Claim7.holds Tryd.pinned (.plain (OpenSpec.ofChange stlUnpacksSpec)) stlUnpacksCard

/-- THE TIED CARD OF 'additivelaw08.StlBytes'. -/
def stlBytesCard : Claim7 := { stood := { row := stlBytesRow, standIns := [], harness := (true, "9090c5ffdc91385a6202e3370fa2d69f8aa0054ed27fc9996543e07f4ed766eb"), looks := true }, kinds := [], alts := [], laidByText := true, laidKinds := [.data, .pinned], laidTests := true, laidLooks := .later }
def StlBytesCardSaid : Prop := Claim7.holds Tryd.pinned (.plain (OpenSpec.ofChange stlBytesSpec)) stlBytesCard

/-- THE TIED CARD OF 'additivelaw08.StlMost'. -/
def stlMostCard : Claim7 := { stood := { row := stlMostRow, standIns := [], harness := (true, "9090c5ffdc91385a6202e3370fa2d69f8aa0054ed27fc9996543e07f4ed766eb"), looks := true }, kinds := [], alts := [], laidByText := true, laidKinds := [.data, .pinned], laidTests := true, laidLooks := .later }
def StlMostCardSaid : Prop := Claim7.holds Tryd.pinned (.plain (OpenSpec.ofChange stlMostSpec)) stlMostCard

/-- THE SECOND FORM's CARD OF 'additivelaw08.StlPrints'. -/
def stlPrintsUptoCard : Claim7 := { stood := { row := stlPrintsUptoRow, standIns := [], harness := (true, "9090c5ffdc91385a6202e3370fa2d69f8aa0054ed27fc9996543e07f4ed766eb"), looks := true }, kinds := [], alts := [], laidByText := true, laidKinds := [.data, .pinned], laidTests := true, laidLooks := .later }
def StlPrintsUptoCardSaid : Prop := Claim7.holds Tryd.pinned (.plain (OpenSpec.upto stlPrintsSpec)) stlPrintsUptoCard

/-- THE SECOND FORM's CARD OF 'additivelaw08.StlParses'. -/
def stlParsesUptoCard : Claim7 := { stood := { row := stlParsesUptoRow, standIns := [], harness := (true, "9090c5ffdc91385a6202e3370fa2d69f8aa0054ed27fc9996543e07f4ed766eb"), looks := true }, kinds := [], alts := [], laidByText := true, laidKinds := [.data, .pinned], laidTests := true, laidLooks := .later }
def StlParsesUptoCardSaid : Prop := Claim7.holds Tryd.pinned (.plain (OpenSpec.upto stlParsesSpec)) stlParsesUptoCard

/-- THE SECOND FORM's CARD OF 'additivelaw08.StlRoundTrips'. -/
def stlRoundTripsUptoCard : Claim7 := { stood := { row := stlRoundTripsUptoRow, standIns := [], harness := (true, "9090c5ffdc91385a6202e3370fa2d69f8aa0054ed27fc9996543e07f4ed766eb"), looks := true }, kinds := [], alts := [], laidByText := true, laidKinds := [.data, .pinned], laidTests := true, laidLooks := .later }
def StlRoundTripsUptoCardSaid : Prop := Claim7.holds Tryd.pinned (.plain (OpenSpec.upto stlRoundTripsSpec)) stlRoundTripsUptoCard

/-- THE SECOND FORM's CARD OF 'additivelaw08.StlCanonical'. -/
def stlCanonicalUptoCard : Claim7 := { stood := { row := stlCanonicalUptoRow, standIns := [], harness := (true, "9090c5ffdc91385a6202e3370fa2d69f8aa0054ed27fc9996543e07f4ed766eb"), looks := true }, kinds := [], alts := [], laidByText := true, laidKinds := [.data, .pinned], laidTests := true, laidLooks := .later }
def StlCanonicalUptoCardSaid : Prop := Claim7.holds Tryd.pinned (.plain (OpenSpec.upto stlCanonicalSpec)) stlCanonicalUptoCard

/-- THE SECOND FORM's CARD OF 'additivelaw08.StlSpaces'. -/
def stlSpacesUptoCard : Claim7 := { stood := { row := stlSpacesUptoRow, standIns := [], harness := (true, "9090c5ffdc91385a6202e3370fa2d69f8aa0054ed27fc9996543e07f4ed766eb"), looks := true }, kinds := [], alts := [], laidByText := true, laidKinds := [.data, .pinned], laidTests := true, laidLooks := .later }
def StlSpacesUptoCardSaid : Prop := Claim7.holds Tryd.pinned (.plain (OpenSpec.upto stlSpacesSpec)) stlSpacesUptoCard

/-- THE SECOND FORM's CARD OF 'additivelaw08.StlLimits'. -/
def stlLimitsUptoCard : Claim7 := { stood := { row := stlLimitsUptoRow, standIns := [], harness := (true, "9090c5ffdc91385a6202e3370fa2d69f8aa0054ed27fc9996543e07f4ed766eb"), looks := true }, kinds := [], alts := [], laidByText := true, laidKinds := [.data, .pinned], laidTests := true, laidLooks := .later }
def StlLimitsUptoCardSaid : Prop := Claim7.holds Tryd.pinned (.plain (OpenSpec.upto stlLimitsSpec)) stlLimitsUptoCard

/-- THE SECOND FORM's CARD OF 'additivelaw08.StlPacks'. -/
def stlPacksUptoCard : Claim7 := { stood := { row := stlPacksUptoRow, standIns := [], harness := (true, "9090c5ffdc91385a6202e3370fa2d69f8aa0054ed27fc9996543e07f4ed766eb"), looks := true }, kinds := [], alts := [], laidByText := true, laidKinds := [.data, .pinned], laidTests := true, laidLooks := .later }
def StlPacksUptoCardSaid : Prop := Claim7.holds Tryd.pinned (.plain (OpenSpec.upto stlPacksSpec)) stlPacksUptoCard

/-- THE SECOND FORM's CARD OF 'additivelaw08.StlUnpacks'. -/
def stlUnpacksUptoCard : Claim7 := { stood := { row := stlUnpacksUptoRow, standIns := [], harness := (true, "9090c5ffdc91385a6202e3370fa2d69f8aa0054ed27fc9996543e07f4ed766eb"), looks := true }, kinds := [], alts := [], laidByText := true, laidKinds := [.data, .pinned], laidTests := true, laidLooks := .later }
def StlUnpacksUptoCardSaid : Prop := Claim7.holds Tryd.pinned (.plain (OpenSpec.upto stlUnpacksSpec)) stlUnpacksUptoCard

/-- THE SECOND FORM's CARD OF 'additivelaw08.StlBytes'. -/
def stlBytesUptoCard : Claim7 := { stood := { row := stlBytesUptoRow, standIns := [], harness := (true, "9090c5ffdc91385a6202e3370fa2d69f8aa0054ed27fc9996543e07f4ed766eb"), looks := true }, kinds := [], alts := [], laidByText := true, laidKinds := [.data, .pinned], laidTests := true, laidLooks := .later }
def StlBytesUptoCardSaid : Prop := Claim7.holds Tryd.pinned (.plain (OpenSpec.upto stlBytesSpec)) stlBytesUptoCard

/-- THE SECOND FORM's CARD OF 'additivelaw08.StlMost'. -/
def stlMostUptoCard : Claim7 := { stood := { row := stlMostUptoRow, standIns := [], harness := (true, "9090c5ffdc91385a6202e3370fa2d69f8aa0054ed27fc9996543e07f4ed766eb"), looks := true }, kinds := [], alts := [], laidByText := true, laidKinds := [.data, .pinned], laidTests := true, laidLooks := .later }
def StlMostUptoCardSaid : Prop := Claim7.holds Tryd.pinned (.plain (OpenSpec.upto stlMostSpec)) stlMostUptoCard
end Rows
end Go.Proofs.YtlhkgeoahblffaaDoor
