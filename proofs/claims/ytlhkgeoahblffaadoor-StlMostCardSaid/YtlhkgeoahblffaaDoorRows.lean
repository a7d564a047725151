/-
  NARROWER THAN 'FOR EVERY INPUT', by the rows' own cells (each row's printed sentence says how): StlPrints: laid · StlParses: laid · StlRoundTrips: laid · StlCanonical: laid · StlSpaces: laid · StlLimits: laid · StlPacks: laid · StlUnpacks: laid · StlBytes: laid · StlMost: laid.
  DERIVED. THE GIVEN ROWS OF THIS SEAT. 10 by the template 'for every input the law returns true; each argument reads behind the call as it read before'; 0 by the template 'total and deterministic' (their statements: YtlhkgeoahblffaaDoorTotals.lean).
  GIVEN WITH THE SEED: the statements are not yours to turn. If you find one false, say at which input.
  Laid BY PROGRAM, IN A SANDBOX (cutbox-rows.mjs): the forced cells as the released guide's own fill.sh prints them over the translation 36b7fb063bf4d6ef… (all of the seat's roots in one cut). By AI agents, Wed Nov 11 2026. No macro, syntax, notation, axiom, sorry.
-/
import Derived.Test.YtlhkgeoahblffaaDoorChecked
import GoSem.PinnedTables
import GoSem.Claim
import GoSem.ClaimJoined
import GoSem.ClaimMapViews
import Derived.JoinedTies
import Derived.KernelRfl
namespace Go.Proofs.YtlhkgeoahblffaaDoor
/- THE CELL 'sum', in the pinned program and in every row, IS THE sha256 OF THE DUMP (.gsa) THAT YtlhkgeoahblffaaDoorProg.lean LOADS. Nothing in Lean hashes anything: it is a label: what it is worth is what the hold of that sum in a sandbox is worth. -/
noncomputable def Tryd.pinned : Pinned := { name := "ytlhkgeoahblffaadoor", sum := "36b7fb063bf4d6efa1dd8249c6322b34b42801ce0df2998a26d1c9d80c410752", checked := Tryd.checked }
namespace Rows
def none {H : Type} : Left H := { results := [], args := [] }

/- WHAT THE LISTED PACKAGE-LEVEL VARIABLES READ AS WHEN THE CALL BEGINS. Each datum BY PROGRAM (the guide's laid-datum.mjs) off the statement by which the dump's own 'gosem.cut.vars' lays the variable. In a bare row this is a premise. The card (YtlhkgeoahblffaaDoorCards.lean) ties it to the program's text. -/
def laid_unicode_utf8_acceptRanges {H : Type} : DataW H := .agg [.agg [.lit (.int .u8 128), .lit (.int .u8 191)], .agg [.lit (.int .u8 160), .lit (.int .u8 191)], .agg [.lit (.int .u8 128), .lit (.int .u8 159)], .agg [.lit (.int .u8 144), .lit (.int .u8 191)], .agg [.lit (.int .u8 128), .lit (.int .u8 143)], .agg [.lit (.int .u8 0), .lit (.int .u8 0)], .agg [.lit (.int .u8 0), .lit (.int .u8 0)], .agg [.lit (.int .u8 0), .lit (.int .u8 0)], .agg [.lit (.int .u8 0), .lit (.int .u8 0)], .agg [.lit (.int .u8 0), .lit (.int .u8 0)], .agg [.lit (.int .u8 0), .lit (.int .u8 0)], .agg [.lit (.int .u8 0), .lit (.int .u8 0)], .agg [.lit (.int .u8 0), .lit (.int .u8 0)], .agg [.lit (.int .u8 0), .lit (.int .u8 0)], .agg [.lit (.int .u8 0), .lit (.int .u8 0)], .agg [.lit (.int .u8 0), .lit (.int .u8 0)]]
/-- One of Go's own tables, pinned by name: the form's constant. -/
def laid_unicode_utf8_first : DataW Unit := Go.Pinned.utf8First

/-- 'additivelaw08.StlPrints': WHATEVER THE INPUT: true; the input reads as it did. -/
def stlPrintsSpec : ChangeSpec := { name := "stlPrints", fn := fun _ => fun
  | [d] => { results := [.lit (.bool true)], args := [d] }
  | _ => none }
def stlPrintsRow : OpenClaim := { program := "ytlhkgeoahblffaadoor", sum := "36b7fb063bf4d6efa1dd8249c6322b34b42801ce0df2998a26d1c9d80c410752", func := "additive/additivelaw08.StlPrints", spec := "stlPrints", inPlace := ["internal/abi.NoEscape", "internal/bytealg.IndexByteString", "internal/bytealg.IndexString"], unfollowed := true, recurses := true, named := ["internal/bytealg.MaxLen", "unicode/utf8.first", "unicode/utf8.acceptRanges"], apart := false, laid := [("unicode/utf8.acceptRanges", laid_unicode_utf8_acceptRanges), ("unicode/utf8.first", laid_unicode_utf8_first)] }
def StlPrintsSaid : Prop := stlPrintsRow.holds Tryd.pinned (OpenSpec.ofChange stlPrintsSpec)

/-- ITS FALSE NEIGHBOUR: 'it returns false'. Refute it at one input. -/
def stlPrintsWrong : ChangeSpec := { name := "stlPrints", fn := fun _ => fun
  | [d] => { results := [.lit (.bool false)], args := [d] }
  | _ => none }
def StlPrintsWrongFalsely : Prop := stlPrintsRow.holds Tryd.pinned (OpenSpec.ofChange stlPrintsWrong)

/-- 'additivelaw08.StlParses': WHATEVER THE INPUT: true; the input reads as it did. -/
def stlParsesSpec : ChangeSpec := { name := "stlParses", fn := fun _ => fun
  | [d] => { results := [.lit (.bool true)], args := [d] }
  | _ => none }
def stlParsesRow : OpenClaim := { program := "ytlhkgeoahblffaadoor", sum := "36b7fb063bf4d6efa1dd8249c6322b34b42801ce0df2998a26d1c9d80c410752", func := "additive/additivelaw08.StlParses", spec := "stlParses", inPlace := ["internal/abi.NoEscape", "internal/bytealg.IndexByteString", "internal/bytealg.IndexString"], unfollowed := true, recurses := true, named := ["internal/bytealg.MaxLen", "unicode/utf8.first", "unicode/utf8.acceptRanges"], apart := false, laid := [("unicode/utf8.acceptRanges", laid_unicode_utf8_acceptRanges), ("unicode/utf8.first", laid_unicode_utf8_first)] }
def StlParsesSaid : Prop := stlParsesRow.holds Tryd.pinned (OpenSpec.ofChange stlParsesSpec)

/-- ITS FALSE NEIGHBOUR: 'it returns false'. Refute it at one input. -/
def stlParsesWrong : ChangeSpec := { name := "stlParses", fn := fun _ => fun
  | [d] => { results := [.lit (.bool false)], args := [d] }
  | _ => none }
def StlParsesWrongFalsely : Prop := stlParsesRow.holds Tryd.pinned (OpenSpec.ofChange stlParsesWrong)

/-- 'additivelaw08.StlRoundTrips': WHATEVER THE INPUT: true; the input reads as it did. -/
def stlRoundTripsSpec : ChangeSpec := { name := "stlRoundTrips", fn := fun _ => fun
  | [d] => { results := [.lit (.bool true)], args := [d] }
  | _ => none }
def stlRoundTripsRow : OpenClaim := { program := "ytlhkgeoahblffaadoor", sum := "36b7fb063bf4d6efa1dd8249c6322b34b42801ce0df2998a26d1c9d80c410752", func := "additive/additivelaw08.StlRoundTrips", spec := "stlRoundTrips", inPlace := ["internal/abi.NoEscape", "internal/bytealg.IndexByteString", "internal/bytealg.IndexString"], unfollowed := true, recurses := true, named := ["internal/bytealg.MaxLen", "unicode/utf8.first", "unicode/utf8.acceptRanges"], apart := false, laid := [("unicode/utf8.acceptRanges", laid_unicode_utf8_acceptRanges), ("unicode/utf8.first", laid_unicode_utf8_first)] }
def StlRoundTripsSaid : Prop := stlRoundTripsRow.holds Tryd.pinned (OpenSpec.ofChange stlRoundTripsSpec)

/-- ITS FALSE NEIGHBOUR: 'it returns false'. Refute it at one input. -/
def stlRoundTripsWrong : ChangeSpec := { name := "stlRoundTrips", fn := fun _ => fun
  | [d] => { results := [.lit (.bool false)], args := [d] }
  | _ => none }
def StlRoundTripsWrongFalsely : Prop := stlRoundTripsRow.holds Tryd.pinned (OpenSpec.ofChange stlRoundTripsWrong)

/-- 'additivelaw08.StlCanonical': WHATEVER THE INPUT: true; the input reads as it did. -/
def stlCanonicalSpec : ChangeSpec := { name := "stlCanonical", fn := fun _ => fun
  | [d] => { results := [.lit (.bool true)], args := [d] }
  | _ => none }
def stlCanonicalRow : OpenClaim := { program := "ytlhkgeoahblffaadoor", sum := "36b7fb063bf4d6efa1dd8249c6322b34b42801ce0df2998a26d1c9d80c410752", func := "additive/additivelaw08.StlCanonical", spec := "stlCanonical", inPlace := ["internal/abi.NoEscape", "internal/bytealg.IndexByteString", "internal/bytealg.IndexString"], unfollowed := true, recurses := true, named := ["internal/bytealg.MaxLen", "unicode/utf8.first", "unicode/utf8.acceptRanges"], apart := false, laid := [("unicode/utf8.acceptRanges", laid_unicode_utf8_acceptRanges), ("unicode/utf8.first", laid_unicode_utf8_first)] }
def StlCanonicalSaid : Prop := stlCanonicalRow.holds Tryd.pinned (OpenSpec.ofChange stlCanonicalSpec)

/-- ITS FALSE NEIGHBOUR: 'it returns false'. Refute it at one input. -/
def stlCanonicalWrong : ChangeSpec := { name := "stlCanonical", fn := fun _ => fun
  | [d] => { results := [.lit (.bool false)], args := [d] }
  | _ => none }
def StlCanonicalWrongFalsely : Prop := stlCanonicalRow.holds Tryd.pinned (OpenSpec.ofChange stlCanonicalWrong)

/-- 'additivelaw08.StlSpaces': WHATEVER THE INPUT: true; the input reads as it did. -/
def stlSpacesSpec : ChangeSpec := { name := "stlSpaces", fn := fun _ => fun
  | [d1, d2] => { results := [.lit (.bool true)], args := [d1, d2] }
  | _ => none }
def stlSpacesRow : OpenClaim := { program := "ytlhkgeoahblffaadoor", sum := "36b7fb063bf4d6efa1dd8249c6322b34b42801ce0df2998a26d1c9d80c410752", func := "additive/additivelaw08.StlSpaces", spec := "stlSpaces", inPlace := ["internal/abi.NoEscape", "internal/bytealg.IndexByteString", "internal/bytealg.IndexString"], unfollowed := true, recurses := true, named := ["internal/bytealg.MaxLen", "unicode/utf8.first", "unicode/utf8.acceptRanges"], apart := false, laid := [("unicode/utf8.acceptRanges", laid_unicode_utf8_acceptRanges), ("unicode/utf8.first", laid_unicode_utf8_first)] }
def StlSpacesSaid : Prop := stlSpacesRow.holds Tryd.pinned (OpenSpec.ofChange stlSpacesSpec)

/-- ITS FALSE NEIGHBOUR: 'it returns false'. Refute it at one input. -/
def stlSpacesWrong : ChangeSpec := { name := "stlSpaces", fn := fun _ => fun
  | [d1, d2] => { results := [.lit (.bool false)], args := [d1, d2] }
  | _ => none }
def StlSpacesWrongFalsely : Prop := stlSpacesRow.holds Tryd.pinned (OpenSpec.ofChange stlSpacesWrong)

/-- 'additivelaw08.StlLimits': WHATEVER THE INPUT: true; the input reads as it did. -/
def stlLimitsSpec : ChangeSpec := { name := "stlLimits", fn := fun _ => fun
  | [d] => { results := [.lit (.bool true)], args := [d] }
  | _ => none }
def stlLimitsRow : OpenClaim := { program := "ytlhkgeoahblffaadoor", sum := "36b7fb063bf4d6efa1dd8249c6322b34b42801ce0df2998a26d1c9d80c410752", func := "additive/additivelaw08.StlLimits", spec := "stlLimits", inPlace := ["internal/abi.NoEscape", "internal/bytealg.IndexByteString", "internal/bytealg.IndexString"], unfollowed := true, recurses := true, named := ["internal/bytealg.MaxLen", "unicode/utf8.first", "unicode/utf8.acceptRanges"], apart := false, laid := [("unicode/utf8.acceptRanges", laid_unicode_utf8_acceptRanges), ("unicode/utf8.first", laid_unicode_utf8_first)] }
def StlLimitsSaid : Prop := stlLimitsRow.holds Tryd.pinned (OpenSpec.ofChange stlLimitsSpec)

/-- ITS FALSE NEIGHBOUR: 'it returns false'. Refute it at one input. -/
def stlLimitsWrong : ChangeSpec := { name := "stlLimits", fn := fun _ => fun
  | [d] => { results := [.lit (.bool false)], args := [d] }
  | _ => none }
def StlLimitsWrongFalsely : Prop := stlLimitsRow.holds Tryd.pinned (OpenSpec.ofChange stlLimitsWrong)

/-- 'additivelaw08.StlPacks': WHATEVER THE INPUT: true; the input reads as it did. -/
def stlPacksSpec : ChangeSpec := { name := "stlPacks", fn := fun _ => fun
  | [d] => { results := [.lit (.bool true)], args := [d] }
  | _ => none }
def stlPacksRow : OpenClaim := { program := "ytlhkgeoahblffaadoor", sum := "36b7fb063bf4d6efa1dd8249c6322b34b42801ce0df2998a26d1c9d80c410752", func := "additive/additivelaw08.StlPacks", spec := "stlPacks", inPlace := ["internal/abi.NoEscape", "internal/bytealg.IndexByteString", "internal/bytealg.IndexString"], unfollowed := true, recurses := true, named := ["internal/bytealg.MaxLen", "unicode/utf8.first", "unicode/utf8.acceptRanges"], apart := false, laid := [("unicode/utf8.acceptRanges", laid_unicode_utf8_acceptRanges), ("unicode/utf8.first", laid_unicode_utf8_first)] }
def StlPacksSaid : Prop := stlPacksRow.holds Tryd.pinned (OpenSpec.ofChange stlPacksSpec)

/-- ITS FALSE NEIGHBOUR: 'it returns false'. Refute it at one input. -/
def stlPacksWrong : ChangeSpec := { name := "stlPacks", fn := fun _ => fun
  | [d] => { results := [.lit (.bool false)], args := [d] }
  | _ => none }
def StlPacksWrongFalsely : Prop := stlPacksRow.holds Tryd.pinned (OpenSpec.ofChange stlPacksWrong)

/-- 'additivelaw08.StlUnpacks': WHATEVER THE INPUT: true; the input reads as it did. -/
def stlUnpacksSpec : ChangeSpec := { name := "stlUnpacks", fn := fun _ => fun
  | [d] => { results := [.lit (.bool true)], args := [d] }
  | _ => none }
def stlUnpacksRow : OpenClaim := { program := "ytlhkgeoahblffaadoor", sum := "36b7fb063bf4d6efa1dd8249c6322b34b42801ce0df2998a26d1c9d80c410752", func := "additive/additivelaw08.StlUnpacks", spec := "stlUnpacks", inPlace := ["internal/abi.NoEscape", "internal/bytealg.IndexByteString", "internal/bytealg.IndexString"], unfollowed := true, recurses := true, named := ["internal/bytealg.MaxLen", "unicode/utf8.first", "unicode/utf8.acceptRanges"], apart := false, laid := [("unicode/utf8.acceptRanges", laid_unicode_utf8_acceptRanges), ("unicode/utf8.first", laid_unicode_utf8_first)] }
def StlUnpacksSaid : Prop := stlUnpacksRow.holds Tryd.pinned (OpenSpec.ofChange stlUnpacksSpec)

/-- ITS FALSE NEIGHBOUR: 'it returns false'. Refute it at one input. -/
def stlUnpacksWrong : ChangeSpec := { name := "stlUnpacks", fn := fun _ => fun
  | [d] => { results := [.lit (.bool false)], args := [d] }
  | _ => none }
def StlUnpacksWrongFalsely : Prop := stlUnpacksRow.holds Tryd.pinned (OpenSpec.ofChange stlUnpacksWrong)

/-- 'additivelaw08.StlBytes': WHATEVER THE INPUT: true; the input reads as it did. -/
def stlBytesSpec : ChangeSpec := { name := "stlBytes", fn := fun _ => fun
  | [d1, d2] => { results := [.lit (.bool true)], args := [d1, d2] }
  | _ => none }
def stlBytesRow : OpenClaim := { program := "ytlhkgeoahblffaadoor", sum := "36b7fb063bf4d6efa1dd8249c6322b34b42801ce0df2998a26d1c9d80c410752", func := "additive/additivelaw08.StlBytes", spec := "stlBytes", inPlace := ["internal/abi.NoEscape", "internal/bytealg.IndexByteString", "internal/bytealg.IndexString"], unfollowed := true, recurses := true, named := ["internal/bytealg.MaxLen", "unicode/utf8.first", "unicode/utf8.acceptRanges"], apart := false, laid := [("unicode/utf8.acceptRanges", laid_unicode_utf8_acceptRanges), ("unicode/utf8.first", laid_unicode_utf8_first)] }
def StlBytesSaid : Prop := stlBytesRow.holds Tryd.pinned (OpenSpec.ofChange stlBytesSpec)

/-- ITS FALSE NEIGHBOUR: 'it returns false'. Refute it at one input. -/
def stlBytesWrong : ChangeSpec := { name := "stlBytes", fn := fun _ => fun
  | [d1, d2] => { results := [.lit (.bool false)], args := [d1, d2] }
  | _ => none }
def StlBytesWrongFalsely : Prop := stlBytesRow.holds Tryd.pinned (OpenSpec.ofChange stlBytesWrong)

/-- 'additivelaw08.StlMost': WHATEVER THE INPUT: true; the input reads as it did. -/
def stlMostSpec : ChangeSpec := { name := "stlMost", fn := fun _ => fun
  | [d] => { results := [.lit (.bool true)], args := [d] }
  | _ => none }
def stlMostRow : OpenClaim := { program := "ytlhkgeoahblffaadoor", sum := "36b7fb063bf4d6efa1dd8249c6322b34b42801ce0df2998a26d1c9d80c410752", func := "additive/additivelaw08.StlMost", spec := "stlMost", inPlace := ["internal/abi.NoEscape", "internal/bytealg.IndexByteString", "internal/bytealg.IndexString"], unfollowed := true, recurses := true, named := ["internal/bytealg.MaxLen", "unicode/utf8.first", "unicode/utf8.acceptRanges"], apart := false, laid := [("unicode/utf8.acceptRanges", laid_unicode_utf8_acceptRanges), ("unicode/utf8.first", laid_unicode_utf8_first)] }
def StlMostSaid : Prop := stlMostRow.holds Tryd.pinned (OpenSpec.ofChange stlMostSpec)

/-- ITS FALSE NEIGHBOUR: 'it returns false'. Refute it at one input. -/
def stlMostWrong : ChangeSpec := { name := "stlMost", fn := fun _ => fun
  | [d] => { results := [.lit (.bool false)], args := [d] }
  | _ => none }
def StlMostWrongFalsely : Prop := stlMostRow.holds Tryd.pinned (OpenSpec.ofChange stlMostWrong)

/- THE SECOND FORM. 'bulk': how many values and letters a reading holds, each counted each time it is reached (what is shared counts as often as it is met; a slice's spare places count too). A statement '..UptoSaid' is the law's where the arguments, and the package variables that the reading takes, are together of bulk at most 1048576: NARROWER than '..Said'. Prove '..Said' where nothing that the law and all that it calls make is longer than what came in: it says more and counts as full. Else prove '..UptoSaid'. A law counts once. -/
mutual
def uptoBulk {H : Type} : DataW H → Nat
  | .lit (.string bytes) => bytes.length + 1
  | .lit _ => 1
  | .nil => 1
  | .ptr d => uptoBulk d + 1
  | .slice elems spare => uptoBulkAll elems + uptoBulkAll spare + 1
  | .agg parts => uptoBulkAll parts + 1
  | .iface _ d => uptoBulk d + 1
  | .map entries => uptoBulkEntries entries + 1
  | .held _ => 1
def uptoBulkAll {H : Type} : List (DataW H) → Nat
  | [] => 0
  | d :: r => uptoBulk d + uptoBulkAll r
def uptoBulkEntries {H : Type} : List (Lit × DataW H) → Nat
  | [] => 0
  | x :: r => uptoBulkEntry x + uptoBulkEntries r
def uptoBulkEntry {H : Type} : Lit × DataW H → Nat
  | (.string bytes, d) => bytes.length + uptoBulk d + 1
  | (_, d) => uptoBulk d + 1
 end
def uptoSmall : (H : Type) → List (DataW H) → Bool := fun _ ds => decide (uptoBulkAll ds ≤ 1048576)
def OpenSpec.upto (s : _root_.Go.ChangeSpec) : _root_.Go.OpenSpec := { _root_.Go.OpenSpec.ofChange s with cond := some uptoSmall }

/-- 'additivelaw08.StlPrints', WHERE WHAT IT READS IS OF BULK AT MOST 1048576: true; the input reads as it did. -/
def stlPrintsUptoRow : OpenClaim := { program := "ytlhkgeoahblffaadoor", sum := "36b7fb063bf4d6efa1dd8249c6322b34b42801ce0df2998a26d1c9d80c410752", func := "additive/additivelaw08.StlPrints", spec := "stlPrints", inPlace := ["internal/abi.NoEscape", "internal/bytealg.IndexByteString", "internal/bytealg.IndexString"], unfollowed := true, recurses := true, named := ["internal/bytealg.MaxLen", "unicode/utf8.first", "unicode/utf8.acceptRanges"], apart := false, laid := [("unicode/utf8.acceptRanges", laid_unicode_utf8_acceptRanges), ("unicode/utf8.first", laid_unicode_utf8_first)], narrowed := true }
def StlPrintsUptoSaid : Prop := stlPrintsUptoRow.holds Tryd.pinned (OpenSpec.upto stlPrintsSpec)

/-- 'additivelaw08.StlParses', WHERE WHAT IT READS IS OF BULK AT MOST 1048576: true; the input reads as it did. -/
def stlParsesUptoRow : OpenClaim := { program := "ytlhkgeoahblffaadoor", sum := "36b7fb063bf4d6efa1dd8249c6322b34b42801ce0df2998a26d1c9d80c410752", func := "additive/additivelaw08.StlParses", spec := "stlParses", inPlace := ["internal/abi.NoEscape", "internal/bytealg.IndexByteString", "internal/bytealg.IndexString"], unfollowed := true, recurses := true, named := ["internal/bytealg.MaxLen", "unicode/utf8.first", "unicode/utf8.acceptRanges"], apart := false, laid := [("unicode/utf8.acceptRanges", laid_unicode_utf8_acceptRanges), ("unicode/utf8.first", laid_unicode_utf8_first)], narrowed := true }
def StlParsesUptoSaid : Prop := stlParsesUptoRow.holds Tryd.pinned (OpenSpec.upto stlParsesSpec)

/-- 'additivelaw08.StlRoundTrips', WHERE WHAT IT READS IS OF BULK AT MOST 1048576: true; the input reads as it did. -/
def stlRoundTripsUptoRow : OpenClaim := { program := "ytlhkgeoahblffaadoor", sum := "36b7fb063bf4d6efa1dd8249c6322b34b42801ce0df2998a26d1c9d80c410752", func := "additive/additivelaw08.StlRoundTrips", spec := "stlRoundTrips", inPlace := ["internal/abi.NoEscape", "internal/bytealg.IndexByteString", "internal/bytealg.IndexString"], unfollowed := true, recurses := true, named := ["internal/bytealg.MaxLen", "unicode/utf8.first", "unicode/utf8.acceptRanges"], apart := false, laid := [("unicode/utf8.acceptRanges", laid_unicode_utf8_acceptRanges), ("unicode/utf8.first", laid_unicode_utf8_first)], narrowed := true }
def StlRoundTripsUptoSaid : Prop := stlRoundTripsUptoRow.holds Tryd.pinned (OpenSpec.upto stlRoundTripsSpec)

/-- 'additivelaw08.StlCanonical', WHERE WHAT IT READS IS OF BULK AT MOST 1048576: true; the input reads as it did. -/
def stlCanonicalUptoRow : OpenClaim := { program := "ytlhkgeoahblffaadoor", sum := "36b7fb063bf4d6efa1dd8249c6322b34b42801ce0df2998a26d1c9d80c410752", func := "additive/additivelaw08.StlCanonical", spec := "stlCanonical", inPlace := ["internal/abi.NoEscape", "internal/bytealg.IndexByteString", "internal/bytealg.IndexString"], unfollowed := true, recurses := true, named := ["internal/bytealg.MaxLen", "unicode/utf8.first", "unicode/utf8.acceptRanges"], apart := false, laid := [("unicode/utf8.acceptRanges", laid_unicode_utf8_acceptRanges), ("unicode/utf8.first", laid_unicode_utf8_first)], narrowed := true }
def StlCanonicalUptoSaid : Prop := stlCanonicalUptoRow.holds Tryd.pinned (OpenSpec.upto stlCanonicalSpec)

/-- 'additivelaw08.StlSpaces', WHERE WHAT IT READS IS OF BULK AT MOST 1048576: true; the input reads as it did. -/
def stlSpacesUptoRow : OpenClaim := { program := "ytlhkgeoahblffaadoor", sum := "36b7fb063bf4d6efa1dd8249c6322b34b42801ce0df2998a26d1c9d80c410752", func := "additive/additivelaw08.StlSpaces", spec := "stlSpaces", inPlace := ["internal/abi.NoEscape", "internal/bytealg.IndexByteString", "internal/bytealg.IndexString"], unfollowed := true, recurses := true, named := ["internal/bytealg.MaxLen", "unicode/utf8.first", "unicode/utf8.acceptRanges"], apart := false, laid := [("unicode/utf8.acceptRanges", laid_unicode_utf8_acceptRanges), ("unicode/utf8.first", laid_unicode_utf8_first)], narrowed := true }
def StlSpacesUptoSaid : Prop := stlSpacesUptoRow.holds Tryd.pinned (OpenSpec.upto stlSpacesSpec)

/-- 'additivelaw08.StlLimits', WHERE WHAT IT READS IS OF BULK AT MOST 1048576: true; the input reads as it did. -/
def stlLimitsUptoRow : OpenClaim := { program := "ytlhkgeoahblffaadoor", sum := "36b7fb063bf4d6efa1dd8249c6322b34b42801ce0df2998a26d1c9d80c410752", func := "additive/additivelaw08.StlLimits", spec := "stlLimits", inPlace := ["internal/abi.NoEscape", "internal/bytealg.IndexByteString", "internal/bytealg.IndexString"], unfollowed := true, recurses := true, named := ["internal/bytealg.MaxLen", "unicode/utf8.first", "unicode/utf8.acceptRanges"], apart := false, laid := [("unicode/utf8.acceptRanges", laid_unicode_utf8_acceptRanges), ("unicode/utf8.first", laid_unicode_utf8_first)], narrowed := true }
def StlLimitsUptoSaid : Prop := stlLimitsUptoRow.holds Tryd.pinned (OpenSpec.upto stlLimitsSpec)

/-- 'additivelaw08.StlPacks', WHERE WHAT IT READS IS OF BULK AT MOST 1048576: true; the input reads as it did. -/
def stlPacksUptoRow : OpenClaim := { program := "ytlhkgeoahblffaadoor", sum := "36b7fb063bf4d6efa1dd8249c6322b34b42801ce0df2998a26d1c9d80c410752", func := "additive/additivelaw08.StlPacks", spec := "stlPacks", inPlace := ["internal/abi.NoEscape", "internal/bytealg.IndexByteString", "internal/bytealg.IndexString"], unfollowed := true, recurses := true, named := ["internal/bytealg.MaxLen", "unicode/utf8.first", "unicode/utf8.acceptRanges"], apart := false, laid := [("unicode/utf8.acceptRanges", laid_unicode_utf8_acceptRanges), ("unicode/utf8.first", laid_unicode_utf8_first)], narrowed := true }
def StlPacksUptoSaid : Prop := stlPacksUptoRow.holds Tryd.pinned (OpenSpec.upto stlPacksSpec)

/-- 'additivelaw08.StlUnpacks', WHERE WHAT IT READS IS OF BULK AT MOST 1048576: true; the input reads as it did. -/
def stlUnpacksUptoRow : OpenClaim := { program := "ytlhkgeoahblffaadoor", sum := "36b7fb063bf4d6efa1dd8249c6322b34b42801ce0df2998a26d1c9d80c410752", func := "additive/additivelaw08.StlUnpacks", spec := "stlUnpacks", inPlace := ["internal/abi.NoEscape", "internal/bytealg.IndexByteString", "internal/bytealg.IndexString"], unfollowed := true, recurses := true, named := ["internal/bytealg.MaxLen", "unicode/utf8.first", "unicode/utf8.acceptRanges"], apart := false, laid := [("unicode/utf8.acceptRanges", laid_unicode_utf8_acceptRanges), ("unicode/utf8.first", laid_unicode_utf8_first)], narrowed := true }
def StlUnpacksUptoSaid : Prop := stlUnpacksUptoRow.holds Tryd.pinned (OpenSpec.upto stlUnpacksSpec)

/-- 'additivelaw08.StlBytes', WHERE WHAT IT READS IS OF BULK AT MOST 1048576: true; the input reads as it did. -/
def stlBytesUptoRow : OpenClaim := { program := "ytlhkgeoahblffaadoor", sum := "36b7fb063bf4d6efa1dd8249c6322b34b42801ce0df2998a26d1c9d80c410752", func := "additive/additivelaw08.StlBytes", spec := "stlBytes", inPlace := ["internal/abi.NoEscape", "internal/bytealg.IndexByteString", "internal/bytealg.IndexString"], unfollowed := true, recurses := true, named := ["internal/bytealg.MaxLen", "unicode/utf8.first", "unicode/utf8.acceptRanges"], apart := false, laid := [("unicode/utf8.acceptRanges", laid_unicode_utf8_acceptRanges), ("unicode/utf8.first", laid_unicode_utf8_first)], narrowed := true }
def StlBytesUptoSaid : Prop := stlBytesUptoRow.holds Tryd.pinned (OpenSpec.upto stlBytesSpec)

/-- 'additivelaw08.StlMost', WHERE WHAT IT READS IS OF BULK AT MOST 1048576: true; the input reads as it did. -/
def stlMostUptoRow : OpenClaim := { program := "ytlhkgeoahblffaadoor", sum := "36b7fb063bf4d6efa1dd8249c6322b34b42801ce0df2998a26d1c9d80c410752", func := "additive/additivelaw08.StlMost", spec := "stlMost", inPlace := ["internal/abi.NoEscape", "internal/bytealg.IndexByteString", "internal/bytealg.IndexString"], unfollowed := true, recurses := true, named := ["internal/bytealg.MaxLen", "unicode/utf8.first", "unicode/utf8.acceptRanges"], apart := false, laid := [("unicode/utf8.acceptRanges", laid_unicode_utf8_acceptRanges), ("unicode/utf8.first", laid_unicode_utf8_first)], narrowed := true }
def StlMostUptoSaid : Prop := stlMostUptoRow.holds Tryd.pinned (OpenSpec.upto stlMostSpec)

end Rows
end Go.Proofs.YtlhkgeoahblffaaDoor
