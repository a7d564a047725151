/-
  No cell of these rows narrows 'for every input' (looked for: loops, veiled, ifaces, maps, wideKeys, modest, calm, conditions, laid).
  DERIVED. THE GIVEN ROWS OF THIS SEAT. 4 by the template 'for every input the law returns true; each argument reads behind the call as it read before'; 0 by the template 'total and deterministic' (their statements: YtkmohnciiincmaaTotals.lean).
  GIVEN WITH THE SEED: the statements are not yours to turn. If you find one false, say at which input.
  Laid BY PROGRAM, IN A SANDBOX (cutbox-rows.mjs): the forced cells as the released guide's own fill.sh prints them over the translation 7b23228a3c5fefe0… (all of the seat's roots in one cut). By AI agents, Wed Nov 11 2026. No macro, syntax, notation, axiom, sorry.
-/
import Derived.Test.YtkmohnciiincmaaChecked
import GoSem.Claim
import GoSem.ClaimJoined
import GoSem.ClaimMapViews
import Derived.JoinedTies
import Derived.KernelRfl
namespace Go.Proofs.Ytkmohnciiincmaa
/- THE CELL 'sum', in the pinned program and in every row, IS THE sha256 OF THE DUMP (.gsa) THAT YtkmohnciiincmaaProg.lean LOADS. Nothing in Lean hashes anything: it is a label: what it is worth is what the hold of that sum in a sandbox is worth. -/
noncomputable def Try.pinned : Pinned := { name := "ytkmohnciiincmaa", sum := "7b23228a3c5fefe048a6d47e624785e5286ee4a7329a6650d6d3155ad4360e35", checked := Try.checked }
namespace Rows
def none {H : Type} : Left H := { results := [], args := [] }

/-- 'additivelaw39.GcodeValid': WHATEVER THE INPUT: true; the input reads as it did. -/
def gcodeValidSpec : ChangeSpec := { name := "gcodeValid", fn := fun _ => fun
  | [d] => { results := [.lit (.bool true)], args := [d] }
  | _ => none }
def gcodeValidRow : OpenClaim := { program := "ytkmohnciiincmaa", sum := "7b23228a3c5fefe048a6d47e624785e5286ee4a7329a6650d6d3155ad4360e35", func := "additive/additivelaw39.GcodeValid", spec := "gcodeValid", apart := false }
def GcodeValidSaid : Prop := gcodeValidRow.holds Try.pinned (OpenSpec.ofChange gcodeValidSpec)

/-- ITS FALSE NEIGHBOUR: 'it returns false'. Refute it at one input. -/
def gcodeValidWrong : ChangeSpec := { name := "gcodeValid", fn := fun _ => fun
  | [d] => { results := [.lit (.bool false)], args := [d] }
  | _ => none }
def GcodeValidWrongFalsely : Prop := gcodeValidRow.holds Try.pinned (OpenSpec.ofChange gcodeValidWrong)

/-- 'additivelaw39.GcodePrints': WHATEVER THE INPUT: true; the input reads as it did. -/
def gcodePrintsSpec : ChangeSpec := { name := "gcodePrints", fn := fun _ => fun
  | [d] => { results := [.lit (.bool true)], args := [d] }
  | _ => none }
def gcodePrintsRow : OpenClaim := { program := "ytkmohnciiincmaa", sum := "7b23228a3c5fefe048a6d47e624785e5286ee4a7329a6650d6d3155ad4360e35", func := "additive/additivelaw39.GcodePrints", spec := "gcodePrints", apart := false }
def GcodePrintsSaid : Prop := gcodePrintsRow.holds Try.pinned (OpenSpec.ofChange gcodePrintsSpec)

/-- ITS FALSE NEIGHBOUR: 'it returns false'. Refute it at one input. -/
def gcodePrintsWrong : ChangeSpec := { name := "gcodePrints", fn := fun _ => fun
  | [d] => { results := [.lit (.bool false)], args := [d] }
  | _ => none }
def GcodePrintsWrongFalsely : Prop := gcodePrintsRow.holds Try.pinned (OpenSpec.ofChange gcodePrintsWrong)

/-- 'additivelaw39.GcodeApart': WHATEVER THE INPUT: true; the input reads as it did. -/
def gcodeApartSpec : ChangeSpec := { name := "gcodeApart", fn := fun _ => fun
  | [d1, d2] => { results := [.lit (.bool true)], args := [d1, d2] }
  | _ => none }
def gcodeApartRow : OpenClaim := { program := "ytkmohnciiincmaa", sum := "7b23228a3c5fefe048a6d47e624785e5286ee4a7329a6650d6d3155ad4360e35", func := "additive/additivelaw39.GcodeApart", spec := "gcodeApart", apart := false }
def GcodeApartSaid : Prop := gcodeApartRow.holds Try.pinned (OpenSpec.ofChange gcodeApartSpec)

/-- ITS FALSE NEIGHBOUR: 'it returns false'. Refute it at one input. -/
def gcodeApartWrong : ChangeSpec := { name := "gcodeApart", fn := fun _ => fun
  | [d1, d2] => { results := [.lit (.bool false)], args := [d1, d2] }
  | _ => none }
def GcodeApartWrongFalsely : Prop := gcodeApartRow.holds Try.pinned (OpenSpec.ofChange gcodeApartWrong)

/-- 'additivelaw39.GcodeCodes': WHATEVER THE INPUT: true; the input reads as it did. -/
def gcodeCodesSpec : ChangeSpec := { name := "gcodeCodes", fn := fun _ => fun
  | [d1, d2] => { results := [.lit (.bool true)], args := [d1, d2] }
  | _ => none }
def gcodeCodesRow : OpenClaim := { program := "ytkmohnciiincmaa", sum := "7b23228a3c5fefe048a6d47e624785e5286ee4a7329a6650d6d3155ad4360e35", func := "additive/additivelaw39.GcodeCodes", spec := "gcodeCodes", apart := false }
def GcodeCodesSaid : Prop := gcodeCodesRow.holds Try.pinned (OpenSpec.ofChange gcodeCodesSpec)

/-- ITS FALSE NEIGHBOUR: 'it returns false'. Refute it at one input. -/
def gcodeCodesWrong : ChangeSpec := { name := "gcodeCodes", fn := fun _ => fun
  | [d1, d2] => { results := [.lit (.bool false)], args := [d1, d2] }
  | _ => none }
def GcodeCodesWrongFalsely : Prop := gcodeCodesRow.holds Try.pinned (OpenSpec.ofChange gcodeCodesWrong)

/- THE SECOND FORM. 'bulk': how many values and letters a reading holds, each counted each time it is reached (what is shared counts as often as it is met; a slice's spare places count too). A statement '..UptoSaid' is the law's where the arguments, and the package variables that the reading takes, are together of bulk at most 1048576: NARROWER than '..Said'. Prove '..Said' where nothing that the law and all that it calls make is longer than what came in: it says more and counts as full. Else prove '..UptoSaid'. A law counts once. -/
mutual
def uptoBulk {H : Type} : DataW H → Nat
  | .lit (.string bytes) => bytes.length + 1
  | .lit _ => 1
  | .nil => 1
  | .ptr d => uptoBulk d + 1
  | .slice elems spare => uptoBulkAll elems + uptoBulkAll spare + 1
  | .agg parts => uptoBulkAll parts + 1
  | .iface _ d => uptoBulk d + 1
  | .map entries => uptoBulkEntries entries + 1
  | .held _ => 1
def uptoBulkAll {H : Type} : List (DataW H) → Nat
  | [] => 0
  | d :: r => uptoBulk d + uptoBulkAll r
def uptoBulkEntries {H : Type} : List (Lit × DataW H) → Nat
  | [] => 0
  | x :: r => uptoBulkEntry x + uptoBulkEntries r
def uptoBulkEntry {H : Type} : Lit × DataW H → Nat
  | (.string bytes, d) => bytes.length + uptoBulk d + 1
  | (_, d) => uptoBulk d + 1
 end
def uptoSmall : (H : Type) → List (DataW H) → Bool := fun _ ds => decide (uptoBulkAll ds ≤ 1048576)
def OpenSpec.upto (s : _root_.Go.ChangeSpec) : _root_.Go.OpenSpec := { _root_.Go.OpenSpec.ofChange s with cond := some uptoSmall }

/-- 'additivelaw39.GcodeValid', WHERE WHAT IT READS IS OF BULK AT MOST 1048576: true; the input reads as it did. -/
def gcodeValidUptoRow : OpenClaim := { program := "ytkmohnciiincmaa", sum := "7b23228a3c5fefe048a6d47e624785e5286ee4a7329a6650d6d3155ad4360e35", func := "additive/additivelaw39.GcodeValid", spec := "gcodeValid", apart := false, narrowed := true }
def GcodeValidUptoSaid : Prop := gcodeValidUptoRow.holds Try.pinned (OpenSpec.upto gcodeValidSpec)

/-- 'additivelaw39.GcodePrints', WHERE WHAT IT READS IS OF BULK AT MOST 1048576: true; the input reads as it did. -/
def gcodePrintsUptoRow : OpenClaim := { program := "ytkmohnciiincmaa", sum := "7b23228a3c5fefe048a6d47e624785e5286ee4a7329a6650d6d3155ad4360e35", func := "additive/additivelaw39.GcodePrints", spec := "gcodePrints", apart := false, narrowed := true }
def GcodePrintsUptoSaid : Prop := gcodePrintsUptoRow.holds Try.pinned (OpenSpec.upto gcodePrintsSpec)

/-- 'additivelaw39.GcodeApart', WHERE WHAT IT READS IS OF BULK AT MOST 1048576: true; the input reads as it did. -/
def gcodeApartUptoRow : OpenClaim := { program := "ytkmohnciiincmaa", sum := "7b23228a3c5fefe048a6d47e624785e5286ee4a7329a6650d6d3155ad4360e35", func := "additive/additivelaw39.GcodeApart", spec := "gcodeApart", apart := false, narrowed := true }
def GcodeApartUptoSaid : Prop := gcodeApartUptoRow.holds Try.pinned (OpenSpec.upto gcodeApartSpec)

/-- 'additivelaw39.GcodeCodes', WHERE WHAT IT READS IS OF BULK AT MOST 1048576: true; the input reads as it did. -/
def gcodeCodesUptoRow : OpenClaim := { program := "ytkmohnciiincmaa", sum := "7b23228a3c5fefe048a6d47e624785e5286ee4a7329a6650d6d3155ad4360e35", func := "additive/additivelaw39.GcodeCodes", spec := "gcodeCodes", apart := false, narrowed := true }
def GcodeCodesUptoSaid : Prop := gcodeCodesUptoRow.holds Try.pinned (OpenSpec.upto gcodeCodesSpec)

end Rows
end Go.Proofs.Ytkmohnciiincmaa
