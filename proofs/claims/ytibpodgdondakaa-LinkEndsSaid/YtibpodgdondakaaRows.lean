/-
  No cell of these rows narrows 'for every input' (looked for: loops, veiled, ifaces, maps, wideKeys, modest, calm, conditions, laid).
  DERIVED. THE GIVEN ROWS OF THIS SEAT. 7 by the template 'for every input the law returns true; each argument reads behind the call as it read before'; 0 by the template 'total and deterministic' (their statements: YtibpodgdondakaaTotals.lean).
  GIVEN WITH THE SEED: the statements are not yours to turn. If you find one false, say at which input.
  Laid BY PROGRAM, IN A SANDBOX (cutbox-rows.mjs): the forced cells as the released guide's own fill.sh prints them over the translation 4e79c006d8293225… (all of the seat's roots in one cut). By AI agents, Wed Nov 11 2026. No macro, syntax, notation, axiom, sorry.
-/
import Derived.Test.YtibpodgdondakaaChecked
import GoSem.Claim
import GoSem.ClaimJoined
import GoSem.ClaimMapViews
import Derived.JoinedTies
import Derived.KernelRfl
namespace Go.Proofs.Ytibpodgdondakaa
/- THE CELL 'sum', in the pinned program and in every row, IS THE sha256 OF THE DUMP (.gsa) THAT YtibpodgdondakaaProg.lean LOADS. Nothing in Lean hashes anything: it is a label: what it is worth is what the hold of that sum in a sandbox is worth. -/
noncomputable def Try.pinned : Pinned := { name := "ytibpodgdondakaa", sum := "4e79c006d8293225c5c8191a833d227f0e5dc8389b85f5a73379528af09f0406", checked := Try.checked }
namespace Rows
def none {H : Type} : Left H := { results := [], args := [] }

/-- 'additivelaw47.LinkFrames': WHATEVER THE INPUT: true; the input reads as it did. -/
def linkFramesSpec : ChangeSpec := { name := "linkFrames", fn := fun _ => fun
  | [d1, d2, d3] => { results := [.lit (.bool true)], args := [d1, d2, d3] }
  | _ => none }
def linkFramesRow : OpenClaim := { program := "ytibpodgdondakaa", sum := "4e79c006d8293225c5c8191a833d227f0e5dc8389b85f5a73379528af09f0406", func := "additive/additivelaw47.LinkFrames", spec := "linkFrames", inPlace := ["internal/bytealg.IndexByteString", "internal/bytealg.IndexString"], named := ["internal/bytealg.MaxLen"], apart := false }
def LinkFramesSaid : Prop := linkFramesRow.holds Try.pinned (OpenSpec.ofChange linkFramesSpec)

/-- ITS FALSE NEIGHBOUR: 'it returns false'. Refute it at one input. -/
def linkFramesWrong : ChangeSpec := { name := "linkFrames", fn := fun _ => fun
  | [d1, d2, d3] => { results := [.lit (.bool false)], args := [d1, d2, d3] }
  | _ => none }
def LinkFramesWrongFalsely : Prop := linkFramesRow.holds Try.pinned (OpenSpec.ofChange linkFramesWrong)

/-- 'additivelaw47.LinkReceives': WHATEVER THE INPUT: true; the input reads as it did. -/
def linkReceivesSpec : ChangeSpec := { name := "linkReceives", fn := fun _ => fun
  | [d1, d2] => { results := [.lit (.bool true)], args := [d1, d2] }
  | _ => none }
def linkReceivesRow : OpenClaim := { program := "ytibpodgdondakaa", sum := "4e79c006d8293225c5c8191a833d227f0e5dc8389b85f5a73379528af09f0406", func := "additive/additivelaw47.LinkReceives", spec := "linkReceives", inPlace := ["internal/bytealg.IndexByteString", "internal/bytealg.IndexString"], named := ["internal/bytealg.MaxLen"], apart := false }
def LinkReceivesSaid : Prop := linkReceivesRow.holds Try.pinned (OpenSpec.ofChange linkReceivesSpec)

/-- ITS FALSE NEIGHBOUR: 'it returns false'. Refute it at one input. -/
def linkReceivesWrong : ChangeSpec := { name := "linkReceives", fn := fun _ => fun
  | [d1, d2] => { results := [.lit (.bool false)], args := [d1, d2] }
  | _ => none }
def LinkReceivesWrongFalsely : Prop := linkReceivesRow.holds Try.pinned (OpenSpec.ofChange linkReceivesWrong)

/-- 'additivelaw47.LinkMails': WHATEVER THE INPUT: true; the input reads as it did. -/
def linkMailsSpec : ChangeSpec := { name := "linkMails", fn := fun _ => fun
  | [d1, d2, d3] => { results := [.lit (.bool true)], args := [d1, d2, d3] }
  | _ => none }
def linkMailsRow : OpenClaim := { program := "ytibpodgdondakaa", sum := "4e79c006d8293225c5c8191a833d227f0e5dc8389b85f5a73379528af09f0406", func := "additive/additivelaw47.LinkMails", spec := "linkMails", inPlace := ["internal/bytealg.IndexByteString", "internal/bytealg.IndexString"], named := ["internal/bytealg.MaxLen"], apart := false }
def LinkMailsSaid : Prop := linkMailsRow.holds Try.pinned (OpenSpec.ofChange linkMailsSpec)

/-- ITS FALSE NEIGHBOUR: 'it returns false'. Refute it at one input. -/
def linkMailsWrong : ChangeSpec := { name := "linkMails", fn := fun _ => fun
  | [d1, d2, d3] => { results := [.lit (.bool false)], args := [d1, d2, d3] }
  | _ => none }
def LinkMailsWrongFalsely : Prop := linkMailsRow.holds Try.pinned (OpenSpec.ofChange linkMailsWrong)

/-- 'additivelaw47.LinkChanges': WHATEVER THE INPUT: true; the input reads as it did. -/
def linkChangesSpec : ChangeSpec := { name := "linkChanges", fn := fun _ => fun
  | [d1, d2, d3, d4, d5] => { results := [.lit (.bool true)], args := [d1, d2, d3, d4, d5] }
  | _ => none }
def linkChangesRow : OpenClaim := { program := "ytibpodgdondakaa", sum := "4e79c006d8293225c5c8191a833d227f0e5dc8389b85f5a73379528af09f0406", func := "additive/additivelaw47.LinkChanges", spec := "linkChanges", inPlace := ["internal/bytealg.IndexByteString", "internal/bytealg.IndexString"], named := ["internal/bytealg.MaxLen"], apart := false }
def LinkChangesSaid : Prop := linkChangesRow.holds Try.pinned (OpenSpec.ofChange linkChangesSpec)

/-- ITS FALSE NEIGHBOUR: 'it returns false'. Refute it at one input. -/
def linkChangesWrong : ChangeSpec := { name := "linkChanges", fn := fun _ => fun
  | [d1, d2, d3, d4, d5] => { results := [.lit (.bool false)], args := [d1, d2, d3, d4, d5] }
  | _ => none }
def LinkChangesWrongFalsely : Prop := linkChangesRow.holds Try.pinned (OpenSpec.ofChange linkChangesWrong)

/-- 'additivelaw47.LinkHosts': WHATEVER THE INPUT: true; the input reads as it did. -/
def linkHostsSpec : ChangeSpec := { name := "linkHosts", fn := fun _ => fun
  | [d1, d2, d3] => { results := [.lit (.bool true)], args := [d1, d2, d3] }
  | _ => none }
def linkHostsRow : OpenClaim := { program := "ytibpodgdondakaa", sum := "4e79c006d8293225c5c8191a833d227f0e5dc8389b85f5a73379528af09f0406", func := "additive/additivelaw47.LinkHosts", spec := "linkHosts", inPlace := ["internal/bytealg.IndexByteString", "internal/bytealg.IndexString"], named := ["internal/bytealg.MaxLen"], apart := false }
def LinkHostsSaid : Prop := linkHostsRow.holds Try.pinned (OpenSpec.ofChange linkHostsSpec)

/-- ITS FALSE NEIGHBOUR: 'it returns false'. Refute it at one input. -/
def linkHostsWrong : ChangeSpec := { name := "linkHosts", fn := fun _ => fun
  | [d1, d2, d3] => { results := [.lit (.bool false)], args := [d1, d2, d3] }
  | _ => none }
def LinkHostsWrongFalsely : Prop := linkHostsRow.holds Try.pinned (OpenSpec.ofChange linkHostsWrong)

/-- 'additivelaw47.LinkOnce': WHATEVER THE INPUT: true; the input reads as it did. -/
def linkOnceSpec : ChangeSpec := { name := "linkOnce", fn := fun _ => fun
  | [d1, d2, d3] => { results := [.lit (.bool true)], args := [d1, d2, d3] }
  | _ => none }
def linkOnceRow : OpenClaim := { program := "ytibpodgdondakaa", sum := "4e79c006d8293225c5c8191a833d227f0e5dc8389b85f5a73379528af09f0406", func := "additive/additivelaw47.LinkOnce", spec := "linkOnce", inPlace := ["internal/bytealg.IndexByteString", "internal/bytealg.IndexString"], named := ["internal/bytealg.MaxLen"], apart := false }
def LinkOnceSaid : Prop := linkOnceRow.holds Try.pinned (OpenSpec.ofChange linkOnceSpec)

/-- ITS FALSE NEIGHBOUR: 'it returns false'. Refute it at one input. -/
def linkOnceWrong : ChangeSpec := { name := "linkOnce", fn := fun _ => fun
  | [d1, d2, d3] => { results := [.lit (.bool false)], args := [d1, d2, d3] }
  | _ => none }
def LinkOnceWrongFalsely : Prop := linkOnceRow.holds Try.pinned (OpenSpec.ofChange linkOnceWrong)

/-- 'additivelaw47.LinkEnds': WHATEVER THE INPUT: true; the input reads as it did. -/
def linkEndsSpec : ChangeSpec := { name := "linkEnds", fn := fun _ => fun
  | [d1, d2, d3] => { results := [.lit (.bool true)], args := [d1, d2, d3] }
  | _ => none }
def linkEndsRow : OpenClaim := { program := "ytibpodgdondakaa", sum := "4e79c006d8293225c5c8191a833d227f0e5dc8389b85f5a73379528af09f0406", func := "additive/additivelaw47.LinkEnds", spec := "linkEnds", inPlace := ["internal/bytealg.IndexByteString", "internal/bytealg.IndexString"], named := ["internal/bytealg.MaxLen"], apart := false }
def LinkEndsSaid : Prop := linkEndsRow.holds Try.pinned (OpenSpec.ofChange linkEndsSpec)

/-- ITS FALSE NEIGHBOUR: 'it returns false'. Refute it at one input. -/
def linkEndsWrong : ChangeSpec := { name := "linkEnds", fn := fun _ => fun
  | [d1, d2, d3] => { results := [.lit (.bool false)], args := [d1, d2, d3] }
  | _ => none }
def LinkEndsWrongFalsely : Prop := linkEndsRow.holds Try.pinned (OpenSpec.ofChange linkEndsWrong)

/- THE SECOND FORM. 'bulk': how many values and letters a reading holds, each counted each time it is reached (what is shared counts as often as it is met; a slice's spare places count too). A statement '..UptoSaid' is the law's where the arguments, and the package variables that the reading takes, are together of bulk at most 1048576: NARROWER than '..Said'. Prove '..Said' where nothing that the law and all that it calls make is longer than what came in: it says more and counts as full. Else prove '..UptoSaid'. A law counts once. -/
mutual
def uptoBulk {H : Type} : DataW H → Nat
  | .lit (.string bytes) => bytes.length + 1
  | .lit _ => 1
  | .nil => 1
  | .ptr d => uptoBulk d + 1
  | .slice elems spare => uptoBulkAll elems + uptoBulkAll spare + 1
  | .agg parts => uptoBulkAll parts + 1
  | .iface _ d => uptoBulk d + 1
  | .map entries => uptoBulkEntries entries + 1
  | .held _ => 1
def uptoBulkAll {H : Type} : List (DataW H) → Nat
  | [] => 0
  | d :: r => uptoBulk d + uptoBulkAll r
def uptoBulkEntries {H : Type} : List (Lit × DataW H) → Nat
  | [] => 0
  | x :: r => uptoBulkEntry x + uptoBulkEntries r
def uptoBulkEntry {H : Type} : Lit × DataW H → Nat
  | (.string bytes, d) => bytes.length + uptoBulk d + 1
  | (_, d) => uptoBulk d + 1
 end
def uptoSmall : (H : Type) → List (DataW H) → Bool := fun _ ds => decide (uptoBulkAll ds ≤ 1048576)
def OpenSpec.upto (s : _root_.Go.ChangeSpec) : _root_.Go.OpenSpec := { _root_.Go.OpenSpec.ofChange s with cond := some uptoSmall }

/-- 'additivelaw47.LinkFrames', WHERE WHAT IT READS IS OF BULK AT MOST 1048576: true; the input reads as it did. -/
def linkFramesUptoRow : OpenClaim := { program := "ytibpodgdondakaa", sum := "4e79c006d8293225c5c8191a833d227f0e5dc8389b85f5a73379528af09f0406", func := "additive/additivelaw47.LinkFrames", spec := "linkFrames", inPlace := ["internal/bytealg.IndexByteString", "internal/bytealg.IndexString"], named := ["internal/bytealg.MaxLen"], apart := false, narrowed := true }
def LinkFramesUptoSaid : Prop := linkFramesUptoRow.holds Try.pinned (OpenSpec.upto linkFramesSpec)

/-- 'additivelaw47.LinkReceives', WHERE WHAT IT READS IS OF BULK AT MOST 1048576: true; the input reads as it did. -/
def linkReceivesUptoRow : OpenClaim := { program := "ytibpodgdondakaa", sum := "4e79c006d8293225c5c8191a833d227f0e5dc8389b85f5a73379528af09f0406", func := "additive/additivelaw47.LinkReceives", spec := "linkReceives", inPlace := ["internal/bytealg.IndexByteString", "internal/bytealg.IndexString"], named := ["internal/bytealg.MaxLen"], apart := false, narrowed := true }
def LinkReceivesUptoSaid : Prop := linkReceivesUptoRow.holds Try.pinned (OpenSpec.upto linkReceivesSpec)

/-- 'additivelaw47.LinkMails', WHERE WHAT IT READS IS OF BULK AT MOST 1048576: true; the input reads as it did. -/
def linkMailsUptoRow : OpenClaim := { program := "ytibpodgdondakaa", sum := "4e79c006d8293225c5c8191a833d227f0e5dc8389b85f5a73379528af09f0406", func := "additive/additivelaw47.LinkMails", spec := "linkMails", inPlace := ["internal/bytealg.IndexByteString", "internal/bytealg.IndexString"], named := ["internal/bytealg.MaxLen"], apart := false, narrowed := true }
def LinkMailsUptoSaid : Prop := linkMailsUptoRow.holds Try.pinned (OpenSpec.upto linkMailsSpec)

/-- 'additivelaw47.LinkChanges', WHERE WHAT IT READS IS OF BULK AT MOST 1048576: true; the input reads as it did. -/
def linkChangesUptoRow : OpenClaim := { program := "ytibpodgdondakaa", sum := "4e79c006d8293225c5c8191a833d227f0e5dc8389b85f5a73379528af09f0406", func := "additive/additivelaw47.LinkChanges", spec := "linkChanges", inPlace := ["internal/bytealg.IndexByteString", "internal/bytealg.IndexString"], named := ["internal/bytealg.MaxLen"], apart := false, narrowed := true }
def LinkChangesUptoSaid : Prop := linkChangesUptoRow.holds Try.pinned (OpenSpec.upto linkChangesSpec)

/-- 'additivelaw47.LinkHosts', WHERE WHAT IT READS IS OF BULK AT MOST 1048576: true; the input reads as it did. -/
def linkHostsUptoRow : OpenClaim := { program := "ytibpodgdondakaa", sum := "4e79c006d8293225c5c8191a833d227f0e5dc8389b85f5a73379528af09f0406", func := "additive/additivelaw47.LinkHosts", spec := "linkHosts", inPlace := ["internal/bytealg.IndexByteString", "internal/bytealg.IndexString"], named := ["internal/bytealg.MaxLen"], apart := false, narrowed := true }
def LinkHostsUptoSaid : Prop := linkHostsUptoRow.holds Try.pinned (OpenSpec.upto linkHostsSpec)

/-- 'additivelaw47.LinkOnce', WHERE WHAT IT READS IS OF BULK AT MOST 1048576: true; the input reads as it did. -/
def linkOnceUptoRow : OpenClaim := { program := "ytibpodgdondakaa", sum := "4e79c006d8293225c5c8191a833d227f0e5dc8389b85f5a73379528af09f0406", func := "additive/additivelaw47.LinkOnce", spec := "linkOnce", inPlace := ["internal/bytealg.IndexByteString", "internal/bytealg.IndexString"], named := ["internal/bytealg.MaxLen"], apart := false, narrowed := true }
def LinkOnceUptoSaid : Prop := linkOnceUptoRow.holds Try.pinned (OpenSpec.upto linkOnceSpec)

/-- 'additivelaw47.LinkEnds', WHERE WHAT IT READS IS OF BULK AT MOST 1048576: true; the input reads as it did. -/
def linkEndsUptoRow : OpenClaim := { program := "ytibpodgdondakaa", sum := "4e79c006d8293225c5c8191a833d227f0e5dc8389b85f5a73379528af09f0406", func := "additive/additivelaw47.LinkEnds", spec := "linkEnds", inPlace := ["internal/bytealg.IndexByteString", "internal/bytealg.IndexString"], named := ["internal/bytealg.MaxLen"], apart := false, narrowed := true }
def LinkEndsUptoSaid : Prop := linkEndsUptoRow.holds Try.pinned (OpenSpec.upto linkEndsSpec)

end Rows
end Go.Proofs.Ytibpodgdondakaa
