/-
  No cell of these rows narrows 'for every input' (looked for: loops, veiled, ifaces, maps, wideKeys, modest, calm, conditions, laid).
  DERIVED. THE GIVEN ROWS OF THIS SEAT. 13 by the template 'for every input the law returns true; each argument reads behind the call as it read before'; 0 by the template 'total and deterministic' (their statements: YtnkaepnblikcdaaGreatTotals.lean).
  GIVEN WITH THE SEED: the statements are not yours to turn. If you find one false, say at which input.
  Laid BY PROGRAM, IN A SANDBOX (cutbox-rows.mjs): the forced cells as the released guide's own fill.sh prints them over the translation aa998527ad371b6f… (all of the seat's roots in one cut). By AI agents, Wed Nov 11 2026. No macro, syntax, notation, axiom, sorry.
-/
import Derived.Test.YtnkaepnblikcdaaGreatChecked
import GoSem.Claim
import GoSem.ClaimJoined
import GoSem.ClaimMapViews
import Derived.JoinedTies
import Derived.KernelRfl
namespace Go.Proofs.YtnkaepnblikcdaaGreat
/- THE CELL 'sum', in the pinned program and in every row, IS THE sha256 OF THE DUMP (.gsa) THAT YtnkaepnblikcdaaGreatProg.lean LOADS. Nothing in Lean hashes anything: it is a label: what it is worth is what the hold of that sum in a sandbox is worth. -/
noncomputable def Tryz.pinned : Pinned := { name := "ytnkaepnblikcdaagreat", sum := "aa998527ad371b6f3095e814c51b9e5a4fabb46c646b9f8f3fa14a25d073037e", checked := Tryz.checked }
namespace Rows
def none {H : Type} : Left H := { results := [], args := [] }

/-- 'additivelaw53.FirmwareExact': WHATEVER THE INPUT: true; the input reads as it did. -/
def firmwareExactSpec : ChangeSpec := { name := "firmwareExact", fn := fun _ => fun
  | [d1, d2] => { results := [.lit (.bool true)], args := [d1, d2] }
  | _ => none }
def firmwareExactRow : OpenClaim := { program := "ytnkaepnblikcdaagreat", sum := "aa998527ad371b6f3095e814c51b9e5a4fabb46c646b9f8f3fa14a25d073037e", func := "additive/additivelaw53.FirmwareExact", spec := "firmwareExact", unfollowed := true, recurses := true, named := ["math/bits.divideError", "math/bits.overflowError"], apart := false }
def FirmwareExactSaid : Prop := firmwareExactRow.holds Tryz.pinned (OpenSpec.ofChange firmwareExactSpec)

/-- ITS FALSE NEIGHBOUR: 'it returns false'. Refute it at one input. -/
def firmwareExactWrong : ChangeSpec := { name := "firmwareExact", fn := fun _ => fun
  | [d1, d2] => { results := [.lit (.bool false)], args := [d1, d2] }
  | _ => none }
def FirmwareExactWrongFalsely : Prop := firmwareExactRow.holds Tryz.pinned (OpenSpec.ofChange firmwareExactWrong)

/-- 'additivelaw53.FirmwareNews': WHATEVER THE INPUT: true; the input reads as it did. -/
def firmwareNewsSpec : ChangeSpec := { name := "firmwareNews", fn := fun _ => fun
  | [d] => { results := [.lit (.bool true)], args := [d] }
  | _ => none }
def firmwareNewsRow : OpenClaim := { program := "ytnkaepnblikcdaagreat", sum := "aa998527ad371b6f3095e814c51b9e5a4fabb46c646b9f8f3fa14a25d073037e", func := "additive/additivelaw53.FirmwareNews", spec := "firmwareNews", unfollowed := true, recurses := true, named := ["math/bits.divideError", "math/bits.overflowError"], apart := false }
def FirmwareNewsSaid : Prop := firmwareNewsRow.holds Tryz.pinned (OpenSpec.ofChange firmwareNewsSpec)

/-- ITS FALSE NEIGHBOUR: 'it returns false'. Refute it at one input. -/
def firmwareNewsWrong : ChangeSpec := { name := "firmwareNews", fn := fun _ => fun
  | [d] => { results := [.lit (.bool false)], args := [d] }
  | _ => none }
def FirmwareNewsWrongFalsely : Prop := firmwareNewsRow.holds Tryz.pinned (OpenSpec.ofChange firmwareNewsWrong)

/-- 'additivelaw53.FirmwareAccepts': WHATEVER THE INPUT: true; the input reads as it did. -/
def firmwareAcceptsSpec : ChangeSpec := { name := "firmwareAccepts", fn := fun _ => fun
  | [d1, d2, d3] => { results := [.lit (.bool true)], args := [d1, d2, d3] }
  | _ => none }
def firmwareAcceptsRow : OpenClaim := { program := "ytnkaepnblikcdaagreat", sum := "aa998527ad371b6f3095e814c51b9e5a4fabb46c646b9f8f3fa14a25d073037e", func := "additive/additivelaw53.FirmwareAccepts", spec := "firmwareAccepts", unfollowed := true, recurses := true, named := ["math/bits.divideError", "math/bits.overflowError"], apart := false }
def FirmwareAcceptsSaid : Prop := firmwareAcceptsRow.holds Tryz.pinned (OpenSpec.ofChange firmwareAcceptsSpec)

/-- ITS FALSE NEIGHBOUR: 'it returns false'. Refute it at one input. -/
def firmwareAcceptsWrong : ChangeSpec := { name := "firmwareAccepts", fn := fun _ => fun
  | [d1, d2, d3] => { results := [.lit (.bool false)], args := [d1, d2, d3] }
  | _ => none }
def FirmwareAcceptsWrongFalsely : Prop := firmwareAcceptsRow.holds Tryz.pinned (OpenSpec.ofChange firmwareAcceptsWrong)

/-- 'additivelaw53.FirmwareRuns': WHATEVER THE INPUT: true; the input reads as it did. -/
def firmwareRunsSpec : ChangeSpec := { name := "firmwareRuns", fn := fun _ => fun
  | [d1, d2] => { results := [.lit (.bool true)], args := [d1, d2] }
  | _ => none }
def firmwareRunsRow : OpenClaim := { program := "ytnkaepnblikcdaagreat", sum := "aa998527ad371b6f3095e814c51b9e5a4fabb46c646b9f8f3fa14a25d073037e", func := "additive/additivelaw53.FirmwareRuns", spec := "firmwareRuns", unfollowed := true, recurses := true, named := ["math/bits.divideError", "math/bits.overflowError"], apart := false }
def FirmwareRunsSaid : Prop := firmwareRunsRow.holds Tryz.pinned (OpenSpec.ofChange firmwareRunsSpec)

/-- ITS FALSE NEIGHBOUR: 'it returns false'. Refute it at one input. -/
def firmwareRunsWrong : ChangeSpec := { name := "firmwareRuns", fn := fun _ => fun
  | [d1, d2] => { results := [.lit (.bool false)], args := [d1, d2] }
  | _ => none }
def FirmwareRunsWrongFalsely : Prop := firmwareRunsRow.holds Tryz.pinned (OpenSpec.ofChange firmwareRunsWrong)

/-- 'additivelaw53.FirmwareFaults': WHATEVER THE INPUT: true; the input reads as it did. -/
def firmwareFaultsSpec : ChangeSpec := { name := "firmwareFaults", fn := fun _ => fun
  | [d1, d2] => { results := [.lit (.bool true)], args := [d1, d2] }
  | _ => none }
def firmwareFaultsRow : OpenClaim := { program := "ytnkaepnblikcdaagreat", sum := "aa998527ad371b6f3095e814c51b9e5a4fabb46c646b9f8f3fa14a25d073037e", func := "additive/additivelaw53.FirmwareFaults", spec := "firmwareFaults", unfollowed := true, recurses := true, named := ["math/bits.divideError", "math/bits.overflowError"], apart := false }
def FirmwareFaultsSaid : Prop := firmwareFaultsRow.holds Tryz.pinned (OpenSpec.ofChange firmwareFaultsSpec)

/-- ITS FALSE NEIGHBOUR: 'it returns false'. Refute it at one input. -/
def firmwareFaultsWrong : ChangeSpec := { name := "firmwareFaults", fn := fun _ => fun
  | [d1, d2] => { results := [.lit (.bool false)], args := [d1, d2] }
  | _ => none }
def FirmwareFaultsWrongFalsely : Prop := firmwareFaultsRow.holds Tryz.pinned (OpenSpec.ofChange firmwareFaultsWrong)

/-- 'additivelaw53.FirmwareTicks': WHATEVER THE INPUT: true; the input reads as it did. -/
def firmwareTicksSpec : ChangeSpec := { name := "firmwareTicks", fn := fun _ => fun
  | [d1, d2] => { results := [.lit (.bool true)], args := [d1, d2] }
  | _ => none }
def firmwareTicksRow : OpenClaim := { program := "ytnkaepnblikcdaagreat", sum := "aa998527ad371b6f3095e814c51b9e5a4fabb46c646b9f8f3fa14a25d073037e", func := "additive/additivelaw53.FirmwareTicks", spec := "firmwareTicks", unfollowed := true, recurses := true, named := ["math/bits.divideError", "math/bits.overflowError"], apart := false }
def FirmwareTicksSaid : Prop := firmwareTicksRow.holds Tryz.pinned (OpenSpec.ofChange firmwareTicksSpec)

/-- ITS FALSE NEIGHBOUR: 'it returns false'. Refute it at one input. -/
def firmwareTicksWrong : ChangeSpec := { name := "firmwareTicks", fn := fun _ => fun
  | [d1, d2] => { results := [.lit (.bool false)], args := [d1, d2] }
  | _ => none }
def FirmwareTicksWrongFalsely : Prop := firmwareTicksRow.holds Tryz.pinned (OpenSpec.ofChange firmwareTicksWrong)

/-- 'additivelaw53.FirmwareLimits': WHATEVER THE INPUT: true; the input reads as it did. -/
def firmwareLimitsSpec : ChangeSpec := { name := "firmwareLimits", fn := fun _ => fun
  | [d1, d2] => { results := [.lit (.bool true)], args := [d1, d2] }
  | _ => none }
def firmwareLimitsRow : OpenClaim := { program := "ytnkaepnblikcdaagreat", sum := "aa998527ad371b6f3095e814c51b9e5a4fabb46c646b9f8f3fa14a25d073037e", func := "additive/additivelaw53.FirmwareLimits", spec := "firmwareLimits", unfollowed := true, recurses := true, named := ["math/bits.divideError", "math/bits.overflowError"], apart := false }
def FirmwareLimitsSaid : Prop := firmwareLimitsRow.holds Tryz.pinned (OpenSpec.ofChange firmwareLimitsSpec)

/-- ITS FALSE NEIGHBOUR: 'it returns false'. Refute it at one input. -/
def firmwareLimitsWrong : ChangeSpec := { name := "firmwareLimits", fn := fun _ => fun
  | [d1, d2] => { results := [.lit (.bool false)], args := [d1, d2] }
  | _ => none }
def FirmwareLimitsWrongFalsely : Prop := firmwareLimitsRow.holds Tryz.pinned (OpenSpec.ofChange firmwareLimitsWrong)

/-- 'additivelaw54.PowerRecovers': WHATEVER THE INPUT: true; the input reads as it did. -/
def powerRecoversSpec : ChangeSpec := { name := "powerRecovers", fn := fun _ => fun
  | [d1, d2] => { results := [.lit (.bool true)], args := [d1, d2] }
  | _ => none }
def powerRecoversRow : OpenClaim := { program := "ytnkaepnblikcdaagreat", sum := "aa998527ad371b6f3095e814c51b9e5a4fabb46c646b9f8f3fa14a25d073037e", func := "additive/additivelaw54.PowerRecovers", spec := "powerRecovers", unfollowed := true, recurses := true, named := ["math/bits.divideError", "math/bits.overflowError"], apart := false }
def PowerRecoversSaid : Prop := powerRecoversRow.holds Tryz.pinned (OpenSpec.ofChange powerRecoversSpec)

/-- ITS FALSE NEIGHBOUR: 'it returns false'. Refute it at one input. -/
def powerRecoversWrong : ChangeSpec := { name := "powerRecovers", fn := fun _ => fun
  | [d1, d2] => { results := [.lit (.bool false)], args := [d1, d2] }
  | _ => none }
def PowerRecoversWrongFalsely : Prop := powerRecoversRow.holds Tryz.pinned (OpenSpec.ofChange powerRecoversWrong)

/-- 'additivelaw54.PowerTicks': WHATEVER THE INPUT: true; the input reads as it did. -/
def powerTicksSpec : ChangeSpec := { name := "powerTicks", fn := fun _ => fun
  | [d1, d2, d3] => { results := [.lit (.bool true)], args := [d1, d2, d3] }
  | _ => none }
def powerTicksRow : OpenClaim := { program := "ytnkaepnblikcdaagreat", sum := "aa998527ad371b6f3095e814c51b9e5a4fabb46c646b9f8f3fa14a25d073037e", func := "additive/additivelaw54.PowerTicks", spec := "powerTicks", unfollowed := true, recurses := true, named := ["math/bits.divideError", "math/bits.overflowError"], apart := false }
def PowerTicksSaid : Prop := powerTicksRow.holds Tryz.pinned (OpenSpec.ofChange powerTicksSpec)

/-- ITS FALSE NEIGHBOUR: 'it returns false'. Refute it at one input. -/
def powerTicksWrong : ChangeSpec := { name := "powerTicks", fn := fun _ => fun
  | [d1, d2, d3] => { results := [.lit (.bool false)], args := [d1, d2, d3] }
  | _ => none }
def PowerTicksWrongFalsely : Prop := powerTicksRow.holds Tryz.pinned (OpenSpec.ofChange powerTicksWrong)

/-- 'additivelaw54.PowerAccepts': WHATEVER THE INPUT: true; the input reads as it did. -/
def powerAcceptsSpec : ChangeSpec := { name := "powerAccepts", fn := fun _ => fun
  | [d1, d2, d3] => { results := [.lit (.bool true)], args := [d1, d2, d3] }
  | _ => none }
def powerAcceptsRow : OpenClaim := { program := "ytnkaepnblikcdaagreat", sum := "aa998527ad371b6f3095e814c51b9e5a4fabb46c646b9f8f3fa14a25d073037e", func := "additive/additivelaw54.PowerAccepts", spec := "powerAccepts", unfollowed := true, recurses := true, named := ["math/bits.divideError", "math/bits.overflowError"], apart := false }
def PowerAcceptsSaid : Prop := powerAcceptsRow.holds Tryz.pinned (OpenSpec.ofChange powerAcceptsSpec)

/-- ITS FALSE NEIGHBOUR: 'it returns false'. Refute it at one input. -/
def powerAcceptsWrong : ChangeSpec := { name := "powerAccepts", fn := fun _ => fun
  | [d1, d2, d3] => { results := [.lit (.bool false)], args := [d1, d2, d3] }
  | _ => none }
def PowerAcceptsWrongFalsely : Prop := powerAcceptsRow.holds Tryz.pinned (OpenSpec.ofChange powerAcceptsWrong)

/-- 'additivelaw54.PowerExact': WHATEVER THE INPUT: true; the input reads as it did. -/
def powerExactSpec : ChangeSpec := { name := "powerExact", fn := fun _ => fun
  | [d1, d2] => { results := [.lit (.bool true)], args := [d1, d2] }
  | _ => none }
def powerExactRow : OpenClaim := { program := "ytnkaepnblikcdaagreat", sum := "aa998527ad371b6f3095e814c51b9e5a4fabb46c646b9f8f3fa14a25d073037e", func := "additive/additivelaw54.PowerExact", spec := "powerExact", unfollowed := true, recurses := true, named := ["math/bits.divideError", "math/bits.overflowError"], apart := false }
def PowerExactSaid : Prop := powerExactRow.holds Tryz.pinned (OpenSpec.ofChange powerExactSpec)

/-- ITS FALSE NEIGHBOUR: 'it returns false'. Refute it at one input. -/
def powerExactWrong : ChangeSpec := { name := "powerExact", fn := fun _ => fun
  | [d1, d2] => { results := [.lit (.bool false)], args := [d1, d2] }
  | _ => none }
def PowerExactWrongFalsely : Prop := powerExactRow.holds Tryz.pinned (OpenSpec.ofChange powerExactWrong)

/-- 'additivelaw54.PowerRuns': WHATEVER THE INPUT: true; the input reads as it did. -/
def powerRunsSpec : ChangeSpec := { name := "powerRuns", fn := fun _ => fun
  | [d1, d2] => { results := [.lit (.bool true)], args := [d1, d2] }
  | _ => none }
def powerRunsRow : OpenClaim := { program := "ytnkaepnblikcdaagreat", sum := "aa998527ad371b6f3095e814c51b9e5a4fabb46c646b9f8f3fa14a25d073037e", func := "additive/additivelaw54.PowerRuns", spec := "powerRuns", unfollowed := true, recurses := true, named := ["math/bits.divideError", "math/bits.overflowError"], apart := false }
def PowerRunsSaid : Prop := powerRunsRow.holds Tryz.pinned (OpenSpec.ofChange powerRunsSpec)

/-- ITS FALSE NEIGHBOUR: 'it returns false'. Refute it at one input. -/
def powerRunsWrong : ChangeSpec := { name := "powerRuns", fn := fun _ => fun
  | [d1, d2] => { results := [.lit (.bool false)], args := [d1, d2] }
  | _ => none }
def PowerRunsWrongFalsely : Prop := powerRunsRow.holds Tryz.pinned (OpenSpec.ofChange powerRunsWrong)

/-- 'additivelaw54.PowerResumes': WHATEVER THE INPUT: true; the input reads as it did. -/
def powerResumesSpec : ChangeSpec := { name := "powerResumes", fn := fun _ => fun
  | [d1, d2] => { results := [.lit (.bool true)], args := [d1, d2] }
  | _ => none }
def powerResumesRow : OpenClaim := { program := "ytnkaepnblikcdaagreat", sum := "aa998527ad371b6f3095e814c51b9e5a4fabb46c646b9f8f3fa14a25d073037e", func := "additive/additivelaw54.PowerResumes", spec := "powerResumes", unfollowed := true, recurses := true, named := ["math/bits.divideError", "math/bits.overflowError"], apart := false }
def PowerResumesSaid : Prop := powerResumesRow.holds Tryz.pinned (OpenSpec.ofChange powerResumesSpec)

/-- ITS FALSE NEIGHBOUR: 'it returns false'. Refute it at one input. -/
def powerResumesWrong : ChangeSpec := { name := "powerResumes", fn := fun _ => fun
  | [d1, d2] => { results := [.lit (.bool false)], args := [d1, d2] }
  | _ => none }
def PowerResumesWrongFalsely : Prop := powerResumesRow.holds Tryz.pinned (OpenSpec.ofChange powerResumesWrong)

/- THE SECOND FORM. 'bulk': how many values and letters a reading holds, each counted each time it is reached (what is shared counts as often as it is met; a slice's spare places count too). A statement '..UptoSaid' is the law's where the arguments, and the package variables that the reading takes, are together of bulk at most 1048576: NARROWER than '..Said'. Prove '..Said' where nothing that the law and all that it calls make is longer than what came in: it says more and counts as full. Else prove '..UptoSaid'. A law counts once. -/
mutual
def uptoBulk {H : Type} : DataW H → Nat
  | .lit (.string bytes) => bytes.length + 1
  | .lit _ => 1
  | .nil => 1
  | .ptr d => uptoBulk d + 1
  | .slice elems spare => uptoBulkAll elems + uptoBulkAll spare + 1
  | .agg parts => uptoBulkAll parts + 1
  | .iface _ d => uptoBulk d + 1
  | .map entries => uptoBulkEntries entries + 1
  | .held _ => 1
def uptoBulkAll {H : Type} : List (DataW H) → Nat
  | [] => 0
  | d :: r => uptoBulk d + uptoBulkAll r
def uptoBulkEntries {H : Type} : List (Lit × DataW H) → Nat
  | [] => 0
  | x :: r => uptoBulkEntry x + uptoBulkEntries r
def uptoBulkEntry {H : Type} : Lit × DataW H → Nat
  | (.string bytes, d) => bytes.length + uptoBulk d + 1
  | (_, d) => uptoBulk d + 1
 end
def uptoSmall : (H : Type) → List (DataW H) → Bool := fun _ ds => decide (uptoBulkAll ds ≤ 1048576)
def OpenSpec.upto (s : _root_.Go.ChangeSpec) : _root_.Go.OpenSpec := { _root_.Go.OpenSpec.ofChange s with cond := some uptoSmall }

/-- 'additivelaw53.FirmwareExact', WHERE WHAT IT READS IS OF BULK AT MOST 1048576: true; the input reads as it did. -/
def firmwareExactUptoRow : OpenClaim := { program := "ytnkaepnblikcdaagreat", sum := "aa998527ad371b6f3095e814c51b9e5a4fabb46c646b9f8f3fa14a25d073037e", func := "additive/additivelaw53.FirmwareExact", spec := "firmwareExact", unfollowed := true, recurses := true, named := ["math/bits.divideError", "math/bits.overflowError"], apart := false, narrowed := true }
def FirmwareExactUptoSaid : Prop := firmwareExactUptoRow.holds Tryz.pinned (OpenSpec.upto firmwareExactSpec)

/-- 'additivelaw53.FirmwareNews', WHERE WHAT IT READS IS OF BULK AT MOST 1048576: true; the input reads as it did. -/
def firmwareNewsUptoRow : OpenClaim := { program := "ytnkaepnblikcdaagreat", sum := "aa998527ad371b6f3095e814c51b9e5a4fabb46c646b9f8f3fa14a25d073037e", func := "additive/additivelaw53.FirmwareNews", spec := "firmwareNews", unfollowed := true, recurses := true, named := ["math/bits.divideError", "math/bits.overflowError"], apart := false, narrowed := true }
def FirmwareNewsUptoSaid : Prop := firmwareNewsUptoRow.holds Tryz.pinned (OpenSpec.upto firmwareNewsSpec)

/-- 'additivelaw53.FirmwareAccepts', WHERE WHAT IT READS IS OF BULK AT MOST 1048576: true; the input reads as it did. -/
def firmwareAcceptsUptoRow : OpenClaim := { program := "ytnkaepnblikcdaagreat", sum := "aa998527ad371b6f3095e814c51b9e5a4fabb46c646b9f8f3fa14a25d073037e", func := "additive/additivelaw53.FirmwareAccepts", spec := "firmwareAccepts", unfollowed := true, recurses := true, named := ["math/bits.divideError", "math/bits.overflowError"], apart := false, narrowed := true }
def FirmwareAcceptsUptoSaid : Prop := firmwareAcceptsUptoRow.holds Tryz.pinned (OpenSpec.upto firmwareAcceptsSpec)

/-- 'additivelaw53.FirmwareRuns', WHERE WHAT IT READS IS OF BULK AT MOST 1048576: true; the input reads as it did. -/
def firmwareRunsUptoRow : OpenClaim := { program := "ytnkaepnblikcdaagreat", sum := "aa998527ad371b6f3095e814c51b9e5a4fabb46c646b9f8f3fa14a25d073037e", func := "additive/additivelaw53.FirmwareRuns", spec := "firmwareRuns", unfollowed := true, recurses := true, named := ["math/bits.divideError", "math/bits.overflowError"], apart := false, narrowed := true }
def FirmwareRunsUptoSaid : Prop := firmwareRunsUptoRow.holds Tryz.pinned (OpenSpec.upto firmwareRunsSpec)

/-- 'additivelaw53.FirmwareFaults', WHERE WHAT IT READS IS OF BULK AT MOST 1048576: true; the input reads as it did. -/
def firmwareFaultsUptoRow : OpenClaim := { program := "ytnkaepnblikcdaagreat", sum := "aa998527ad371b6f3095e814c51b9e5a4fabb46c646b9f8f3fa14a25d073037e", func := "additive/additivelaw53.FirmwareFaults", spec := "firmwareFaults", unfollowed := true, recurses := true, named := ["math/bits.divideError", "math/bits.overflowError"], apart := false, narrowed := true }
def FirmwareFaultsUptoSaid : Prop := firmwareFaultsUptoRow.holds Tryz.pinned (OpenSpec.upto firmwareFaultsSpec)

/-- 'additivelaw53.FirmwareTicks', WHERE WHAT IT READS IS OF BULK AT MOST 1048576: true; the input reads as it did. -/
def firmwareTicksUptoRow : OpenClaim := { program := "ytnkaepnblikcdaagreat", sum := "aa998527ad371b6f3095e814c51b9e5a4fabb46c646b9f8f3fa14a25d073037e", func := "additive/additivelaw53.FirmwareTicks", spec := "firmwareTicks", unfollowed := true, recurses := true, named := ["math/bits.divideError", "math/bits.overflowError"], apart := false, narrowed := true }
def FirmwareTicksUptoSaid : Prop := firmwareTicksUptoRow.holds Tryz.pinned (OpenSpec.upto firmwareTicksSpec)

/-- 'additivelaw53.FirmwareLimits', WHERE WHAT IT READS IS OF BULK AT MOST 1048576: true; the input reads as it did. -/
def firmwareLimitsUptoRow : OpenClaim := { program := "ytnkaepnblikcdaagreat", sum := "aa998527ad371b6f3095e814c51b9e5a4fabb46c646b9f8f3fa14a25d073037e", func := "additive/additivelaw53.FirmwareLimits", spec := "firmwareLimits", unfollowed := true, recurses := true, named := ["math/bits.divideError", "math/bits.overflowError"], apart := false, narrowed := true }
def FirmwareLimitsUptoSaid : Prop := firmwareLimitsUptoRow.holds Tryz.pinned (OpenSpec.upto firmwareLimitsSpec)

/-- 'additivelaw54.PowerRecovers', WHERE WHAT IT READS IS OF BULK AT MOST 1048576: true; the input reads as it did. -/
def powerRecoversUptoRow : OpenClaim := { program := "ytnkaepnblikcdaagreat", sum := "aa998527ad371b6f3095e814c51b9e5a4fabb46c646b9f8f3fa14a25d073037e", func := "additive/additivelaw54.PowerRecovers", spec := "powerRecovers", unfollowed := true, recurses := true, named := ["math/bits.divideError", "math/bits.overflowError"], apart := false, narrowed := true }
def PowerRecoversUptoSaid : Prop := powerRecoversUptoRow.holds Tryz.pinned (OpenSpec.upto powerRecoversSpec)

/-- 'additivelaw54.PowerTicks', WHERE WHAT IT READS IS OF BULK AT MOST 1048576: true; the input reads as it did. -/
def powerTicksUptoRow : OpenClaim := { program := "ytnkaepnblikcdaagreat", sum := "aa998527ad371b6f3095e814c51b9e5a4fabb46c646b9f8f3fa14a25d073037e", func := "additive/additivelaw54.PowerTicks", spec := "powerTicks", unfollowed := true, recurses := true, named := ["math/bits.divideError", "math/bits.overflowError"], apart := false, narrowed := true }
def PowerTicksUptoSaid : Prop := powerTicksUptoRow.holds Tryz.pinned (OpenSpec.upto powerTicksSpec)

/-- 'additivelaw54.PowerAccepts', WHERE WHAT IT READS IS OF BULK AT MOST 1048576: true; the input reads as it did. -/
def powerAcceptsUptoRow : OpenClaim := { program := "ytnkaepnblikcdaagreat", sum := "aa998527ad371b6f3095e814c51b9e5a4fabb46c646b9f8f3fa14a25d073037e", func := "additive/additivelaw54.PowerAccepts", spec := "powerAccepts", unfollowed := true, recurses := true, named := ["math/bits.divideError", "math/bits.overflowError"], apart := false, narrowed := true }
def PowerAcceptsUptoSaid : Prop := powerAcceptsUptoRow.holds Tryz.pinned (OpenSpec.upto powerAcceptsSpec)

/-- 'additivelaw54.PowerExact', WHERE WHAT IT READS IS OF BULK AT MOST 1048576: true; the input reads as it did. -/
def powerExactUptoRow : OpenClaim := { program := "ytnkaepnblikcdaagreat", sum := "aa998527ad371b6f3095e814c51b9e5a4fabb46c646b9f8f3fa14a25d073037e", func := "additive/additivelaw54.PowerExact", spec := "powerExact", unfollowed := true, recurses := true, named := ["math/bits.divideError", "math/bits.overflowError"], apart := false, narrowed := true }
def PowerExactUptoSaid : Prop := powerExactUptoRow.holds Tryz.pinned (OpenSpec.upto powerExactSpec)

/-- 'additivelaw54.PowerRuns', WHERE WHAT IT READS IS OF BULK AT MOST 1048576: true; the input reads as it did. -/
def powerRunsUptoRow : OpenClaim := { program := "ytnkaepnblikcdaagreat", sum := "aa998527ad371b6f3095e814c51b9e5a4fabb46c646b9f8f3fa14a25d073037e", func := "additive/additivelaw54.PowerRuns", spec := "powerRuns", unfollowed := true, recurses := true, named := ["math/bits.divideError", "math/bits.overflowError"], apart := false, narrowed := true }
def PowerRunsUptoSaid : Prop := powerRunsUptoRow.holds Tryz.pinned (OpenSpec.upto powerRunsSpec)

/-- 'additivelaw54.PowerResumes', WHERE WHAT IT READS IS OF BULK AT MOST 1048576: true; the input reads as it did. -/
def powerResumesUptoRow : OpenClaim := { program := "ytnkaepnblikcdaagreat", sum := "aa998527ad371b6f3095e814c51b9e5a4fabb46c646b9f8f3fa14a25d073037e", func := "additive/additivelaw54.PowerResumes", spec := "powerResumes", unfollowed := true, recurses := true, named := ["math/bits.divideError", "math/bits.overflowError"], apart := false, narrowed := true }
def PowerResumesUptoSaid : Prop := powerResumesUptoRow.holds Tryz.pinned (OpenSpec.upto powerResumesSpec)

end Rows
end Go.Proofs.YtnkaepnblikcdaaGreat
