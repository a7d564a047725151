/-
  GV: the range of a byte that is handed in.
-/
import Derived.Test.YtibpodgdondakaaGU
namespace Go.Proofs.Ytibpodgdondakaa
open Go.Sx
theorem wf8 {n : Int} (h : (Lit.int .u8 n).wf = true) : 0 ≤ n ∧ n ≤ 255 := by
  have h : (decide ((0 : Int) ≤ n) && decide (n ≤ (255 : Int))) = true := h
  simpa using h
end Go.Proofs.Ytibpodgdondakaa
