/-
  GE: hosts in plain words.
-/
import Derived.Test.YtibpodgdondakaaGD
set_option linter.unusedSimpArgs false
set_option linter.unusedVariables false
set_option maxRecDepth 100000
namespace Go.Proofs.Ytibpodgdondakaa
open Go.Sx

structure Ho where
  ls : List (List UInt8)
  ba : Int
  ne : Int
  wi : Int
  re : Int
  se : Int
def Ho.cells (h : Ho) : List SV := [.list .str h.ls, I64 h.ba, I64 h.ne, I64 h.wi, I64 h.re, I64 h.se]
def Ho.sv (h : Ho) : SV := .agg h.cells
def zeroH : Ho := ⟨[], 0, 0, 0, 0, 0⟩
def zcells : List SV := [.nilS, I64 0, I64 0, I64 0, I64 0, I64 0]
/-- Facts on hosts. -/
def factH (f : FuncId) (h : Ho → Tree SV) : Fact := ⟨f, fun args => match args with
  | [.agg [.list .str l, .int .i64 a, .int .i64 b, .int .i64 c, .int .i64 d, .int .i64 e]] => some (.req (few2 (List.length l)) (h ⟨l, a, b, c, d, e⟩))
  | _ => none⟩
theorem factH_ok {P : Program} {f : FuncId} {h : Ho → Tree SV} (k : ∀ x : Ho, few2 x.ls.length = true → (h x).says (SCall P f [x.sv])) : (factH f h).ok P := fun args t ht => by
  simp only [factH] at ht
  split at ht
  · injection ht with ht; subst ht; exact k ⟨_, _, _, _, _, _⟩
  · cases ht

def gt (l : List (List UInt8)) (i : Int) : List UInt8 := l.getD i.toNat []
def sendB (t : List UInt8) : Bool := decide ((t.length : Int) ≤ 96) && plainB t
def smalls (l : List (List UInt8)) : Prop := ∀ t ∈ l, small t = true
end Go.Proofs.Ytibpodgdondakaa
