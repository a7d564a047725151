/-
  G1: commands of a motion program, in plain words of Lean: which words a code has, and what a word's number may be.
-/
import Derived.Test.YtkmohnciiincmaaSx22
import Derived.Test.YtkmohnciiincmaaProg
set_option linter.unusedSimpArgs false
set_option linter.unusedVariables false
namespace Go.Proofs.Ytkmohnciiincmaa
open Go.Sx

theorem mix : Try.prog.follows .mixedOrders = true := by kernel_rfl

structure C where
  code : Int
  has : Int
  x : Int
  y : Int
  z : Int
  e : Int
  f : Int
  s : Int
def C.cells (c : C) : List SV := [I64 c.code, I64 c.has, I64 c.x, I64 c.y, I64 c.z, I64 c.e, I64 c.f, I64 c.s]
def C.sv (c : C) : SV := .agg c.cells

def oneS (k : Int) : Prop := k = 4 ∨ k = 1104 ∨ k = 1109 ∨ k = 1140 ∨ k = 1190 ∨ k = 1106
def none0 (k : Int) : Prop := k = 28 ∨ k = 1024 ∨ k = 1025 ∨ k = 1107 ∨ k = 1112 ∨ k = 1999
instance (k : Int) : Decidable (oneS k) := by unfold oneS; infer_instance
instance (k : Int) : Decidable (none0 k) := by unfold none0; infer_instance
/-- The words that a code may have. -/
def may (k : Int) : Int := if k = 0 then 23 else if k = 1 then 31 else if oneS k then 32 else 0
/-- Does it need all of them? -/
def allW (k : Int) : Bool := decide (oneS k) || decide (none0 k)
/-- Is it a code? -/
def okC (k : Int) : Bool := decide (k = 0) || (decide (k = 1) || (decide (oneS k) || decide (none0 k)))

def lo (k : Int) (w : Int) : Int := if w = 4 then 1 else if w ≠ 5 then -1073741824 else 0
def hi (k : Int) (w : Int) : Int := if w = 4 then 1048576 else if w ≠ 5 then 1073741824 else if k = 4 then 1048576 else if k = 1106 then 255 else 400000

def C.num (c : C) (w : Int) : Int := if w = 0 then c.x else if w = 1 then c.y else if w = 2 then c.z else if w = 3 then c.e else if w = 4 then c.f else c.s

/-- Facts on commands. -/
def factC (f : FuncId) (h : C → Tree SV) : Fact := ⟨f, fun args => match args with
  | [.agg [.int .i64 a0, .int .i64 a1, .int .i64 a2, .int .i64 a3, .int .i64 a4, .int .i64 a5, .int .i64 a6, .int .i64 a7]] => some (h ⟨a0, a1, a2, a3, a4, a5, a6, a7⟩)
  | _ => none⟩
theorem factC_ok {P : Program} {f : FuncId} {h : C → Tree SV} (k : ∀ c, (h c).says (SCall P f [c.sv])) : (factC f h).ok P := fun args t ht => by
  simp only [factC] at ht
  split at ht
  · injection ht with ht; subst ht; exact k ⟨_, _, _, _, _, _, _, _⟩
  · cases ht

def fWords : Fact := factI 13 fun k => .leaf (.tuple [I64 (may k), .bool (allW k), .bool (okC k)])
def fSpan : Fact := factII 15 fun k w => .leaf (.tuple [I64 (lo k w), I64 (hi k w)])
def fAllowed : Fact := factI 17 fun k => .leaf (I64 (may k))
def fComplete : Fact := factII 18 fun k h => .leaf (.bool (!(may k == 32) || h == 32))
def inR (n l h : Int) : Bool := decide (l ≤ n) && decide (n ≤ h)
def rangedB (k w n : Int) : Bool := if w < 4 then inR n (-1073741824) 1073741824 else if w = 4 then inR n 1 1048576 else if k = 4 then inR n 0 1048576 else if k = 1106 then inR n 0 255 else inR n 0 400000
def fRanged : Fact := factIII 20 fun k w n => .leaf (.bool (rangedB k w n))
/-- The place of a word's number. -/
def fField : Fact := ⟨14, fun args => match args with
  | [.ptr id off, .int .i64 w] => some (.node (w == 0) (.leaf (.ptr id (off + 2))) (.node (w == 1) (.leaf (.ptr id (off + 3))) (.node (w == 2) (.leaf (.ptr id (off + 4))) (.node (w == 3) (.leaf (.ptr id (off + 5))) (.node (w == 4) (.leaf (.ptr id (off + 6))) (.leaf (.ptr id (off + 7))))))))
  | _ => none⟩
def codes : List Int := [0, 1, 4, 28, 1024, 1025, 1104, 1106, 1107, 1109, 1112, 1140, 1190, 1999]
def fCodes : Fact := fact0 12 (.leaf (.list (.int .i64) codes))
def fFields : Fact := factC 19 fun c => .leaf (.list (.int .i64) [c.x, c.y, c.z, c.e, c.f, c.s])
def fKnown : Fact := factI 16 fun k => .leaf (.bool (okC k))
end Go.Proofs.Ytkmohnciiincmaa
