/-
  G7: the segments of the texts of commands. Written by gen.py.
-/
import Derived.Test.YtkmohnciiincmaaG5
import Derived.Test.YtkmohnciiincmaaG6
set_option linter.unusedSimpArgs false
set_option linter.unusedVariables false
set_option maxRecDepth 100000
namespace Go.Proofs.Ytkmohnciiincmaa
open Go.Sx
def letters : List UInt8 := [88, 89, 90, 69, 70, 83]
def sp : List UInt8 := [32]
def letter (j i : Int) : List UInt8 := List.drop i.toNat (List.take j.toNat letters)
def nameOf (k : Int) : List UInt8 := if k < 1000 then [71] ++ fmt k else [77] ++ fmt (IntKind.i64.wrap (k - 1000))
def fName : Fact := factI 21 fun k => .leaf (.str (nameOf k))
def fNameR : Fact := factI 23 fun k => .leaf (.str (nameOf k))
theorem fmt_len (n : Int) : (fmt n).length ≤ 21 := by
  have := (backs_len n).1
  simpa [fmt, toB] using this
theorem s_name (k : Int) : SCall Try.prog 21 [I64 k] (.str (nameOf k)) :=
  scall_v mix [fFmt] ⟨o_fmt, trivial⟩ 1000 (.fork (.all) (.all))
   (t := .node (decide (k < 1000))
 (.req (decide (↑([71].length + (fmt k).length) ≤ (9223372036854775807 : Int))) (.leaf (SV.str ([71] ++ fmt k))))
 (.req (decide (↑([77].length + (fmt (IntKind.i64.wrap (k - 1000))).length) ≤ (9223372036854775807 : Int))) (.leaf (SV.str ([77] ++ fmt (IntKind.i64.wrap (k - 1000)))))))
   (by kernel_rfl) (by 
    have h1 := fmt_len k
    have h2 := fmt_len (IntKind.i64.wrap (k - 1000))
    simp only [Tree.holds, decide_eq_true_eq, decide_eq_false_iff_not]
    refine ⟨fun h => ⟨by simp; omega, by unfold nameOf; rw [if_pos h]⟩, fun h => ⟨by simp; omega, by unfold nameOf; rw [if_neg h]⟩⟩) (by kernel_rfl) (by kernel_rfl)
theorem o_name : fName.ok Try.prog := factI_ok s_name
theorem s_nameR (k : Int) : SCall Try.prog 23 [I64 k] (.str (nameOf k)) :=
  scall_v mix [fFmtR] ⟨o_fmtR, trivial⟩ 1000 (.fork (.all) (.all))
   (t := .node (decide (k < 1000))
 (.req (decide (↑([71].length + (fmt k).length) ≤ (9223372036854775807 : Int))) (.leaf (SV.str ([71] ++ fmt k))))
 (.req (decide (↑([77].length + (fmt (IntKind.i64.wrap (k - 1000))).length) ≤ (9223372036854775807 : Int))) (.leaf (SV.str ([77] ++ fmt (IntKind.i64.wrap (k - 1000)))))))
   (by kernel_rfl) (by 
    have h1 := fmt_len k
    have h2 := fmt_len (IntKind.i64.wrap (k - 1000))
    simp only [Tree.holds, decide_eq_true_eq, decide_eq_false_iff_not]
    refine ⟨fun h => ⟨by simp; omega, by unfold nameOf; rw [if_pos h]⟩, fun h => ⟨by simp; omega, by unfold nameOf; rw [if_neg h]⟩⟩) (by kernel_rfl) (by kernel_rfl)
theorem o_nameR : fNameR.ok Try.prog := factI_ok s_nameR
def print0_p : Plan := .fork (.all) (.all)
noncomputable def print0_t (c : C) : Tree Stop :=
   .node (!c.valid)
 (.leaf (Stop.done (SV.tuple [SV.str [], I64 1])))
 (.leaf (Stop.at (loopOf Try.prog 10 0) 36 (slotsS 36 [(1, SV.ptr 0 0), (4, SV.str (nameOf c.code)), (12, I64 0)]) [some (Box.cells [I64 c.code, I64 c.has, I64 c.x, I64 c.y, I64 c.z, I64 c.e, I64 c.f, I64 c.s])]))
theorem print0 (c : C) : segR (Env.of Try.prog (sumOf [fValid, fName, fField, fFmt])) 1000 (fnOf Try.prog 10) .unit (keepS 36 [1,4,12]) (codeS Try.prog 10) print0_p (startS Try.prog 10 [c.sv]) [] = print0_t c := by kernel_rfl
def print1_p : Plan := .fork (.fork (.fork (.all) (.fork (.all) (.fork (.all) (.fork (.all) (.fork (.all) (.all)))))) (.all)) (.all)
noncomputable def print1_t (c : C) (s : List UInt8) (i : Int) : Tree Stop :=
   .node (decide (i < 6))
 (.req (decide (0 ≤ i)) (.node (IntKind.i64.wrap ↑(BitVec.ofInt IntKind.i64.bits (c.has.fdiv (2 ^ min i.toNat IntKind.i64.bits)) &&& BitVec.ofInt IntKind.i64.bits 1).toNat == 1)
   (.req ((decide (0 ≤ IntKind.i64.wrap (i + 1)) && decide (IntKind.i64.wrap (i + 1) ≤ (↑letters.length : Int)) && decide (0 ≤ i) && decide (i ≤ IntKind.i64.wrap (i + 1)))) (.req (decide (↑(sp.length + (letter (IntKind.i64.wrap (i + 1)) i).length) ≤ (9223372036854775807 : Int))) (.node (i == 0)
      (.req (decide (↑((sp ++ (letter (IntKind.i64.wrap (i + 1)) i)).length + (fmt c.x).length) ≤ (9223372036854775807 : Int))) (.req (decide (↑(s.length + (sp ++ (letter (IntKind.i64.wrap (i + 1)) i) ++ fmt c.x).length) ≤ (9223372036854775807 : Int))) (.leaf (Stop.at (loopOf Try.prog 10 0) 36 (slotsS 36 [(1, SV.ptr 0 0), (4, SV.str (s ++ (sp ++ (letter (IntKind.i64.wrap (i + 1)) i) ++ fmt c.x))), (12, I64 (IntKind.i64.wrap (i + 1)))]) [some (Box.cells [I64 c.code, I64 c.has, I64 c.x, I64 c.y, I64 c.z, I64 c.e, I64 c.f, I64 c.s])]))))
      (.node (i == 1)
       (.req (decide (↑((sp ++ (letter (IntKind.i64.wrap (i + 1)) i)).length + (fmt c.y).length) ≤ (9223372036854775807 : Int))) (.req (decide (↑(s.length + (sp ++ (letter (IntKind.i64.wrap (i + 1)) i) ++ fmt c.y).length) ≤ (9223372036854775807 : Int))) (.leaf (Stop.at (loopOf Try.prog 10 0) 36 (slotsS 36 [(1, SV.ptr 0 0), (4, SV.str (s ++ (sp ++ (letter (IntKind.i64.wrap (i + 1)) i) ++ fmt c.y))), (12, I64 (IntKind.i64.wrap (i + 1)))]) [some (Box.cells [I64 c.code, I64 c.has, I64 c.x, I64 c.y, I64 c.z, I64 c.e, I64 c.f, I64 c.s])]))))
       (.node (i == 2)
        (.req (decide (↑((sp ++ (letter (IntKind.i64.wrap (i + 1)) i)).length + (fmt c.z).length) ≤ (9223372036854775807 : Int))) (.req (decide (↑(s.length + (sp ++ (letter (IntKind.i64.wrap (i + 1)) i) ++ fmt c.z).length) ≤ (9223372036854775807 : Int))) (.leaf (Stop.at (loopOf Try.prog 10 0) 36 (slotsS 36 [(1, SV.ptr 0 0), (4, SV.str (s ++ (sp ++ (letter (IntKind.i64.wrap (i + 1)) i) ++ fmt c.z))), (12, I64 (IntKind.i64.wrap (i + 1)))]) [some (Box.cells [I64 c.code, I64 c.has, I64 c.x, I64 c.y, I64 c.z, I64 c.e, I64 c.f, I64 c.s])]))))
        (.node (i == 3)
         (.req (decide (↑((sp ++ (letter (IntKind.i64.wrap (i + 1)) i)).length + (fmt c.e).length) ≤ (9223372036854775807 : Int))) (.req (decide (↑(s.length + (sp ++ (letter (IntKind.i64.wrap (i + 1)) i) ++ fmt c.e).length) ≤ (9223372036854775807 : Int))) (.leaf (Stop.at (loopOf Try.prog 10 0) 36 (slotsS 36 [(1, SV.ptr 0 0), (4, SV.str (s ++ (sp ++ (letter (IntKind.i64.wrap (i + 1)) i) ++ fmt c.e))), (12, I64 (IntKind.i64.wrap (i + 1)))]) [some (Box.cells [I64 c.code, I64 c.has, I64 c.x, I64 c.y, I64 c.z, I64 c.e, I64 c.f, I64 c.s])]))))
         (.node (i == 4)
          (.req (decide (↑((sp ++ (letter (IntKind.i64.wrap (i + 1)) i)).length + (fmt c.f).length) ≤ (9223372036854775807 : Int))) (.req (decide (↑(s.length + (sp ++ (letter (IntKind.i64.wrap (i + 1)) i) ++ fmt c.f).length) ≤ (9223372036854775807 : Int))) (.leaf (Stop.at (loopOf Try.prog 10 0) 36 (slotsS 36 [(1, SV.ptr 0 0), (4, SV.str (s ++ (sp ++ (letter (IntKind.i64.wrap (i + 1)) i) ++ fmt c.f))), (12, I64 (IntKind.i64.wrap (i + 1)))]) [some (Box.cells [I64 c.code, I64 c.has, I64 c.x, I64 c.y, I64 c.z, I64 c.e, I64 c.f, I64 c.s])]))))
          (.req (decide (↑((sp ++ (letter (IntKind.i64.wrap (i + 1)) i)).length + (fmt c.s).length) ≤ (9223372036854775807 : Int))) (.req (decide (↑(s.length + (sp ++ (letter (IntKind.i64.wrap (i + 1)) i) ++ fmt c.s).length) ≤ (9223372036854775807 : Int))) (.leaf (Stop.at (loopOf Try.prog 10 0) 36 (slotsS 36 [(1, SV.ptr 0 0), (4, SV.str (s ++ (sp ++ (letter (IntKind.i64.wrap (i + 1)) i) ++ fmt c.s))), (12, I64 (IntKind.i64.wrap (i + 1)))]) [some (Box.cells [I64 c.code, I64 c.has, I64 c.x, I64 c.y, I64 c.z, I64 c.e, I64 c.f, I64 c.s])])))))))))))
   (.leaf (Stop.at (loopOf Try.prog 10 0) 36 (slotsS 36 [(1, SV.ptr 0 0), (4, SV.str s), (12, I64 (IntKind.i64.wrap (i + 1)))]) [some (Box.cells [I64 c.code, I64 c.has, I64 c.x, I64 c.y, I64 c.z, I64 c.e, I64 c.f, I64 c.s])]))))
 (.leaf (Stop.done (SV.tuple [SV.str s, I64 0])))
theorem print1 (c : C) (s : List UInt8) (i : Int) : segR (Env.of Try.prog (sumOf [fValid, fName, fField, fFmt])) 1000 (fnOf Try.prog 10) .unit (keepS 36 [1,4,12]) (loopOf Try.prog 10 0) print1_p (slotsS 36 [(1, .ptr 0 0), (4, .str s), (12, I64 i)]) [some (.cells c.cells)] = print1_t c s i := by kernel_rfl
def printR0_p : Plan := .fork (.all) (.all)
noncomputable def printR0_t (c : C) : Tree Stop :=
   .node (!c.validR)
 (.leaf (Stop.done (SV.tuple [SV.str [], I64 1])))
 (.leaf (Stop.at (loopOf Try.prog 11 0) 42 (slotsS 42 [(1, SV.ptr 0 0), (4, SV.str (nameOf c.code)), (5, SV.list (Ty.int IntKind.i64) [c.x, c.y, c.z, c.e, c.f, c.s]), (6, I64 0)]) [some (Box.cells [I64 c.code, I64 c.has, I64 c.x, I64 c.y, I64 c.z, I64 c.e, I64 c.f, I64 c.s])]))
theorem printR0 (c : C) : segR (Env.of Try.prog (sumOf [fValidR, fNameR, fFields, fFmtR])) 1000 (fnOf Try.prog 11) .unit (keepS 42 [1,4,5,6]) (codeS Try.prog 11) printR0_p (startS Try.prog 11 [c.sv]) [] = printR0_t c := by kernel_rfl
def printR1_p : Plan := .fork (.fork (.all) (.all)) (.all)
noncomputable def printR1_t (c : C) (s : List UInt8) (i : Int) : Tree Stop :=
   .node (decide (i < ↑[c.x, c.y, c.z, c.e, c.f, c.s].length))
 (.req (decide (0 ≤ IntKind.u64.wrap i)) (.node (IntKind.i64.wrap ↑(BitVec.ofInt IntKind.i64.bits (c.has.fdiv (2 ^ min (IntKind.u64.wrap i).toNat IntKind.i64.bits)) &&& BitVec.ofInt IntKind.i64.bits 1).toNat == 1)
   (.req ((decide (0 ≤ IntKind.i64.wrap (i + 1)) && decide (IntKind.i64.wrap (i + 1) ≤ (↑letters.length : Int)) && decide (0 ≤ i) && decide (i ≤ IntKind.i64.wrap (i + 1)))) (.req (decide (↑(sp.length + (letter (IntKind.i64.wrap (i + 1)) i).length) ≤ (9223372036854775807 : Int))) (.req (decide (0 ≤ i) && decide (i < ↑[c.x, c.y, c.z, c.e, c.f, c.s].length)) (.req (decide (↑((sp ++ (letter (IntKind.i64.wrap (i + 1)) i)).length + (fmt ([c.x, c.y, c.z, c.e, c.f, c.s].getD i.toNat (Ty.int IntKind.i64).dflt)).length) ≤ (9223372036854775807 : Int))) (.req (decide (↑(s.length + (sp ++ (letter (IntKind.i64.wrap (i + 1)) i) ++ fmt ([c.x, c.y, c.z, c.e, c.f, c.s].getD i.toNat (Ty.int IntKind.i64).dflt)).length) ≤ (9223372036854775807 : Int))) (.leaf (Stop.at (loopOf Try.prog 11 0) 42 (slotsS 42 [(1, SV.ptr 0 0), (4, SV.str (s ++ (sp ++ (letter (IntKind.i64.wrap (i + 1)) i) ++ fmt ([c.x, c.y, c.z, c.e, c.f, c.s].getD i.toNat (Ty.int IntKind.i64).dflt)))), (5, SV.list (Ty.int IntKind.i64) [c.x, c.y, c.z, c.e, c.f, c.s]), (6, I64 (IntKind.i64.wrap (i + 1)))]) [some (Box.cells [I64 c.code, I64 c.has, I64 c.x, I64 c.y, I64 c.z, I64 c.e, I64 c.f, I64 c.s])])))))))
   (.leaf (Stop.at (loopOf Try.prog 11 0) 42 (slotsS 42 [(1, SV.ptr 0 0), (4, SV.str s), (5, SV.list (Ty.int IntKind.i64) [c.x, c.y, c.z, c.e, c.f, c.s]), (6, I64 (IntKind.i64.wrap (i + 1)))]) [some (Box.cells [I64 c.code, I64 c.has, I64 c.x, I64 c.y, I64 c.z, I64 c.e, I64 c.f, I64 c.s])]))))
 (.leaf (Stop.done (SV.tuple [SV.str s, I64 0])))
theorem printR1 (c : C) (s : List UInt8) (i : Int) : segR (Env.of Try.prog (sumOf [fValidR, fNameR, fFields, fFmtR])) 1000 (fnOf Try.prog 11) .unit (keepS 42 [1,4,5,6]) (loopOf Try.prog 11 0) printR1_p (slotsS 42 [(1, .ptr 0 0), (4, .str s), (5, .list (.int .i64) [c.x, c.y, c.z, c.e, c.f, c.s]), (6, I64 i)]) [some (.cells c.cells)] = printR1_t c s i := by kernel_rfl
end Go.Proofs.Ytkmohnciiincmaa
