/-
  GW: the segments of Print and of the reference's. Written by gen.py.
  V: Print and the reference's: contracts.
  W: the law: the program's Parse answers as the reference's. And Same: contract.
  X: the law of the round trip: what Print writes is read again. And Same: contract.
  Y: the example that each statement checks.
  QA: what Parse hands back, in parts; facts of it.
  GZ: the laws StlPrints and StlParses: contracts. Written by gen.py.
-/
import Derived.Test.YtlhkgeoahblffaaDoorZA9
set_option linter.unusedSimpArgs false
set_option linter.unusedVariables false
set_option maxRecDepth 100000
namespace Go.Proofs.YtlhkgeoahblffaaDoor
open Go.Sx
/-- The line of a vertex. -/
def vline (x y z : Int) : List UInt8 := [32, 32, 32, 32, 118, 101, 114, 116, 101, 120, 32] ++ fmt x ++ [32] ++ fmt y ++ [32] ++ fmt z ++ [10]
def pr0_p : Plan := .fork (.all) (.all)
noncomputable def pr0_t (us ts : List (Int × Int × Int)) : Tree Stop :=
   .node (chk us ts != 0)
 (.leaf (Stop.done (SV.tuple [SV.str [], I64 (chk us ts)])))
 (.req (true) (.leaf (Stop.at (loopOf Tryd.prog 15 0) 64 (slotsS 64 [(1, SV.ptr 0 0), (5, SV.ptr 1 0), (21, I64 ((ts.length : Int) : Int)), (22, I64 0), (37, SV.undef), (38, SV.undef)]) [some (Box.cells [SV.list v3 us, SV.list v3 ts]), some (Box.obj 51 [SV.ptr 1 0, SV.row 2]), some (Box.rows (Ty.int IntKind.u8) (ub [115, 111, 108, 105, 100, 10]))])))
theorem pr0 (us ts : List (Int × Int × Int)) : segR (Env.ofB Tryd.prog (sumOf [fCheck, fCorners, fFmt]) (wrOf [wCopy, wStr]) (pnOf []) (bxOf []) (rdOf [51]) (rdOf [28]) (rdOf []) (rdOf [])) 1000 (fnOf Tryd.prog 15) .unit (keepS 64 [1,5,21,22,37,38]) (codeS Tryd.prog 15) pr0_p (startS Tryd.prog 15 [.agg [.list v3 us, .list v3 ts]]) [] = pr0_t us ts := by kernel_rfl
def pr1_p : Plan := .fork (.fork (.all) (.all)) (.fork (.all) (.all))
noncomputable def pr1_t (us ts : List (Int × Int × Int)) (l : List Int) (i : Int) : Tree Stop :=
   .node (decide (i < ((ts.length : Int) : Int)))
 (.node (noTri us ts i)
  (.req (decide ((l.length + 8) * 1 ≤ 140737488355328)) (.leaf (Stop.at (loopOf Tryd.prog 15 1) 64 (slotsS 64 [(1, SV.ptr 0 0), (5, SV.ptr 1 0), (21, I64 ((ts.length : Int) : Int)), (22, I64 i), (37, SV.agg [I64 0, I64 0, I64 0, I64 0, I64 0, I64 0, I64 0, I64 0, I64 0]), (38, I64 0)]) [some (Box.cells [SV.list v3 us, SV.list v3 ts]), some (Box.obj 51 [SV.ptr 1 0, SV.row 2]), some (Box.rows (Ty.int IntKind.u8) (l ++ ub [32, 32, 102, 97, 99, 101, 116, 10]))])))
  (.req (decide ((l.length + 8) * 1 ≤ 140737488355328)) (.leaf (Stop.at (loopOf Tryd.prog 15 1) 64 (slotsS 64 [(1, SV.ptr 0 0), (5, SV.ptr 1 0), (21, I64 ((ts.length : Int) : Int)), (22, I64 i), (37, SV.agg [I64 (nth3 us (nth3 ts i).fst).fst, I64 (nth3 us (nth3 ts i).fst).snd.fst, I64 (nth3 us (nth3 ts i).fst).snd.snd, I64 (nth3 us (nth3 ts i).snd.fst).fst, I64 (nth3 us (nth3 ts i).snd.fst).snd.fst, I64 (nth3 us (nth3 ts i).snd.fst).snd.snd, I64 (nth3 us (nth3 ts i).snd.snd).fst, I64 (nth3 us (nth3 ts i).snd.snd).snd.fst, I64 (nth3 us (nth3 ts i).snd.snd).snd.snd]), (38, I64 0)]) [some (Box.cells [SV.list v3 us, SV.list v3 ts]), some (Box.obj 51 [SV.ptr 1 0, SV.row 2]), some (Box.rows (Ty.int IntKind.u8) (l ++ ub [32, 32, 102, 97, 99, 101, 116, 10]))]))))
 (.req (decide ((l.length + 9) * 1 ≤ 140737488355328)) (.node (decide ((((l ++ ub [101, 110, 100, 115, 111, 108, 105, 100, 10]).length : Int) : Int) > 65536))
   (.leaf (Stop.done (SV.tuple [SV.str [], I64 2])))
   (.req (okU (l ++ ub [101, 110, 100, 115, 111, 108, 105, 100, 10])) (.req (decide (0 < (l ++ ub [101, 110, 100, 115, 111, 108, 105, 100, 10]).length)) (.req (decide ((((l ++ ub [101, 110, 100, 115, 111, 108, 105, 100, 10]).length : Int) : Int) ≤ (9223372036854775807 : Int))) (.leaf (Stop.done (SV.tuple [SV.str (ofU (l ++ ub [101, 110, 100, 115, 111, 108, 105, 100, 10])), I64 0]))))))))
theorem pr1 (us ts : List (Int × Int × Int)) (l : List Int) (i : Int) : segR (Env.ofB Tryd.prog (sumOf [fCheck, fCorners, fFmt]) (wrOf [wCopy, wStr]) (pnOf []) (bxOf []) (rdOf [51]) (rdOf [28]) (rdOf []) (rdOf [])) 1000 (fnOf Tryd.prog 15) .unit (keepS 64 [1,5,21,22,37,38]) (loopOf Tryd.prog 15 0) pr1_p (slotsS 64 [(1, .ptr 0 0), (5, .ptr 1 0), (21, I64 (ts.length : Int)), (22, I64 i), (37, .undef), (38, .undef)]) [some (.cells [.list v3 us, .list v3 ts]), some (.obj 51 [.ptr 1 0, .row 2]), some (.rows (.int .u8) l)] = pr1_t us ts l i := by kernel_rfl
def pr1b_p : Plan := .fork (.fork (.all) (.all)) (.fork (.all) (.all))
noncomputable def pr1b_t (us ts : List (Int × Int × Int)) (l : List Int) (i a b c d e f g h k : Int) : Tree Stop :=
   .node (decide (i < ((ts.length : Int) : Int)))
 (.node (noTri us ts i)
  (.req (decide ((l.length + 8) * 1 ≤ 140737488355328)) (.leaf (Stop.at (loopOf Tryd.prog 15 1) 64 (slotsS 64 [(1, SV.ptr 0 0), (5, SV.ptr 1 0), (21, I64 ((ts.length : Int) : Int)), (22, I64 i), (37, SV.agg [I64 0, I64 0, I64 0, I64 0, I64 0, I64 0, I64 0, I64 0, I64 0]), (38, I64 0)]) [some (Box.cells [SV.list v3 us, SV.list v3 ts]), some (Box.obj 51 [SV.ptr 1 0, SV.row 2]), some (Box.rows (Ty.int IntKind.u8) (l ++ ub [32, 32, 102, 97, 99, 101, 116, 10]))])))
  (.req (decide ((l.length + 8) * 1 ≤ 140737488355328)) (.leaf (Stop.at (loopOf Tryd.prog 15 1) 64 (slotsS 64 [(1, SV.ptr 0 0), (5, SV.ptr 1 0), (21, I64 ((ts.length : Int) : Int)), (22, I64 i), (37, SV.agg [I64 (nth3 us (nth3 ts i).fst).fst, I64 (nth3 us (nth3 ts i).fst).snd.fst, I64 (nth3 us (nth3 ts i).fst).snd.snd, I64 (nth3 us (nth3 ts i).snd.fst).fst, I64 (nth3 us (nth3 ts i).snd.fst).snd.fst, I64 (nth3 us (nth3 ts i).snd.fst).snd.snd, I64 (nth3 us (nth3 ts i).snd.snd).fst, I64 (nth3 us (nth3 ts i).snd.snd).snd.fst, I64 (nth3 us (nth3 ts i).snd.snd).snd.snd]), (38, I64 0)]) [some (Box.cells [SV.list v3 us, SV.list v3 ts]), some (Box.obj 51 [SV.ptr 1 0, SV.row 2]), some (Box.rows (Ty.int IntKind.u8) (l ++ ub [32, 32, 102, 97, 99, 101, 116, 10]))]))))
 (.req (decide ((l.length + 9) * 1 ≤ 140737488355328)) (.node (decide ((((l ++ ub [101, 110, 100, 115, 111, 108, 105, 100, 10]).length : Int) : Int) > 65536))
   (.leaf (Stop.done (SV.tuple [SV.str [], I64 2])))
   (.req (okU (l ++ ub [101, 110, 100, 115, 111, 108, 105, 100, 10])) (.req (decide (0 < (l ++ ub [101, 110, 100, 115, 111, 108, 105, 100, 10]).length)) (.req (decide ((((l ++ ub [101, 110, 100, 115, 111, 108, 105, 100, 10]).length : Int) : Int) ≤ (9223372036854775807 : Int))) (.leaf (Stop.done (SV.tuple [SV.str (ofU (l ++ ub [101, 110, 100, 115, 111, 108, 105, 100, 10])), I64 0]))))))))
theorem pr1b (us ts : List (Int × Int × Int)) (l : List Int) (i a b c d e f g h k : Int) : segR (Env.ofB Tryd.prog (sumOf [fCheck, fCorners, fFmt]) (wrOf [wCopy, wStr]) (pnOf []) (bxOf []) (rdOf [51]) (rdOf [28]) (rdOf []) (rdOf [])) 1000 (fnOf Tryd.prog 15) .unit (keepS 64 [1,5,21,22,37,38]) (loopOf Tryd.prog 15 0) pr1b_p (slotsS 64 [(1, .ptr 0 0), (5, .ptr 1 0), (21, I64 (ts.length : Int)), (22, I64 i), (37, .agg [I64 a, I64 b, I64 c, I64 d, I64 e, I64 f, I64 g, I64 h, I64 k]), (38, I64 3)]) [some (.cells [.list v3 us, .list v3 ts]), some (.obj 51 [.ptr 1 0, .row 2]), some (.rows (.int .u8) l)] = pr1b_t us ts l i a b c d e f g h k := by kernel_rfl
def pr20_p : Plan := .lit (.all)
noncomputable def pr20_t (us ts : List (Int × Int × Int)) (l : List Int) (i a b c d e f g h k : Int) : Tree Stop :=
   .req (true) (.req (decide (((11 + (fmt a).length : Nat) : Int) ≤ (9223372036854775807 : Int))) (.req (decide (((([32, 32, 32, 32, 118, 101, 114, 116, 101, 120, 32] ++ fmt a).length + 1 : Nat) : Int) ≤ (9223372036854775807 : Int))) (.req (decide (((([32, 32, 32, 32, 118, 101, 114, 116, 101, 120, 32] ++ fmt a ++ [32]).length + (fmt b).length : Nat) : Int) ≤ (9223372036854775807 : Int))) (.req (decide (((([32, 32, 32, 32, 118, 101, 114, 116, 101, 120, 32] ++ fmt a ++ [32] ++ fmt b).length + 1 : Nat) : Int) ≤ (9223372036854775807 : Int))) (.req (decide (((([32, 32, 32, 32, 118, 101, 114, 116, 101, 120, 32] ++ fmt a ++ [32] ++ fmt b ++ [32]).length + (fmt c).length : Nat) : Int) ≤ (9223372036854775807 : Int))) (.req (decide (((([32, 32, 32, 32, 118, 101, 114, 116, 101, 120, 32] ++ fmt a ++ [32] ++ fmt b ++ [32] ++ fmt c).length + 1 : Nat) : Int) ≤ (9223372036854775807 : Int))) (.req (decide ((l.length + (ub ([32, 32, 32, 32, 118, 101, 114, 116, 101, 120, 32] ++ fmt a ++ [32] ++ fmt b ++ [32] ++ fmt c ++ [10])).length) * 1 ≤ 140737488355328)) (.leaf (Stop.at (loopOf Tryd.prog 15 1) 64 (slotsS 64 [(1, SV.ptr 0 0), (5, SV.ptr 1 0), (21, I64 ((ts.length : Int) : Int)), (22, I64 i), (37, SV.agg [I64 a, I64 b, I64 c, I64 d, I64 e, I64 f, I64 g, I64 h, I64 k]), (38, I64 1)]) [some (Box.cells [SV.list v3 us, SV.list v3 ts]), some (Box.obj 51 [SV.ptr 1 0, SV.row 2]), some (Box.rows (Ty.int IntKind.u8) (l ++ ub ([32, 32, 32, 32, 118, 101, 114, 116, 101, 120, 32] ++ fmt a ++ [32] ++ fmt b ++ [32] ++ fmt c ++ [10])))])))))))))
theorem pr20 (us ts : List (Int × Int × Int)) (l : List Int) (i a b c d e f g h k : Int) : segR (Env.ofB Tryd.prog (sumOf [fCheck, fCorners, fFmt]) (wrOf [wCopy, wStr]) (pnOf []) (bxOf []) (rdOf [51]) (rdOf [28]) (rdOf []) (rdOf [])) 1000 (fnOf Tryd.prog 15) .unit (keepS 64 [1,5,21,22,37,38]) (loopOf Tryd.prog 15 1) pr20_p (slotsS 64 [(1, .ptr 0 0), (5, .ptr 1 0), (21, I64 (ts.length : Int)), (22, I64 i), (37, .agg [I64 a, I64 b, I64 c, I64 d, I64 e, I64 f, I64 g, I64 h, I64 k]), (38, I64 0)]) [some (.cells [.list v3 us, .list v3 ts]), some (.obj 51 [.ptr 1 0, .row 2]), some (.rows (.int .u8) l)] = pr20_t us ts l i a b c d e f g h k := by kernel_rfl
def pr21_p : Plan := .lit (.all)
noncomputable def pr21_t (us ts : List (Int × Int × Int)) (l : List Int) (i a b c d e f g h k : Int) : Tree Stop :=
   .req (true) (.req (decide (((11 + (fmt d).length : Nat) : Int) ≤ (9223372036854775807 : Int))) (.req (decide (((([32, 32, 32, 32, 118, 101, 114, 116, 101, 120, 32] ++ fmt d).length + 1 : Nat) : Int) ≤ (9223372036854775807 : Int))) (.req (decide (((([32, 32, 32, 32, 118, 101, 114, 116, 101, 120, 32] ++ fmt d ++ [32]).length + (fmt e).length : Nat) : Int) ≤ (9223372036854775807 : Int))) (.req (decide (((([32, 32, 32, 32, 118, 101, 114, 116, 101, 120, 32] ++ fmt d ++ [32] ++ fmt e).length + 1 : Nat) : Int) ≤ (9223372036854775807 : Int))) (.req (decide (((([32, 32, 32, 32, 118, 101, 114, 116, 101, 120, 32] ++ fmt d ++ [32] ++ fmt e ++ [32]).length + (fmt f).length : Nat) : Int) ≤ (9223372036854775807 : Int))) (.req (decide (((([32, 32, 32, 32, 118, 101, 114, 116, 101, 120, 32] ++ fmt d ++ [32] ++ fmt e ++ [32] ++ fmt f).length + 1 : Nat) : Int) ≤ (9223372036854775807 : Int))) (.req (decide ((l.length + (ub ([32, 32, 32, 32, 118, 101, 114, 116, 101, 120, 32] ++ fmt d ++ [32] ++ fmt e ++ [32] ++ fmt f ++ [10])).length) * 1 ≤ 140737488355328)) (.leaf (Stop.at (loopOf Tryd.prog 15 1) 64 (slotsS 64 [(1, SV.ptr 0 0), (5, SV.ptr 1 0), (21, I64 ((ts.length : Int) : Int)), (22, I64 i), (37, SV.agg [I64 a, I64 b, I64 c, I64 d, I64 e, I64 f, I64 g, I64 h, I64 k]), (38, I64 2)]) [some (Box.cells [SV.list v3 us, SV.list v3 ts]), some (Box.obj 51 [SV.ptr 1 0, SV.row 2]), some (Box.rows (Ty.int IntKind.u8) (l ++ ub ([32, 32, 32, 32, 118, 101, 114, 116, 101, 120, 32] ++ fmt d ++ [32] ++ fmt e ++ [32] ++ fmt f ++ [10])))])))))))))
theorem pr21 (us ts : List (Int × Int × Int)) (l : List Int) (i a b c d e f g h k : Int) : segR (Env.ofB Tryd.prog (sumOf [fCheck, fCorners, fFmt]) (wrOf [wCopy, wStr]) (pnOf []) (bxOf []) (rdOf [51]) (rdOf [28]) (rdOf []) (rdOf [])) 1000 (fnOf Tryd.prog 15) .unit (keepS 64 [1,5,21,22,37,38]) (loopOf Tryd.prog 15 1) pr21_p (slotsS 64 [(1, .ptr 0 0), (5, .ptr 1 0), (21, I64 (ts.length : Int)), (22, I64 i), (37, .agg [I64 a, I64 b, I64 c, I64 d, I64 e, I64 f, I64 g, I64 h, I64 k]), (38, I64 1)]) [some (.cells [.list v3 us, .list v3 ts]), some (.obj 51 [.ptr 1 0, .row 2]), some (.rows (.int .u8) l)] = pr21_t us ts l i a b c d e f g h k := by kernel_rfl
def pr22_p : Plan := .lit (.all)
noncomputable def pr22_t (us ts : List (Int × Int × Int)) (l : List Int) (i a b c d e f g h k : Int) : Tree Stop :=
   .req (true) (.req (decide (((11 + (fmt g).length : Nat) : Int) ≤ (9223372036854775807 : Int))) (.req (decide (((([32, 32, 32, 32, 118, 101, 114, 116, 101, 120, 32] ++ fmt g).length + 1 : Nat) : Int) ≤ (9223372036854775807 : Int))) (.req (decide (((([32, 32, 32, 32, 118, 101, 114, 116, 101, 120, 32] ++ fmt g ++ [32]).length + (fmt h).length : Nat) : Int) ≤ (9223372036854775807 : Int))) (.req (decide (((([32, 32, 32, 32, 118, 101, 114, 116, 101, 120, 32] ++ fmt g ++ [32] ++ fmt h).length + 1 : Nat) : Int) ≤ (9223372036854775807 : Int))) (.req (decide (((([32, 32, 32, 32, 118, 101, 114, 116, 101, 120, 32] ++ fmt g ++ [32] ++ fmt h ++ [32]).length + (fmt k).length : Nat) : Int) ≤ (9223372036854775807 : Int))) (.req (decide (((([32, 32, 32, 32, 118, 101, 114, 116, 101, 120, 32] ++ fmt g ++ [32] ++ fmt h ++ [32] ++ fmt k).length + 1 : Nat) : Int) ≤ (9223372036854775807 : Int))) (.req (decide ((l.length + (ub ([32, 32, 32, 32, 118, 101, 114, 116, 101, 120, 32] ++ fmt g ++ [32] ++ fmt h ++ [32] ++ fmt k ++ [10])).length) * 1 ≤ 140737488355328)) (.leaf (Stop.at (loopOf Tryd.prog 15 1) 64 (slotsS 64 [(1, SV.ptr 0 0), (5, SV.ptr 1 0), (21, I64 ((ts.length : Int) : Int)), (22, I64 i), (37, SV.agg [I64 a, I64 b, I64 c, I64 d, I64 e, I64 f, I64 g, I64 h, I64 k]), (38, I64 3)]) [some (Box.cells [SV.list v3 us, SV.list v3 ts]), some (Box.obj 51 [SV.ptr 1 0, SV.row 2]), some (Box.rows (Ty.int IntKind.u8) (l ++ ub ([32, 32, 32, 32, 118, 101, 114, 116, 101, 120, 32] ++ fmt g ++ [32] ++ fmt h ++ [32] ++ fmt k ++ [10])))])))))))))
theorem pr22 (us ts : List (Int × Int × Int)) (l : List Int) (i a b c d e f g h k : Int) : segR (Env.ofB Tryd.prog (sumOf [fCheck, fCorners, fFmt]) (wrOf [wCopy, wStr]) (pnOf []) (bxOf []) (rdOf [51]) (rdOf [28]) (rdOf []) (rdOf [])) 1000 (fnOf Tryd.prog 15) .unit (keepS 64 [1,5,21,22,37,38]) (loopOf Tryd.prog 15 1) pr22_p (slotsS 64 [(1, .ptr 0 0), (5, .ptr 1 0), (21, I64 (ts.length : Int)), (22, I64 i), (37, .agg [I64 a, I64 b, I64 c, I64 d, I64 e, I64 f, I64 g, I64 h, I64 k]), (38, I64 2)]) [some (.cells [.list v3 us, .list v3 ts]), some (.obj 51 [.ptr 1 0, .row 2]), some (.rows (.int .u8) l)] = pr22_t us ts l i a b c d e f g h k := by kernel_rfl
def pr23_p : Plan := .lit (.all)
noncomputable def pr23_t (us ts : List (Int × Int × Int)) (l : List Int) (i a b c d e f g h k : Int) : Tree Stop :=
   .req (decide ((l.length + 11) * 1 ≤ 140737488355328)) (.leaf (Stop.at (loopOf Tryd.prog 15 0) 64 (slotsS 64 [(1, SV.ptr 0 0), (5, SV.ptr 1 0), (21, I64 ((ts.length : Int) : Int)), (22, I64 (IntKind.i64.wrap (i + 1))), (37, SV.agg [I64 a, I64 b, I64 c, I64 d, I64 e, I64 f, I64 g, I64 h, I64 k]), (38, I64 3)]) [some (Box.cells [SV.list v3 us, SV.list v3 ts]), some (Box.obj 51 [SV.ptr 1 0, SV.row 2]), some (Box.rows (Ty.int IntKind.u8) (l ++ ub [32, 32, 101, 110, 100, 102, 97, 99, 101, 116, 10]))]))
theorem pr23 (us ts : List (Int × Int × Int)) (l : List Int) (i a b c d e f g h k : Int) : segR (Env.ofB Tryd.prog (sumOf [fCheck, fCorners, fFmt]) (wrOf [wCopy, wStr]) (pnOf []) (bxOf []) (rdOf [51]) (rdOf [28]) (rdOf []) (rdOf [])) 1000 (fnOf Tryd.prog 15) .unit (keepS 64 [1,5,21,22,37,38]) (loopOf Tryd.prog 15 1) pr23_p (slotsS 64 [(1, .ptr 0 0), (5, .ptr 1 0), (21, I64 (ts.length : Int)), (22, I64 i), (37, .agg [I64 a, I64 b, I64 c, I64 d, I64 e, I64 f, I64 g, I64 h, I64 k]), (38, I64 3)]) [some (.cells [.list v3 us, .list v3 ts]), some (.obj 51 [.ptr 1 0, .row 2]), some (.rows (.int .u8) l)] = pr23_t us ts l i a b c d e f g h k := by kernel_rfl
theorem s_vertexR (x y z : Int) : SCall Tryd.prog 33 [.agg [I64 x, I64 y, I64 z]] (.str (vline x y z)) :=
  scall_v mix [fFmtR] ⟨o_fmtR, trivial⟩ 1000 (.all)
   (t := .req (decide (((11 + (fmt x).length : Nat) : Int) ≤ (9223372036854775807 : Int))) (.req (decide (((([32, 32, 32, 32, 118, 101, 114, 116, 101, 120, 32] ++ fmt x).length + 1 : Nat) : Int) ≤ (9223372036854775807 : Int))) (.req (decide (((([32, 32, 32, 32, 118, 101, 114, 116, 101, 120, 32] ++ fmt x ++ [32]).length + (fmt y).length : Nat) : Int) ≤ (9223372036854775807 : Int))) (.req (decide (((([32, 32, 32, 32, 118, 101, 114, 116, 101, 120, 32] ++ fmt x ++ [32] ++ fmt y).length + 1 : Nat) : Int) ≤ (9223372036854775807 : Int))) (.req (decide (((([32, 32, 32, 32, 118, 101, 114, 116, 101, 120, 32] ++ fmt x ++ [32] ++ fmt y ++ [32]).length + (fmt z).length : Nat) : Int) ≤ (9223372036854775807 : Int))) (.req (decide (((([32, 32, 32, 32, 118, 101, 114, 116, 101, 120, 32] ++ fmt x ++ [32] ++ fmt y ++ [32] ++ fmt z).length + 1 : Nat) : Int) ≤ (9223372036854775807 : Int))) (.leaf (SV.str ([32, 32, 32, 32, 118, 101, 114, 116, 101, 120, 32] ++ fmt x ++ [32] ++ fmt y ++ [32] ++ fmt z ++ [10])))))))))
   (by kernel_rfl) (by 
     have a := fmt_len x; have b := fmt_len y; have c := fmt_len z
     simp only [Tree.holds, decide_eq_true_eq, List.length_append, List.length_cons, List.length_nil]
     refine ⟨?_, ?_, ?_, ?_, ?_, ?_, rfl⟩ <;> omega) (by kernel_rfl) (by kernel_rfl)
def fVertexR : Fact := ⟨33, fun args => match args with
  | [.agg [.int .i64 x, .int .i64 y, .int .i64 z]] => some (.leaf (.str (vline x y z)))
  | _ => none⟩
theorem o_vertexR : fVertexR.ok Tryd.prog := fun args t ht => by
  simp only [fVertexR] at ht
  split at ht
  · injection ht with ht; subst ht; exact s_vertexR _ _ _
  · cases ht
def ps1_p : Plan := .fork (.fork (.all) (.all)) (.fork (.all) (.all))
noncomputable def ps1_t (us ts : List (Int × Int × Int)) (s : List UInt8) (i : Int) : Tree Stop :=
   .node (decide (i < ((ts.length : Int) : Int)))
 (.req (decide (0 ≤ i) && decide (i < ((ts.length : Int) : Int))) (.req (decide (0 ≤ (nth3 ts i).fst) && decide ((nth3 ts i).fst < ((us.length : Int) : Int))) (.req (decide (((8 + (vline (nth3 us (nth3 ts i).fst).fst (nth3 us (nth3 ts i).fst).snd.fst (nth3 us (nth3 ts i).fst).snd.snd).length : Nat) : Int) ≤ (9223372036854775807 : Int))) (.req (decide (0 ≤ (nth3 ts i).snd.fst) && decide ((nth3 ts i).snd.fst < ((us.length : Int) : Int))) (.req (decide (((([32, 32, 102, 97, 99, 101, 116, 10] ++ vline (nth3 us (nth3 ts i).fst).fst (nth3 us (nth3 ts i).fst).snd.fst (nth3 us (nth3 ts i).fst).snd.snd).length + (vline (nth3 us (nth3 ts i).snd.fst).fst (nth3 us (nth3 ts i).snd.fst).snd.fst (nth3 us (nth3 ts i).snd.fst).snd.snd).length : Nat) : Int) ≤ (9223372036854775807 : Int))) (.req (decide (0 ≤ (nth3 ts i).snd.snd) && decide ((nth3 ts i).snd.snd < ((us.length : Int) : Int))) (.req (decide (((([32, 32, 102, 97, 99, 101, 116, 10] ++ vline (nth3 us (nth3 ts i).fst).fst (nth3 us (nth3 ts i).fst).snd.fst (nth3 us (nth3 ts i).fst).snd.snd ++ vline (nth3 us (nth3 ts i).snd.fst).fst (nth3 us (nth3 ts i).snd.fst).snd.fst (nth3 us (nth3 ts i).snd.fst).snd.snd).length + (vline (nth3 us (nth3 ts i).snd.snd).fst (nth3 us (nth3 ts i).snd.snd).snd.fst (nth3 us (nth3 ts i).snd.snd).snd.snd).length : Nat) : Int) ≤ (9223372036854775807 : Int))) (.req (decide (((([32, 32, 102, 97, 99, 101, 116, 10] ++ vline (nth3 us (nth3 ts i).fst).fst (nth3 us (nth3 ts i).fst).snd.fst (nth3 us (nth3 ts i).fst).snd.snd ++ vline (nth3 us (nth3 ts i).snd.fst).fst (nth3 us (nth3 ts i).snd.fst).snd.fst (nth3 us (nth3 ts i).snd.fst).snd.snd ++ vline (nth3 us (nth3 ts i).snd.snd).fst (nth3 us (nth3 ts i).snd.snd).snd.fst (nth3 us (nth3 ts i).snd.snd).snd.snd).length + 11 : Nat) : Int) ≤ (9223372036854775807 : Int))) (.req (decide (((s.length + ([32, 32, 102, 97, 99, 101, 116, 10] ++ vline (nth3 us (nth3 ts i).fst).fst (nth3 us (nth3 ts i).fst).snd.fst (nth3 us (nth3 ts i).fst).snd.snd ++ vline (nth3 us (nth3 ts i).snd.fst).fst (nth3 us (nth3 ts i).snd.fst).snd.fst (nth3 us (nth3 ts i).snd.fst).snd.snd ++ vline (nth3 us (nth3 ts i).snd.snd).fst (nth3 us (nth3 ts i).snd.snd).snd.fst (nth3 us (nth3 ts i).snd.snd).snd.snd ++ [32, 32, 101, 110, 100, 102, 97, 99, 101, 116, 10]).length : Nat) : Int) ≤ (9223372036854775807 : Int))) (.node (decide ((↑(s ++ ([32, 32, 102, 97, 99, 101, 116, 10] ++ vline (nth3 us (nth3 ts i).fst).fst (nth3 us (nth3 ts i).fst).snd.fst (nth3 us (nth3 ts i).fst).snd.snd ++ vline (nth3 us (nth3 ts i).snd.fst).fst (nth3 us (nth3 ts i).snd.fst).snd.fst (nth3 us (nth3 ts i).snd.fst).snd.snd ++ vline (nth3 us (nth3 ts i).snd.snd).fst (nth3 us (nth3 ts i).snd.snd).snd.fst (nth3 us (nth3 ts i).snd.snd).snd.snd ++ [32, 32, 101, 110, 100, 102, 97, 99, 101, 116, 10])).length : Int) > 65536))
           (.leaf (Stop.done (SV.tuple [SV.str [], I64 2])))
           (.leaf (Stop.at (loopOf Tryd.prog 16 0) 61 (slotsS 61 [(1, SV.ptr 0 0), (5, SV.str (s ++ ([32, 32, 102, 97, 99, 101, 116, 10] ++ vline (nth3 us (nth3 ts i).fst).fst (nth3 us (nth3 ts i).fst).snd.fst (nth3 us (nth3 ts i).fst).snd.snd ++ vline (nth3 us (nth3 ts i).snd.fst).fst (nth3 us (nth3 ts i).snd.fst).snd.fst (nth3 us (nth3 ts i).snd.fst).snd.snd ++ vline (nth3 us (nth3 ts i).snd.snd).fst (nth3 us (nth3 ts i).snd.snd).snd.fst (nth3 us (nth3 ts i).snd.snd).snd.snd ++ [32, 32, 101, 110, 100, 102, 97, 99, 101, 116, 10]))), (6, I64 (IntKind.i64.wrap (i + 1)))]) [some (Box.cells [SV.list v3 us, SV.list v3 ts])]))))))))))))
 (.req (decide (((s.length + 9 : Nat) : Int) ≤ (9223372036854775807 : Int))) (.node (decide ((↑(s ++ [101, 110, 100, 115, 111, 108, 105, 100, 10]).length : Int) > 65536))
   (.leaf (Stop.done (SV.tuple [SV.str [], I64 2])))
   (.leaf (Stop.done (SV.tuple [SV.str (s ++ [101, 110, 100, 115, 111, 108, 105, 100, 10]), I64 0])))))
theorem ps1 (us ts : List (Int × Int × Int)) (s : List UInt8) (i : Int) : segR (Env.of Tryd.prog (sumOf [fCheckR, fVertexR])) 1000 (fnOf Tryd.prog 16) .unit (keepS 61 [1,5,6]) (loopOf Tryd.prog 16 0) ps1_p (slotsS 61 [(1, .ptr 0 0), (5, .str s), (6, I64 i)]) [some (.cells [.list v3 us, .list v3 ts])] = ps1_t us ts s i := by kernel_rfl
def ps0_p : Plan := .fork (.all) (.all)
noncomputable def ps0_t (us ts : List (Int × Int × Int)) : Tree Stop :=
   .node (chk us ts != 0)
 (.leaf (Stop.done (SV.tuple [SV.str [], I64 (chk us ts)])))
 (.leaf (Stop.at (loopOf Tryd.prog 16 0) 61 (slotsS 61 [(1, SV.ptr 0 0), (5, SV.str [115, 111, 108, 105, 100, 10]), (6, I64 0)]) [some (Box.cells [SV.list v3 us, SV.list v3 ts])]))
theorem ps0 (us ts : List (Int × Int × Int)) : segR (Env.of Tryd.prog (sumOf [fCheckR])) 1000 (fnOf Tryd.prog 16) .unit (keepS 61 [1,5,6]) (codeS Tryd.prog 16) ps0_p (startS Tryd.prog 16 [.agg [.list v3 us, .list v3 ts]]) [] = ps0_t us ts := by kernel_rfl
end Go.Proofs.YtlhkgeoahblffaaDoor
set_option linter.unusedSimpArgs false
set_option linter.unusedVariables false
set_option maxRecDepth 100000
namespace Go.Proofs.YtlhkgeoahblffaaDoor
open Go.Sx

/-! ### What it computes -/

def solidB : List UInt8 := [115, 111, 108, 105, 100, 10]
def facetB : List UInt8 := [32, 32, 102, 97, 99, 101, 116, 10]
def endfacetB : List UInt8 := [32, 32, 101, 110, 100, 102, 97, 99, 101, 116, 10]
def endsolidB : List UInt8 := [101, 110, 100, 115, 111, 108, 105, 100, 10]
def vl (v : T3) : List UInt8 := vline v.1 v.2.1 v.2.2
def triText (us : List T3) (t : T3) : List UInt8 := facetB ++ vl (nth3 us t.1) ++ vl (nth3 us t.2.1) ++ vl (nth3 us t.2.2) ++ endfacetB
def bodyText (us : List T3) : List T3 → List UInt8
  | [] => []
  | t :: l => triText us t ++ bodyText us l
def printL (us ts : List T3) : List UInt8 := solidB ++ bodyText us ts ++ endsolidB
def printT (us ts : List T3) : List UInt8 × Int := if chk us ts = 0 then (if 65536 < ((printL us ts).length : Int) then ([], 2) else (printL us ts, 0)) else ([], chk us ts)
def printS (us ts : List T3) : SV := .tuple [.str (printT us ts).1, I64 (printT us ts).2]

theorem vline_len (x y z : Int) : (vline x y z).length ≤ 77 := by
  have a := fmt_len x; have b := fmt_len y; have c := fmt_len z
  simp [vline]; omega
theorem tri_len (us : List T3) (t : T3) : (triText us t).length ≤ 250 := by
  have a := vline_len (nth3 us t.1).1 (nth3 us t.1).2.1 (nth3 us t.1).2.2
  have b := vline_len (nth3 us t.2.1).1 (nth3 us t.2.1).2.1 (nth3 us t.2.1).2.2
  have c := vline_len (nth3 us t.2.2).1 (nth3 us t.2.2).2.1 (nth3 us t.2.2).2.2
  simp [triText, vl, facetB, endfacetB]; omega
theorem bodyText_len (us : List T3) : ∀ l : List T3, (bodyText us l).length ≤ 250 * l.length
  | [] => Nat.le_refl _
  | t :: l => by
    have a := tri_len us t
    have b := bodyText_len us l
    simp only [bodyText, List.length_append, List.length_cons]; omega
theorem bodyText_append (us : List T3) : ∀ a b : List T3, bodyText us (a ++ b) = bodyText us a ++ bodyText us b
  | [], _ => rfl
  | t :: a, b => by rw [List.cons_append, bodyText, bodyText, bodyText_append us a b, List.append_assoc]
theorem take3 {l : List T3} {i : Nat} (h : i < l.length) : l.take (i + 1) = l.take i ++ [nth3 l (i : Int)] := by
  have e : nth3 l (i : Int) = l[i] := by
    show List.getD (α := T3) l i (0, 0, 0) = _
    rw [List.getD_eq_getElem?_getD, List.getElem?_eq_getElem h]; rfl
  rw [List.take_add_one, List.getElem?_eq_getElem h, e]; rfl
/-- The text of the first triangles. -/
def pre (us ts : List T3) (i : Nat) : List UInt8 := solidB ++ bodyText us (ts.take i)
theorem pre_step {us ts : List T3} {i : Nat} (h : i < ts.length) : pre us ts (i + 1) = pre us ts i ++ triText us (nth3 ts (i : Int)) := by
  unfold pre
  rw [take3 h, bodyText_append, List.append_assoc]
  simp [bodyText]
theorem pre_len {us ts : List T3} (h : ts.length ≤ 4096) (i : Nat) : (pre us ts i).length ≤ 1024006 := by
  have a := bodyText_len us (ts.take i)
  have b := List.length_take_le i ts
  have c : (ts.take i).length ≤ 4096 := by simp; omega
  simp only [pre, solidB, List.length_append, List.length_cons, List.length_nil]; omega
theorem pre_end (us ts : List T3) : pre us ts ts.length ++ endsolidB = printL us ts := by rw [pre, List.take_length]; rfl
theorem pre_le {us ts : List T3} (i : Nat) : (pre us ts i).length + 9 ≤ (printL us ts).length := by
  have : bodyText us ts = bodyText us (ts.take i) ++ bodyText us (ts.drop i) := by rw [← bodyText_append, List.take_append_drop]
  unfold pre printL
  rw [this]
  simp [endsolidB]; omega

/-! ### The program's -/

theorem kPr : Known Tryd.prog (Env.ofB Tryd.prog (sumOf [fCheck, fCorners, fFmt]) (wrOf [wCopy, wStr]) (pnOf []) (bxOf []) (rdOf [51]) (rdOf [28]) (rdOf []) (rdOf [])) :=
  hB (l := [fCheck, fCorners, fFmt]) [51] [28] [] [] ⟨o_check, o_corners, o_fmt, trivial⟩ (fun x hx => by
    rcases List.mem_cons.1 hx with rfl | hx
    · exact wCopy_ok
    · rcases List.mem_cons.1 hx with rfl | hx
      · exact wStr_ok
      · cases hx) noneOk noneOk

abbrev bxP (us ts : List T3) (t : List UInt8) : List (Option Box) := [some (.cells [.list v3 us, .list v3 ts]), some (.obj 51 [.ptr 1 0, .row 2]), some (.rows (.int .u8) (ub t))]
abbrev RP (us ts : List T3) (k : Nat) (i : Nat) (x y : SV) (t : List UInt8) : Prop := RunsR Tryd.prog (fnOf Tryd.prog 15) (printS us ts) (loopOf Tryd.prog 15 k) (slotsS 64 [(1, .ptr 0 0), (5, .ptr 1 0), (21, I64 (ts.length : Int)), (22, I64 (i : Int)), (37, x), (38, y)]) (bxP us ts t)
def nine (a b c : T3) : SV := .agg [I64 a.1, I64 a.2.1, I64 a.2.2, I64 b.1, I64 b.2.1, I64 b.2.2, I64 c.1, I64 c.2.1, I64 c.2.2]

theorem ub_app {s t : List UInt8} : ub s ++ ub t = ub (s ++ t) := (ub_append s t).symm
theorem okU_ub (s : List UInt8) : okU (ub s) = true := by unfold okU; rw [ofU_ub]; exact decide_eq_true rfl

theorem pr_in3 {us ts : List T3} {i : Nat} {a b c : T3} {t : List UInt8} (hi : i ≤ 4096) (ht : t.length ≤ 2000000) (h : RP us ts 0 (i + 1) (nine a b c) (I64 3) (t ++ endfacetB)) : RP us ts 1 i (nine a b c) (I64 3) t := by
  refine runsR_seg kPr (n := 1000) (hint := .unit) (keep := keepS 64 [1,5,21,22,37,38]) (p := pr23_p) rfl ?_
  erw [pr23 us ts (ub t) i a.1 a.2.1 a.2.2 b.1 b.2.1 b.2.2 c.1 c.2.1 c.2.2]
  unfold pr23_t
  refine ⟨decide_eq_true (by rw [ub_length]; omega), slotsS_len _ _, ?_⟩
  rw [wr1 (by omega), ub_app]
  exact h
theorem vl_len (v : T3) : (vl v).length ≤ 77 := vline_len _ _ _
theorem pr_in2 {us ts : List T3} {i : Nat} {a b c : T3} {t : List UInt8} (ht : t.length ≤ 2000000) (h : RP us ts 1 i (nine a b c) (I64 3) (t ++ vl c)) : RP us ts 1 i (nine a b c) (I64 2) t := by
  refine runsR_seg kPr (n := 1000) (hint := .unit) (keep := keepS 64 [1,5,21,22,37,38]) (p := pr22_p) rfl ?_
  erw [pr22 us ts (ub t) i a.1 a.2.1 a.2.2 b.1 b.2.1 b.2.2 c.1 c.2.1 c.2.2]
  unfold pr22_t
  have x := fmt_len c.1; have y := fmt_len c.2.1; have z := fmt_len c.2.2
  simp only [Tree.holds, decide_eq_true_eq, ub_length, List.length_append, List.length_cons, List.length_nil, true_and]
  refine ⟨by omega, by omega, by omega, by omega, by omega, by omega, by omega, slotsS_len _ _, ?_⟩
  rw [ub_app]
  exact h
theorem pr_in1 {us ts : List T3} {i : Nat} {a b c : T3} {t : List UInt8} (ht : t.length ≤ 2000000) (h : RP us ts 1 i (nine a b c) (I64 2) (t ++ vl b)) : RP us ts 1 i (nine a b c) (I64 1) t := by
  refine runsR_seg kPr (n := 1000) (hint := .unit) (keep := keepS 64 [1,5,21,22,37,38]) (p := pr21_p) rfl ?_
  erw [pr21 us ts (ub t) i a.1 a.2.1 a.2.2 b.1 b.2.1 b.2.2 c.1 c.2.1 c.2.2]
  unfold pr21_t
  have x := fmt_len b.1; have y := fmt_len b.2.1; have z := fmt_len b.2.2
  simp only [Tree.holds, decide_eq_true_eq, ub_length, List.length_append, List.length_cons, List.length_nil, true_and]
  refine ⟨by omega, by omega, by omega, by omega, by omega, by omega, by omega, slotsS_len _ _, ?_⟩
  rw [ub_app]
  exact h
theorem pr_in0 {us ts : List T3} {i : Nat} {a b c : T3} {t : List UInt8} (ht : t.length ≤ 2000000) (h : RP us ts 1 i (nine a b c) (I64 1) (t ++ vl a)) : RP us ts 1 i (nine a b c) (I64 0) t := by
  refine runsR_seg kPr (n := 1000) (hint := .unit) (keep := keepS 64 [1,5,21,22,37,38]) (p := pr20_p) rfl ?_
  erw [pr20 us ts (ub t) i a.1 a.2.1 a.2.2 b.1 b.2.1 b.2.2 c.1 c.2.1 c.2.2]
  unfold pr20_t
  have x := fmt_len a.1; have y := fmt_len a.2.1; have z := fmt_len a.2.2
  simp only [Tree.holds, decide_eq_true_eq, ub_length, List.length_append, List.length_cons, List.length_nil, true_and]
  refine ⟨by omega, by omega, by omega, by omega, by omega, by omega, by omega, slotsS_len _ _, ?_⟩
  rw [ub_app]
  exact h
/-- A triangle. -/
theorem pr_tri {us ts : List T3} {i : Nat} (hi : i < ts.length) (ht : ts.length ≤ 4096) {t : List UInt8} (hl : t.length ≤ 1500000) (h : RP us ts 0 (i + 1) (nine (nth3 us (nth3 ts (i : Int)).1) (nth3 us (nth3 ts (i : Int)).2.1) (nth3 us (nth3 ts (i : Int)).2.2)) (I64 3) (t ++ triText us (nth3 ts (i : Int)))) :
    RP us ts 1 i (nine (nth3 us (nth3 ts (i : Int)).1) (nth3 us (nth3 ts (i : Int)).2.1) (nth3 us (nth3 ts (i : Int)).2.2)) (I64 0) (t ++ facetB) := by
  have x := vl_len (nth3 us (nth3 ts (i : Int)).1); have y := vl_len (nth3 us (nth3 ts (i : Int)).2.1); have z := vl_len (nth3 us (nth3 ts (i : Int)).2.2)
  have f : facetB.length = 8 := rfl
  refine pr_in0 (by rw [List.length_append]; omega) (pr_in1 (by simp only [List.length_append]; omega) (pr_in2 (by simp only [List.length_append]; omega) (pr_in3 (by omega) (by simp only [List.length_append]; omega) ?_)))
  simpa [triText, List.append_assoc] using h

theorem pr_fin {us ts : List T3} (hc : chk us ts = 0) : (Tree.req (decide (((ub (pre us ts ts.length)).length + 9) * 1 ≤ 140737488355328)) (.node (decide (((ub (pre us ts ts.length) ++ ub endsolidB).length : Int) > 65536))
   (.leaf (Stop.done (SV.tuple [SV.str [], I64 2])))
   (.req (okU (ub (pre us ts ts.length) ++ ub endsolidB)) (.req (decide (0 < (ub (pre us ts ts.length) ++ ub endsolidB).length)) (.req (decide (((ub (pre us ts ts.length) ++ ub endsolidB).length : Int) ≤ (9223372036854775807 : Int))) (.leaf (Stop.done (SV.tuple [SV.str (ofU (ub (pre us ts ts.length) ++ ub endsolidB)), I64 0])))))))).holds fun o => match o with
      | .done v' => v' = printS us ts
      | .at items' size slots' boxes' => slots'.length = size ∧ RunsR Tryd.prog (fnOf Tryd.prog 15) (printS us ts) items' slots' boxes' := by
  have h4 : ts.length ≤ 4096 := by have := (chk0 hc).2.1; omega
  have l1 := pre_len (us := us) h4 ts.length
  rw [ub_app, pre_end, okU_ub, ofU_ub, ub_length, ub_length]
  have l2 : (printL us ts).length = (pre us ts ts.length).length + 9 := by rw [← pre_end, List.length_append]; rfl
  refine ⟨decide_eq_true (by omega), fun h => ?_, fun h => ⟨rfl, decide_eq_true (by omega), decide_eq_true (by omega), ?_⟩⟩
  · have h := of_decide_eq_true h
    show _ = printS us ts
    unfold printS printT
    rw [if_pos hc, if_pos h]
  · have h := of_decide_eq_false h
    show _ = printS us ts
    unfold printS printT
    rw [if_pos hc, if_neg h]

theorem noTri_f {us ts : List T3} (hc : chk us ts = 0) {i : Nat} (hi : i < ts.length) : noTri us ts (i : Int) = false := by
  unfold noTri; rw [hc]; simp; omega

theorem pr_loop (us ts : List T3) (hc : chk us ts = 0) : ∀ (n i : Nat), i + n = ts.length → (∀ a b c, RP us ts 0 i (nine a b c) (I64 3) (pre us ts i)) ∧ RP us ts 0 i .undef .undef (pre us ts i)
  | n, i, hi => by
    have h4 : ts.length ≤ 4096 := by have := (chk0 hc).2.1; omega
    have l1 := pre_len (us := us) h4 i
    refine ⟨fun a b c => ?_, ?_⟩
    · refine runsR_seg kPr (n := 1000) (hint := .unit) (keep := keepS 64 [1,5,21,22,37,38]) (p := pr1b_p) rfl ?_
      erw [pr1b us ts (ub (pre us ts i)) i a.1 a.2.1 a.2.2 b.1 b.2.1 b.2.2 c.1 c.2.1 c.2.2]
      unfold pr1b_t
      match n, hi with
      | 0, hi =>
        have hi : i = ts.length := hi
        subst hi
        exact ⟨fun h => absurd (of_decide_eq_true h) (by omega), fun _ => pr_fin hc⟩
      | n + 1, hi =>
        have hl : i < ts.length := by omega
        refine ⟨fun _ => ⟨fun h => absurd h (by rw [noTri_f hc hl]; simp), fun _ => ⟨decide_eq_true (by rw [ub_length]; omega), slotsS_len _ _, ?_⟩⟩, fun h => absurd (of_decide_eq_false h) (by omega)⟩
        rw [ub_app]
        exact pr_tri hl h4 (by omega) (by rw [← pre_step hl]; exact (pr_loop us ts hc n (i + 1) (by omega)).1 _ _ _)
    · refine runsR_seg kPr (n := 1000) (hint := .unit) (keep := keepS 64 [1,5,21,22,37,38]) (p := pr1_p) rfl ?_
      erw [pr1 us ts (ub (pre us ts i)) i]
      unfold pr1_t
      match n, hi with
      | 0, hi =>
        have hi : i = ts.length := hi
        subst hi
        exact ⟨fun h => absurd (of_decide_eq_true h) (by omega), fun _ => pr_fin hc⟩
      | n + 1, hi =>
        have hl : i < ts.length := by omega
        refine ⟨fun _ => ⟨fun h => absurd h (by rw [noTri_f hc hl]; simp), fun _ => ⟨decide_eq_true (by rw [ub_length]; omega), slotsS_len _ _, ?_⟩⟩, fun h => absurd (of_decide_eq_false h) (by omega)⟩
        rw [ub_app]
        exact pr_tri hl h4 (by omega) (by rw [← pre_step hl]; exact (pr_loop us ts hc n (i + 1) (by omega)).1 _ _ _)

theorem s_print (us ts : List T3) : SCall Tryd.prog 15 [.agg [.list v3 us, .list v3 ts]] (printS us ts) := by
  refine scallR_loops rfl rfl (by kernel_rfl) (runsR_seg kPr (n := 1000) (hint := .unit) (keep := keepS 64 [1,5,21,22,37,38]) (p := pr0_p) (boxes := []) rfl ?_)
  have e := pr0 us ts
  unfold startS codeS at e
  erw [e]
  unfold pr0_t
  refine ⟨fun h => ?_, fun h => ⟨rfl, slotsS_len _ _, ?_⟩⟩
  · have h : ¬ chk us ts = 0 := by simpa using h
    show _ = printS us ts
    unfold printS printT
    rw [if_neg h]
  · have h : chk us ts = 0 := by simpa using h
    exact (pr_loop us ts h ts.length 0 (by omega)).2
def fPrint : Fact := factM 15 fun us ts => .leaf (printS us ts)
theorem o_print : fPrint.ok Tryd.prog := factM_ok s_print

/-! ### The reference's -/

theorem kPR : Known Tryd.prog (Env.of Tryd.prog (sumOf [fCheckR, fVertexR])) := hK (l := [fCheckR, fVertexR]) ⟨o_checkR, o_vertexR, trivial⟩
theorem ps_loop (us ts : List T3) (hc : chk us ts = 0) : ∀ (n i : Nat), i + n = ts.length → RunsR Tryd.prog (fnOf Tryd.prog 16) (printS us ts) (loopOf Tryd.prog 16 0) (slotsS 61 [(1, .ptr 0 0), (5, .str (pre us ts i)), (6, I64 (i : Int))]) [some (.cells [.list v3 us, .list v3 ts])]
  | n, i, hi => by
    have h4 : ts.length ≤ 4096 := by have := (chk0 hc).2.1; omega
    have l1 := pre_len (us := us) h4 i
    refine runsR_seg kPR (n := 1000) (hint := .unit) (keep := keepS 61 [1,5,6]) (p := ps1_p) rfl ?_
    erw [ps1 us ts (pre us ts i) i]
    unfold ps1_t
    match n, hi with
    | 0, hi =>
      have hi : i = ts.length := hi
      subst hi
      refine ⟨fun h => absurd (of_decide_eq_true h) (by omega), fun _ => ⟨decide_eq_true (by omega), fun h => ?_, fun h => ?_⟩⟩
      · have h := of_decide_eq_true h
        have h : 65536 < ((printL us ts).length : Int) := by rw [← pre_end]; exact h
        show _ = printS us ts
        unfold printS printT
        rw [if_pos hc, if_pos h]
      · have h := of_decide_eq_false h
        have h : ¬ 65536 < ((printL us ts).length : Int) := by rw [← pre_end]; exact h
        show _ = printS us ts
        unfold printS printT
        rw [if_pos hc, if_neg h, ← pre_end]; rfl
    | n + 1, hi =>
      have hl : i < ts.length := by omega
      obtain ⟨q1, q2, q3⟩ := chk0_tri hc (i := (i : Int)) (by omega) (by omega)
      have x := vl_len (nth3 us (nth3 ts (i : Int)).1); have y := vl_len (nth3 us (nth3 ts (i : Int)).2.1); have z := vl_len (nth3 us (nth3 ts (i : Int)).2.2)
      have hp := pre_step (us := us) hl
      have l2 := pre_le (us := us) (ts := ts) (i + 1)
      have f : facetB.length = 8 := rfl
      have f2 : endfacetB.length = 11 := rfl
      unfold vl at x y z
      simp only [Tree.holds, decide_eq_true_eq, decide_eq_false_iff_not, List.length_append, List.length_cons, List.length_nil, Bool.and_eq_true]
      refine ⟨fun _ => ⟨by omega, by omega, by omega, by omega, by omega, by omega, by omega, by omega, by omega, fun h => ?_, fun h => ⟨slotsS_len _ _, ?_⟩⟩, fun h => absurd h (by omega)⟩
      · have h : 65536 < ((printL us ts).length : Int) := by
          rw [hp] at l2
          simp only [triText, vl, List.length_append, f, f2] at l2
          omega
        unfold printS printT
        rw [if_pos hc, if_pos h]
      · rw [wr1 (by omega)]
        have := ps_loop us ts hc n (i + 1) (by omega)
        rw [hp] at this
        exact this
theorem s_printR (us ts : List T3) : SCall Tryd.prog 16 [.agg [.list v3 us, .list v3 ts]] (printS us ts) := by
  have kC : Known Tryd.prog (Env.of Tryd.prog (sumOf [fCheckR])) := hK (l := [fCheckR]) ⟨o_checkR, trivial⟩
  refine scallR_loops rfl rfl (by kernel_rfl) (runsR_seg kC (n := 1000) (hint := .unit) (keep := keepS 61 [1,5,6]) (p := ps0_p) (boxes := []) rfl ?_)
  have e := ps0 us ts
  unfold startS codeS at e
  erw [e]
  unfold ps0_t
  refine ⟨fun h => ?_, fun h => ⟨slotsS_len _ _, ?_⟩⟩
  · have h : ¬ chk us ts = 0 := by simpa using h
    show _ = printS us ts
    unfold printS printT
    rw [if_neg h]
  · have h : chk us ts = 0 := by simpa using h
    exact ps_loop us ts h ts.length 0 (by omega)
def fPrintR : Fact := factM 16 fun us ts => .leaf (printS us ts)
theorem o_printR : fPrintR.ok Tryd.prog := factM_ok s_printR
end Go.Proofs.YtlhkgeoahblffaaDoor
set_option linter.unusedSimpArgs false
set_option linter.unusedVariables false
set_option maxRecDepth 100000
namespace Go.Proofs.YtlhkgeoahblffaaDoor
open Go.Sx

/-! ### Blank lines -/

theorem wsplit_nil : ∀ (l cur : List UInt8), wsplit cur l = [] ↔ cur = [] ∧ ∀ b ∈ l, blank b = true
  | [], cur => by
    unfold wsplit
    split
    · rename_i h; subst h; exact ⟨fun _ => ⟨rfl, fun b hb => by cases hb⟩, fun _ => rfl⟩
    · rename_i h; exact ⟨fun h1 => (by cases h1), fun h1 => absurd h1.1 h⟩
  | b :: t, cur => by
    unfold wsplit
    split
    · rename_i hb
      split
      · rename_i h
        rw [wsplit_nil t []]
        exact ⟨fun h1 => ⟨h, fun x hx => by rcases List.mem_cons.1 hx with rfl | hx; exact hb; exact h1.2 x hx⟩, fun h1 => ⟨rfl, fun x hx => h1.2 x (List.mem_cons_of_mem _ hx)⟩⟩
      · rename_i h
        exact ⟨fun h1 => (by cases h1), fun h1 => absurd h1.1 h⟩
    · rename_i hb
      rw [wsplit_nil t (cur ++ [b])]
      exact ⟨fun h1 => by simp at h1, fun h1 => absurd (h1.2 b List.mem_cons_self) hb⟩
theorem flds_nil {l : List UInt8} : (flds l).length = 0 ↔ ∀ b ∈ l, blank b = true := by
  rw [flds_eq, List.length_eq_zero_iff, wsplit_nil]
  exact ⟨fun h => h.2, fun h => ⟨rfl, h⟩⟩
theorem blank_in (b : UInt8) : ([32, 9] : List UInt8).contains b = blank b := by
  simp only [blank, List.contains_cons, List.contains_nil, Bool.or_false]
theorem trimS_nil {l : List UInt8} : Lib.trimS l [32, 9] = [] ↔ ∀ b ∈ l, blank b = true := by
  unfold Lib.trimS Lib.trimLeftS Lib.trimRightS
  have e : (fun x => ([32, 9] : List UInt8).contains x) = blank := funext blank_in
  rw [e]
  have dw : ∀ m : List UInt8, m.dropWhile blank = [] ↔ ∀ b ∈ m, blank b = true := fun m => by
    induction m with
    | nil => simp
    | cons a m ih =>
      rw [List.dropWhile_cons]
      split
      · rename_i ha
        rw [ih]
        exact ⟨fun h x hx => by rcases List.mem_cons.1 hx with rfl | hx; exact ha; exact h x hx, fun h x hx => h x (List.mem_cons_of_mem _ hx)⟩
      · rename_i ha
        exact ⟨fun h => (by cases h), fun h => absurd (h a List.mem_cons_self) ha⟩
  rw [dw]
  constructor
  · intro h b hb
    have h2 : ∀ x ∈ l.reverse.dropWhile blank, blank x = true := fun x hx => h x (List.mem_reverse.2 hx)
    have h3 : l.reverse.dropWhile blank = [] := by
      cases hm : l.reverse.dropWhile blank with
      | nil => rfl
      | cons a m =>
        have h4 := List.head_dropWhile_not blank (l := l.reverse) (by rw [hm]; simp)
        have h5 : (l.reverse.dropWhile blank).head (by rw [hm]; simp) ∈ l.reverse.dropWhile blank := List.head_mem _
        rw [h2 _ h5] at h4; cases h4
    exact (dw _).1 h3 b (List.mem_reverse.2 hb)
  · intro h b hb
    exact h b (List.mem_reverse.1 ((List.dropWhile_sublist blank).subset (List.mem_reverse.1 hb)))

/-! ### Line after line -/

theorem wr64_id {k : Int} (h0 : 0 ≤ k) (h : k ≤ 300000) : wr64 k = k := by unfold wr64; rw [i64_def]; split <;> omega
theorem rL_next (t : Nat) (us ts : List T3) : ∀ (n : Nat) (s : List UInt8) (k : Int), s.length < n → 0 ≤ k → k + s.length ≤ 200000 →
    (rL (lns s) k t us ts = match (nx n s k).1 with
      | none => if t = 6 then .ok us ts else .err (nx n s k).2.2 6
      | some w => match rstep t us ts w with
        | .err e => .err (nx n s k).2.2 e
        | .ok t' us' ts' => rL (lns (nx n s k).2.1) (nx n s k).2.2 t' us' ts') ∧ 0 ≤ (nx n s k).2.2 ∧ (nx n s k).2.2 + (nx n s k).2.1.length ≤ 200000
  | 0, s, k, h, _, _ => absurd h (Nat.not_lt_zero _)
  | n + 1, s, k, h, h0, hk => by
    unfold nx
    by_cases hs : s = []
    · rw [if_pos hs]; subst hs; rw [lns_nil, rL]; exact ⟨rfl, h0, hk⟩
    · rw [if_neg hs, lns_cons hs, rL]
      have hc := cut_len s hs
      have hl : 0 < s.length := List.length_pos_iff.2 hs
      rw [wr64_id (by omega) (by omega)]
      by_cases hf : 0 < (flds (lineOf s)).length
      · rw [if_pos hf, if_neg (by omega)]
        exact ⟨rfl, by show 0 ≤ k + 1; omega, by show (k + 1) + ((restOf s).length : Int) ≤ _; omega⟩
      · rw [if_neg hf, if_pos (by omega)]
        exact rL_next t us ts n (restOf s) (k + 1) (by omega) (by omega) (by omega)
theorem rL_nx (t : Nat) (us ts : List T3) (s : List UInt8) (k : Int) (h0 : 0 ≤ k) (hk : k + s.length ≤ 200000) :
    rL (lns s) k t us ts = if nOk s k = true then (match rstep t us ts (nWords s k) with
        | .err e => .err (nLine s k) e
        | .ok t' us' ts' => rL (lns (nRest s k)) (nLine s k) t' us' ts')
      else if t = 6 then .ok us ts else .err (nLine s k) 6 := by
  rw [(rL_next t us ts (s.length + 1) s k (Nat.lt_succ_self _) h0 hk).1]
  unfold nOk nWords nLine nRest nxt
  cases (nx (s.length + 1) s k).1 <;> rfl
theorem n_bound {s : List UInt8} {k : Int} (h0 : 0 ≤ k) (hk : k + s.length ≤ 200000) : 0 ≤ nLine s k ∧ nLine s k + (nRest s k).length ≤ 200000 :=
  (rL_next 0 [] [] (s.length + 1) s k (Nat.lt_succ_self _) h0 hk).2

theorem rL_end_en (us ts : List T3) : ∀ (n : Nat) (s : List UInt8) (k : Int), s.length < n → 0 ≤ k → k + s.length ≤ 200000 → rL (lns s) k 6 us ts = if (en n s k).1 = true then .ok us ts else .err (en n s k).2.2 5
  | 0, s, k, h, _, _ => absurd h (Nat.not_lt_zero _)
  | n + 1, s, k, h, h0, hk => by
    unfold en
    by_cases hs : s = []
    · rw [if_pos hs]; subst hs; rw [lns_nil, rL]; rfl
    · rw [if_neg hs, lns_cons hs, rL]
      have hc := cut_len s hs
      have hl : 0 < s.length := List.length_pos_iff.2 hs
      rw [wr64_id (by omega) (by omega)]
      by_cases hf : Lib.trimS (lineOf s) [32, 9] = []
      · rw [if_pos hf, if_pos (flds_nil.2 (trimS_nil.1 hf))]
        exact rL_end_en us ts n (restOf s) (k + 1) (by omega) (by omega) (by omega)
      · rw [if_neg hf, if_neg (fun hc => hf (trimS_nil.2 (flds_nil.1 hc)))]
        rfl
theorem rL_en (us ts : List T3) {s : List UInt8} {k : Int} (h0 : 0 ≤ k) (hk : k + s.length ≤ 200000) : rL (lns s) k 6 us ts = if eOk s k = true then .ok us ts else .err (eLine s k) 5 :=
  rL_end_en us ts (s.length + 1) s k (Nat.lt_succ_self _) h0 hk

/-! ### Vertices -/

theorem cErr_pos {w : List (List UInt8)} (h : w.length = 1) : ¬ cErr w = 0 := fun hc => by have := (cErr_zero.1 hc).1; omega
theorem rL_v (t : Nat) (ht : t = 2 ∨ t = 3 ∨ t = 4) (us ts : List T3) {s : List UInt8} {k : Int} (h0 : 0 ≤ k) (hk : k + s.length ≤ 200000) :
    rL (lns s) k t us ts = if vErr s k = 0 then rL (lns (nRest s k)) (nLine s k) (t + 1) (us ++ [cTri (nWords s k)]) ts else .err (nLine s k) (vErr s k) := by
  rw [rL_nx t us ts s k h0 hk]
  unfold vErr
  by_cases h1 : nOk s k = true
  · rw [if_pos h1, if_pos h1]
    have e : rstep t us ts (nWords s k) = if cErr (nWords s k) = 0 then .ok (t + 1) (us ++ [cTri (nWords s k)]) ts else .err (cErr (nWords s k)) := by
      rcases ht with rfl | rfl | rfl <;> rfl
    rw [e]
    by_cases h2 : cErr (nWords s k) = 0
    · rw [if_pos h2, if_pos h2]
    · rw [if_neg h2, if_neg h2]
  · rw [if_neg h1, if_neg h1, if_neg (by omega), if_neg (by omega)]
theorem rL_pV (ts : List T3) : ∀ (j : Nat) (s : List UInt8) (k : Int) (us : List T3), j ≤ 3 → 0 ≤ k → k + s.length ≤ 200000 → (rL (lns s) k (5 - j) us ts = match pV j s k us with
    | .err a b => .err a b
    | .ok s2 k2 us2 => rL (lns s2) k2 5 us2 ts) ∧ ∀ s2 k2 us2, pV j s k us = .ok s2 k2 us2 → 0 ≤ k2 ∧ k2 + s2.length ≤ 200000 ∧ us2.length = us.length + j ∧ s2.length + j ≤ s.length
  | 0, s, k, us, _, h0, hk => ⟨rfl, fun s2 k2 us2 h => by
    injection h with e1 e2 e3
    subst e1 e2 e3
    exact ⟨h0, hk, rfl, Nat.le_refl _⟩⟩
  | j + 1, s, k, us, hj, h0, hk => by
    obtain ⟨b1, b2⟩ := n_bound h0 hk
    rw [rL_v (5 - (j + 1)) (by omega) us ts h0 hk]
    unfold pV
    by_cases hv : vErr s k = 0
    · rw [if_pos hv, if_pos hv, show 5 - (j + 1) + 1 = 5 - j by omega]
      obtain ⟨e1, e2⟩ := rL_pV ts j (nRest s k) (nLine s k) (us ++ [cTri (nWords s k)]) (by omega) b1 b2
      refine ⟨e1, fun s2 k2 us2 h => ?_⟩
      obtain ⟨g1, g2, g3, g4⟩ := e2 s2 k2 us2 h
      have := nRest_lt (vErr_nOk hv)
      exact ⟨g1, g2, by rw [g3]; simp; omega, by omega⟩
    · rw [if_neg hv, if_neg hv]
      exact ⟨rfl, fun s2 k2 us2 h => by cases h⟩

/-! ### Facets -/

theorem tri_triE {us us2 : List T3} (h : us2.length = us.length + 3) (hl : us2.length ≤ 200000) : triE us2 = tri (us.length : Int) := by
  have e1 : (us2.length : Int) - 3 = us.length := by omega
  have e2 : (us2.length : Int) - 2 = us.length + 1 := by omega
  have e3 : (us2.length : Int) - 1 = us.length + 2 := by omega
  unfold triE tri
  rw [e1, e2, e3]
  have := wr64_id (k := (us.length : Int)) (by omega) (by omega)
  unfold wr64 at this
  rw [this]

theorem rL_pF : ∀ (n : Nat) (s : List UInt8) (k : Int) (us ts : List T3), s.length < n → 0 ≤ k → k + s.length ≤ 200000 → us.length + s.length ≤ 150000 → rL (lns s) k 1 us ts = pF n s k us ts
  | 0, s, k, us, ts, h, _, _, _ => absurd h (Nat.not_lt_zero _)
  | n + 1, s, k, us, ts, h, h0, hk, hu => by
    obtain ⟨b1, b2⟩ := n_bound h0 hk
    rw [rL_nx 1 us ts s k h0 hk]
    unfold pF wOk wErr
    by_cases h1 : nOk s k = true
    · have hlt := nRest_lt h1
      rw [if_pos h1, if_pos h1, h1, Bool.true_and, rstep1]
      unfold isW wHit
      by_cases hl : (nWords s k).length = 1
      · rw [beq_iff_eq.2 hl]
        simp only [Bool.true_and, beq_iff_eq]
        by_cases hf : nthW (nWords s k) 0 = facetW
        · have ec : [facetW, endsolidW].contains (nthW (nWords s k) 0) = true := by rw [hf]; rfl
          rw [if_pos hf, if_pos ec, if_pos hf]
          obtain ⟨e1, e2⟩ := rL_pV ts 3 (nRest s k) (nLine s k) us (Nat.le_refl _) b1 b2
          dsimp only
          refine e1.trans ?_
          cases hp : pV 3 (nRest s k) (nLine s k) us with
          | err a b => rfl
          | ok s2 k2 us2 =>
            obtain ⟨g1, g2, g3, g4⟩ := e2 s2 k2 us2 hp
            obtain ⟨c1, c2⟩ := n_bound g1 g2
            dsimp only
            rw [rL_nx 5 us2 ts s2 k2 g1 g2]
            by_cases h3 : nOk s2 k2 = true
            · rw [if_pos h3, if_pos h3, h3, Bool.true_and, rstep5]
              have ew : ((nWords s2 k2).length == 1 && [endfacetW].contains (nthW (nWords s2 k2) 0)) = isW (nWords s2 k2) endfacetW := by
                unfold isW
                rw [show [endfacetW].contains (nthW (nWords s2 k2) 0) = (nthW (nWords s2 k2) 0 == endfacetW) by simp only [List.contains_cons, List.contains_nil, Bool.or_false]]
              rw [ew]
              by_cases h4 : isW (nWords s2 k2) endfacetW = true
              · rw [if_pos h4, if_pos h4, tri_triE g3 (by omega)]
                have := nRest_lt h3
                exact rL_pF n (nRest s2 k2) (nLine s2 k2) us2 _ (by omega) c1 c2 (by omega)
              · rw [if_neg h4, if_neg h4]
            · have h3' : nOk s2 k2 = false := by simpa using h3
              rw [if_neg h3, if_neg (by omega), h3']
              rfl
        · rw [if_neg hf]
          by_cases hg : nthW (nWords s k) 0 = endsolidW
          · have ec : [facetW, endsolidW].contains (nthW (nWords s k) 0) = true := by rw [hg]; rfl
            rw [if_pos hg, if_pos ec, if_neg hf]
            exact rL_en us ts b1 b2
          · have ec : ¬ [facetW, endsolidW].contains (nthW (nWords s k) 0) = true := by
              simp only [List.contains_cons, List.contains_nil, Bool.or_false, Bool.or_eq_true, beq_iff_eq]
              rintro (h | h)
              · exact hf h
              · exact hg h
            rw [if_neg hg, if_neg ec]
      · rw [beq_eq_false_iff_ne.2 hl]
        simp
    · have h1' : nOk s k = false := by simpa using h1
      rw [if_neg h1, if_neg (by omega), h1']
      rfl

theorem pP_eq (s : List UInt8) (hs : small s = true) : pP s = rL (lns s) 0 0 [] [] := by
  have hl := small_iff.1 hs
  obtain ⟨b1, b2⟩ := n_bound (s := s) (k := 0) (by omega) (by omega)
  rw [rL_nx 0 [] [] s 0 (by omega) (by omega)]
  unfold pP wOk wErr
  by_cases h1 : nOk s 0 = true
  · have hlt := nRest_lt h1
    rw [if_pos h1, if_pos h1, h1, Bool.true_and, rstep0]
    have ew : wHit (nWords s 0) [solidW] = isW (nWords s 0) solidW := by
      unfold wHit isW
      rw [show [solidW].contains (nthW (nWords s 0) 0) = (nthW (nWords s 0) 0 == solidW) by simp only [List.contains_cons, List.contains_nil, Bool.or_false]]
    rw [ew]
    by_cases h4 : isW (nWords s 0) solidW = true
    · rw [if_pos h4, if_pos h4]
      exact (rL_pF (s.length + 1) (nRest s 0) (nLine s 0) [] [] (by omega) b1 b2 (by simp; omega)).symm
    · rw [if_neg h4, if_neg h4]
  · have h1' : nOk s 0 = false := by simpa using h1
    rw [if_neg h1, if_neg (show ¬ (0 : Nat) = 6 by decide), h1']
    rfl
theorem parseT_eq (s : List UInt8) : parseT s = refT s := by
  unfold parseT refT
  by_cases h : (s.length : Int) > 65536
  · rw [if_pos h, if_pos h]
  · rw [if_neg h, if_neg h, pP_eq s (small_iff.2 (by omega))]
end Go.Proofs.YtlhkgeoahblffaaDoor
set_option linter.unusedSimpArgs false
set_option linter.unusedVariables false
set_option maxRecDepth 100000
namespace Go.Proofs.YtlhkgeoahblffaaDoor
open Go.Sx

/-! ### Words -/

theorem fmt_chars (n : Int) : ∀ x ∈ fmt n, x ≠ 32 ∧ x ≠ 9 ∧ x ≠ 10 := fun x hx => by
  obtain ⟨d, hd, rfl⟩ := List.mem_map.1 hx
  have hb := backs_bytes n d (List.mem_reverse.1 hd)
  refine ⟨fun e => ?_, fun e => ?_, fun e => ?_⟩
  all_goals
    have h1 := congrArg UInt8.toNat e
    simp only [UInt8.toNat_ofNat'] at h1
  · have : (32 : UInt8).toNat = 32 := rfl
    omega
  · have : (9 : UInt8).toNat = 9 := rfl
    omega
  · have : (10 : UInt8).toNat = 10 := rfl
    omega
theorem fmt_ne (n : Int) : fmt n ≠ [] := fun h => by
  have h2 : (fmt n).length = (backs n).length := by simp [fmt, toB]
  have := (backs_len n).2
  rw [h] at h2
  simp at h2; omega
theorem blank_false {b : UInt8} (h : b ≠ 32) (h2 : b ≠ 9) : blank b = false := by
  unfold blank; rw [beq_eq_false_iff_ne.2 h, beq_eq_false_iff_ne.2 h2]; rfl
theorem wsplit_on : ∀ (w cur t : List UInt8), (∀ b ∈ w, blank b = false) → wsplit cur (w ++ t) = wsplit (cur ++ w) t
  | [], cur, t, _ => by simp
  | b :: w, cur, t, h => by
    rw [List.cons_append, wsplit, if_neg (by rw [h b List.mem_cons_self]; simp), wsplit_on w (cur ++ [b]) t (fun x hx => h x (List.mem_cons_of_mem _ hx))]
    simp
theorem wsplit_sp {cur t : List UInt8} (h : cur ≠ []) : wsplit cur (32 :: t) = cur :: wsplit [] t := by
  rw [wsplit, if_pos (by decide), if_neg h]
theorem wsplit_sp0 {t : List UInt8} : wsplit [] (32 :: t) = wsplit [] t := by
  rw [wsplit, if_pos (by decide), if_pos rfl]
theorem wsplit_word {w : List UInt8} (hw : w ≠ []) (h : ∀ b ∈ w, blank b = false) (t : List UInt8) : wsplit [] (w ++ 32 :: t) = w :: wsplit [] t := by
  rw [wsplit_on w [] _ h, List.nil_append, wsplit_sp hw]
theorem wsplit_last {w : List UInt8} (hw : w ≠ []) (h : ∀ b ∈ w, blank b = false) : wsplit [] w = [w] := by
  have := wsplit_on w [] [] h
  rw [List.append_nil, List.nil_append] at this
  rw [this, wsplit, if_neg hw]
theorem fmt_blank (n : Int) : ∀ b ∈ fmt n, blank b = false := fun b hb => blank_false (fmt_chars n b hb).1 (fmt_chars n b hb).2.1

/-- A vertex's line, without its end. -/
def vln (v : T3) : List UInt8 := [32, 32, 32, 32] ++ (vertexB ++ 32 :: (fmt v.1 ++ 32 :: (fmt v.2.1 ++ 32 :: fmt v.2.2)))
theorem vl_eq (v : T3) : vl v = vln v ++ [10] := by
  simp [vl, vline, vln, vertexB]
theorem flds_vln (v : T3) : flds (vln v) = [vertexB, fmt v.1, fmt v.2.1, fmt v.2.2] := by
  rw [flds_eq]
  unfold vln
  have e : ∀ t : List UInt8, [32, 32, 32, 32] ++ t = 32 :: 32 :: 32 :: 32 :: t := fun _ => rfl
  rw [e, wsplit_sp0, wsplit_sp0, wsplit_sp0, wsplit_sp0, wsplit_word (by decide) (by decide), wsplit_word (fmt_ne _) (fmt_blank _), wsplit_word (fmt_ne _) (fmt_blank _), wsplit_last (fmt_ne _) (fmt_blank _)]
theorem vln_10 (v : T3) : (10 : UInt8) ∉ vln v := by
  unfold vln
  simp only [List.mem_append, List.mem_cons, List.not_mem_nil, not_or]
  have a := fun n (h : (10 : UInt8) ∈ fmt n) => (fmt_chars n 10 h).2.2 rfl
  exact ⟨by decide, by decide, by decide, a _, by decide, a _, by decide, a _⟩

/-! ### Lines -/

theorem lns_line {a b : List UInt8} (h : (10 : UInt8) ∉ a) : lns (a ++ 10 :: b) = a :: lns b := by
  obtain ⟨e1, e2⟩ := cut_hit (b := b) h
  rw [lns_cons (by simp), e1, e2]
theorem lns_line' {a b c : List UInt8} (h : (10 : UInt8) ∉ a) (hc : c = a ++ [10]) : lns (c ++ b) = a :: lns b := by
  subst hc
  rw [List.append_assoc]
  exact lns_line h

/-! ### The vertices and triangles -/

def vs3 (us : List T3) (t : T3) : List T3 := [nth3 us t.1, nth3 us t.2.1, nth3 us t.2.2]
def vsOf (us : List T3) : List T3 → List T3
  | [] => []
  | t :: l => vs3 us t ++ vsOf us l
def tsOf : Nat → Nat → List T3
  | _, 0 => []
  | i, n + 1 => tri ((i : Nat) : Int) :: tsOf (i + 3) n
theorem vsOf_len (us : List T3) : ∀ l : List T3, (vsOf us l).length = 3 * l.length
  | [] => rfl
  | t :: l => by rw [vsOf, List.length_append, vsOf_len us l]; simp [vs3]; omega
theorem tsOf_len : ∀ i n : Nat, (tsOf i n).length = n
  | _, 0 => rfl
  | i, n + 1 => by rw [tsOf, List.length_cons, tsOf_len]

theorem cErr_vln {v : T3} (h : inR v = true) : cErr (flds (vln v)) = 0 ∧ cTri (flds (vln v)) = v := by
  obtain ⟨x, y, z⟩ := v
  simp only [inR, Bool.and_eq_true, decide_eq_true_eq] at h
  rw [flds_vln]
  have p1 : parseV (fmt x) = (x, 0) := parse_fmt (by omega) (by omega)
  have p2 : parseV (fmt y) = (y, 0) := parse_fmt (by omega) (by omega)
  have p3 : parseV (fmt z) = (z, 0) := parse_fmt (by omega) (by omega)
  have n1 : nthW [vertexB, fmt x, fmt y, fmt z] 1 = fmt x := rfl
  have n2 : nthW [vertexB, fmt x, fmt y, fmt z] 2 = fmt y := rfl
  have n3 : nthW [vertexB, fmt x, fmt y, fmt z] 3 = fmt z := rfl
  have b : ∀ m : Int, -65536 ≤ m → m ≤ 65536 → badN (m, 0) = false := fun m h1 h2 => by
    simp [badN]; omega
  refine ⟨cErr_zero.2 ⟨rfl, rfl, ?_, ?_, ?_, ?_, ?_, ?_⟩, ?_⟩
  · rw [n1, p1]; simp
  · rw [n2, p2]; simp
  · rw [n3, p3]; simp
  · rw [n1, p1]; exact b x (by omega) (by omega)
  · rw [n2, p2]; exact b y (by omega) (by omega)
  · rw [n3, p3]; exact b z (by omega) (by omega)
  · unfold cTri
    rw [n1, n2, n3, p1, p2, p3]

theorem rL_vln {v : T3} (h : inR v = true) {l : List UInt8} {k : Int} {t : Nat} (ht : t = 2 ∨ t = 3 ∨ t = 4) {us ts : List T3} : rL (lns (vl v ++ l)) k t us ts = rL (lns l) (k + 1) (t + 1) (us ++ [v]) ts := by
  rw [lns_line' (vln_10 v) (vl_eq v), rL]
  obtain ⟨e1, e2⟩ := cErr_vln h
  have hl : (flds (vln v)).length = 4 := (cErr_zero.1 e1).1
  rw [if_neg (by omega)]
  have e : rstep t us ts (flds (vln v)) = .ok (t + 1) (us ++ [v]) ts := by
    rcases ht with rfl | rfl | rfl
    · rw [rstep2, if_pos e1, e2]
    · rw [rstep3, if_pos e1, e2]
    · rw [rstep4, if_pos e1, e2]
  rw [e]

theorem flds_facet : flds [32, 32, 102, 97, 99, 101, 116] = [facetW] := by
  rw [flds_eq, wsplit_sp0, wsplit_sp0, wsplit_last (by decide) (by decide)]
theorem flds_endfacet : flds [32, 32, 101, 110, 100, 102, 97, 99, 101, 116] = [endfacetW] := by
  rw [flds_eq, wsplit_sp0, wsplit_sp0, wsplit_last (by decide) (by decide)]
theorem flds_solid : flds [115, 111, 108, 105, 100] = [solidW] := by
  rw [flds_eq, wsplit_last (by decide) (by decide)]
theorem flds_endsolid : flds [101, 110, 100, 115, 111, 108, 105, 100] = [endsolidW] := by
  rw [flds_eq, wsplit_last (by decide) (by decide)]

theorem rL_tri {us ts : List T3} {n : Nat} {t : T3} (ht : okT n t = true) (hn : us.length = n) (hv : us.all inR = true) {l : List UInt8} {k : Int} {vs : List T3} (hl : vs.length ≤ 100000) :
    rL (lns (triText us t ++ l)) k 1 vs ts = rL (lns l) (k + 5) 1 (vs ++ vs3 us t) (ts ++ [tri (vs.length : Int)]) := by
  subst hn
  obtain ⟨⟨a1, a2⟩, ⟨b1, b2⟩, c1, c2⟩ := okT_iff.1 ht
  have hv := List.all_eq_true.1 hv
  unfold triText
  rw [List.append_assoc, List.append_assoc, List.append_assoc, List.append_assoc, lns_line' (a := [32, 32, 102, 97, 99, 101, 116]) (c := facetB) (by decide) rfl, rL, flds_facet]
  rw [if_neg (by decide)]
  have e : rstep 1 vs ts [facetW] = .ok 2 vs ts := by rw [rstep1, if_pos (by decide)]
  rw [e]
  dsimp only
  rw [rL_vln (hv _ (nth3_mem a1 a2)) (.inl rfl), rL_vln (hv _ (nth3_mem b1 b2)) (.inr (.inl rfl)), rL_vln (hv _ (nth3_mem c1 c2)) (.inr (.inr rfl)), lns_line' (a := [32, 32, 101, 110, 100, 102, 97, 99, 101, 116]) (c := endfacetB) (by decide) rfl, rL, flds_endfacet]
  rw [if_neg (by decide)]
  have e5 : ∀ (us : List T3), rstep 5 us ts [endfacetW] = .ok 1 us (ts ++ [triE us]) := fun us => by rw [rstep5, if_pos (by decide)]
  rw [e5]
  dsimp only
  have e6 : vs ++ [nth3 us t.1] ++ [nth3 us t.2.1] ++ [nth3 us t.2.2] = vs ++ vs3 us t := by simp [vs3]
  rw [e6, tri_triE (us := vs) (by simp [vs3]) (by simp [vs3]; omega)]
  congr 1
  omega

theorem rL_body {us : List T3} {n : Nat} (hn : us.length = n) (hv : us.all inR = true) : ∀ (l : List T3) (rest : List UInt8) (k : Int) (vs ts : List T3), l.all (okT n) = true → vs.length + 3 * l.length ≤ 100000 →
    ∃ k', rL (lns (bodyText us l ++ rest)) k 1 vs ts = rL (lns rest) k' 1 (vs ++ vsOf us l) (ts ++ tsOf vs.length l.length)
  | [], rest, k, vs, ts, _, _ => ⟨k, by simp [bodyText, vsOf, tsOf]⟩
  | t :: l, rest, k, vs, ts, hl, hb => by
    rw [List.all_cons, Bool.and_eq_true] at hl
    rw [List.length_cons] at hb
    rw [bodyText, List.append_assoc, rL_tri hl.1 hn hv (by omega)]
    obtain ⟨k', e⟩ := rL_body hn hv l rest (k + 5) (vs ++ vs3 us t) (ts ++ [tri (vs.length : Int)]) hl.2 (by simp [vs3]; omega)
    refine ⟨k', e.trans ?_⟩
    rw [vsOf, List.length_cons, tsOf]
    simp [vs3]

/-- What Print has written is read again: the vertices of each triangle, one behind the other. -/
theorem rL_print {us ts : List T3} (hc : chk us ts = 0) : rL (lns (printL us ts)) 0 0 [] [] = .ok (vsOf us ts) (tsOf 0 ts.length) := by
  obtain ⟨h1, h2, h3, h4⟩ := chk0 hc
  unfold printL
  rw [List.append_assoc, lns_line' (a := [115, 111, 108, 105, 100]) (c := solidB) (by decide) rfl, rL, flds_solid]
  rw [if_neg (by decide)]
  have e : rstep 0 [] [] [solidW] = .ok 1 [] [] := by rw [rstep0, if_pos (by decide)]
  rw [e]
  dsimp only
  obtain ⟨k', e2⟩ := rL_body (us := us) rfl h3 ts endsolidB (0 + 1) [] [] h4 (by simp; omega)
  rw [e2]
  have e3 : lns endsolidB = [[101, 110, 100, 115, 111, 108, 105, 100]] := by
    have := lns_line' (a := [101, 110, 100, 115, 111, 108, 105, 100]) (b := []) (c := endsolidB) (by decide) rfl
    rw [List.append_nil, lns_nil] at this
    exact this
  rw [e3, rL, flds_endsolid]
  rw [if_neg (by decide)]
  have e4 : ∀ us ts : List T3, rstep 1 us ts [endsolidW] = .ok 6 us ts := fun us ts => by rw [rstep1, if_neg (by decide), if_pos (by decide)]
  rw [e4]
  dsimp only
  rw [rL, if_pos rfl]
  simp
theorem parse_print {us ts : List T3} (hc : chk us ts = 0) (hl : ((printL us ts).length : Int) ≤ 65536) : parseT (printL us ts) = meshV (.ok (vsOf us ts) (tsOf 0 ts.length)) := by
  rw [parseT_eq]
  unfold refT
  rw [if_neg (by omega), rL_print hc]

/-! ### Same -/

def sameB (us ts us2 ts2 : List T3) : Bool := decide (us = us2) && decide (ts = ts2)
theorem kZ : Known Tryd.prog (Env.of Tryd.prog (sumOf [])) := hK (l := []) trivial
theorem nth3_eq {a b : T3} : (!(a.1 == b.1 && (a.2.1 == b.2.1 && (a.2.2 == b.2.2 && true)))) = !decide (a = b) := by
  obtain ⟨x, y, z⟩ := a
  obtain ⟨p, q, r⟩ := b
  congr 1
  rw [Bool.eq_iff_iff]
  simp
theorem dropEq {l m : List T3} {i : Nat} (hl : l.length = m.length) (h : i < l.length) : decide (l.drop i = m.drop i) = (decide (nth3 l (i : Int) = nth3 m (i : Int)) && decide (l.drop (i + 1) = m.drop (i + 1))) := by
  have e1 := drop3 h
  have e2 := drop3 (l := m) (i := i) (by omega)
  rw [e1, e2, Bool.eq_iff_iff]
  simp
theorem sm2_loop (us ts us2 ts2 : List T3) (j : Int) (hl : ts.length = ts2.length) (hb : ts.length ≤ 100000) : ∀ (n i : Nat), i + n = ts.length → RunsR Tryd.prog (fnOf Tryd.prog 19) (.bool (decide (ts.drop i = ts2.drop i))) (loopOf Tryd.prog 19 1)
    (slotsS 59 [(2, .ptr 0 0), (3, .ptr 1 0), (25, I64 (us.length : Int)), (26, I64 j), (43, I64 (ts.length : Int)), (44, I64 (i : Int))]) [some (.cells [.list v3 us, .list v3 ts]), some (.cells [.list v3 us2, .list v3 ts2])]
  | n, i, hi => by
    refine runsR_seg kZ (n := 1000) (hint := .unit) (keep := keepS 59 [2,3,25,26,43,44]) (p := sm2_p) rfl ?_
    erw [sm2 us ts us2 ts2 j (i : Int)]
    unfold sm2_t
    rw [nth3_eq]
    match n, hi with
    | 0, hi =>
      have hi : i = ts.length := hi
      refine ⟨fun h => absurd (of_decide_eq_true h) (by omega), fun _ => ?_⟩
      rw [List.drop_eq_nil_of_le (by omega), List.drop_eq_nil_of_le (by omega)]; rfl
    | n + 1, hi =>
      have h1 : i < ts.length := by omega
      rw [dropEq hl h1]
      refine ⟨fun _ => ⟨by simp; omega, by simp; omega, fun h => ?_, fun h => ⟨slotsS_len _ _, ?_⟩⟩, fun h => absurd (of_decide_eq_false h) (by omega)⟩
      · rw [Bool.not_eq_true'] at h
        rw [h]; rfl
      · rw [Bool.not_eq_false'] at h
        rw [h, Bool.true_and, wr1 (by omega)]
        exact sm2_loop us ts us2 ts2 j hl hb n (i + 1) (by omega)
theorem sm1_loop (us ts us2 ts2 : List T3) (hl1 : us.length = us2.length) (hb1 : us.length ≤ 100000) (hl : ts.length = ts2.length) (hb : ts.length ≤ 100000) : ∀ (n i : Nat), i + n = us.length → RunsR Tryd.prog (fnOf Tryd.prog 19) (.bool (decide (us.drop i = us2.drop i) && decide (ts = ts2))) (loopOf Tryd.prog 19 0)
    (slotsS 59 [(2, .ptr 0 0), (3, .ptr 1 0), (25, I64 (us.length : Int)), (26, I64 (i : Int)), (43, .undef), (44, .undef)]) [some (.cells [.list v3 us, .list v3 ts]), some (.cells [.list v3 us2, .list v3 ts2])]
  | n, i, hi => by
    refine runsR_seg kZ (n := 1000) (hint := .unit) (keep := keepS 59 [2,3,25,26,43,44]) (p := sm1_p) rfl ?_
    erw [sm1 us ts us2 ts2 (i : Int)]
    unfold sm1_t
    rw [nth3_eq]
    match n, hi with
    | 0, hi =>
      have hi : i = us.length := hi
      refine ⟨fun h => absurd (of_decide_eq_true h) (by omega), fun _ => ⟨slotsS_len _ _, ?_⟩⟩
      have d1 : us.drop i = [] := List.drop_eq_nil_of_le (by omega)
      have d2 : us2.drop i = [] := List.drop_eq_nil_of_le (by omega)
      rw [d1, d2, show (decide (([] : List T3) = []) && decide (ts = ts2)) = decide (ts = ts2) by simp]
      exact sm2_loop us ts us2 ts2 _ hl hb ts.length 0 (by omega)
    | n + 1, hi =>
      have h1 : i < us.length := by omega
      rw [dropEq hl1 h1]
      refine ⟨fun _ => ⟨by simp; omega, by simp; omega, fun h => ?_, fun h => ⟨slotsS_len _ _, ?_⟩⟩, fun h => absurd (of_decide_eq_false h) (by omega)⟩
      · rw [Bool.not_eq_true'] at h
        rw [h]; rfl
      · rw [Bool.not_eq_false'] at h
        rw [h, Bool.true_and, wr1 (by omega)]
        exact sm1_loop us ts us2 ts2 hl1 hb1 hl hb n (i + 1) (by omega)
theorem s_same (us ts us2 ts2 : List T3) (hb1 : us.length ≤ 100000) (hb : ts.length ≤ 100000) : SCall Tryd.prog 19 [.agg [.list v3 us, .list v3 ts], .agg [.list v3 us2, .list v3 ts2]] (.bool (sameB us ts us2 ts2)) := by
  refine scallR_loops rfl rfl (by kernel_rfl) (runsR_seg kZ (n := 1000) (hint := .unit) (keep := keepS 59 [2,3,25,26,43,44]) (p := sm0_p) (boxes := []) rfl ?_)
  have e := sm0 us ts us2 ts2
  unfold startS codeS at e
  erw [e]
  unfold sm0_t sameB
  refine ⟨fun h => ?_, fun h => ⟨fun h1 => ?_, fun h1 => ⟨slotsS_len _ _, ?_⟩⟩⟩
  · have h : ¬ us = us2 := fun hc => by subst hc; simp at h
    rw [decide_eq_false h]; rfl
  · have h : ¬ ts = ts2 := fun hc => by subst hc; simp at h1
    rw [decide_eq_false h, Bool.and_false]; rfl
  · have h : (us.length : Int) = us2.length := by simpa using h
    have h1 : (ts.length : Int) = ts2.length := by simpa using h1
    exact sm1_loop us ts us2 ts2 (by omega) hb1 (by omega) hb us.length 0 (by omega)
def fSame : Fact := ⟨19, fun args => match args with
  | [.agg [.list (.pair (.int .i64) (.pair (.int .i64) (.int .i64))) us, .list (.pair (.int .i64) (.pair (.int .i64) (.int .i64))) ts], .agg [.list (.pair (.int .i64) (.pair (.int .i64) (.int .i64))) us2, .list (.pair (.int .i64) (.pair (.int .i64) (.int .i64))) ts2]] =>
    some (.req (decide ((us : List T3).length ≤ 100000) && decide ((ts : List T3).length ≤ 100000)) (.leaf (.bool (sameB us ts us2 ts2))))
  | _ => none⟩
theorem o_same : fSame.ok Tryd.prog := fun args t ht => by
  simp only [fSame] at ht
  split at ht
  · injection ht with ht; subst ht
    intro h
    rw [Bool.and_eq_true] at h
    exact s_same _ _ _ _ (of_decide_eq_true h.1) (of_decide_eq_true h.2)
  · cases ht
end Go.Proofs.YtlhkgeoahblffaaDoor
set_option linter.unusedSimpArgs false
set_option linter.unusedVariables false
set_option maxRecDepth 1000000
namespace Go.Proofs.YtlhkgeoahblffaaDoor
open Go.Sx

theorem scall_closedB {P : Program} {E : Env} (hK : Known P E) (n : Nat) (p : Plan) {f : FuncId} {args : List SV} {v : SV}
    (ht : (execFn E n f args p).vals.closed = some v) (hd : dataL args = true) (hv : v.data = true) : SCall P f args v :=
  scall_of_exec hK (n := n) (p := p) hd hv (Tree.vals_holds _ (Tree.closed_holds _ ht))

abbrev exV : List T3 := [(1, -2, 3)]
abbrev exT : List T3 := [(0, 0, 0)]
abbrev exV3 : List T3 := [(1, -2, 3), (1, -2, 3), (1, -2, 3)]
abbrev exT3 : List T3 := [(0, 1, 2)]
def exB : List UInt8 := [115, 111, 108, 105, 100, 10, 32, 32, 102, 97, 99, 101, 116, 10, 32, 32, 32, 32, 118, 101, 114, 116, 101, 120, 32, 49, 32, 45, 50, 32, 51, 10, 32, 32, 32, 32, 118, 101, 114, 116, 101, 120, 32, 49, 32, 45, 50, 32, 51, 10, 32, 32, 32, 32, 118, 101, 114, 116, 101, 120, 32, 49, 32, 45, 50, 32, 51, 10, 32, 32, 101, 110, 100, 102, 97, 99, 101, 116, 10, 101, 110, 100, 115, 111, 108, 105, 100, 10]
theorem exB_eq : printL exV exT = exB := by kernel_rfl
theorem ex_chk : chk exV exT = 0 := by kernel_rfl
theorem ex_parse : parseT exB = meshV (.ok exV3 exT3) := by
  rw [← exB_eq, parse_print ex_chk (by rw [exB_eq]; decide)]
  kernel_rfl
def fExP : Fact := ⟨17, fun args => match args with
  | [.str s] => some (.req (s == exB) (.leaf (.tuple [.agg [.list v3 exV3, .list v3 exT3], I64 0, I64 0])))
  | _ => none⟩
theorem o_exP : fExP.ok Tryd.prog := fun args t ht => by
  simp only [fExP] at ht
  split at ht
  · injection ht with ht; subst ht
    intro h
    have h := beq_iff_eq.1 h
    subst h
    have := s_parseT exB
    rw [ex_parse] at this
    exact this
  · cases ht
theorem kEx : Known Tryd.prog (Env.ofB Tryd.prog (sumOf [fFmt, fExP]) (wrOf [wCopy, wStr]) (pnOf []) (bxOf []) (rdOf [51]) (rdOf [28]) (rdOf []) (rdOf [])) :=
  hB (l := [fFmt, fExP]) [51] [28] [] [] ⟨o_fmt, o_exP, trivial⟩ (fun x hx => by
    rcases List.mem_cons.1 hx with rfl | hx
    · exact wCopy_ok
    · rcases List.mem_cons.1 hx with rfl | hx
      · exact wStr_ok
      · cases hx) noneOk noneOk
theorem s_awake : SCall Tryd.prog 14 [] (.bool true) := scall_closedB kEx 2000 .auto (by kernel_rfl) rfl rfl
def fAwake : Fact := ⟨14, fun args => match args with
  | [] => some (.leaf (.bool true))
  | _ => none⟩
theorem o_awake : fAwake.ok Tryd.prog := fun args t ht => by
  simp only [fAwake] at ht
  split at ht
  · injection ht with ht; subst ht; exact s_awake
  · cases ht
end Go.Proofs.YtlhkgeoahblffaaDoor
set_option linter.unusedSimpArgs false
set_option linter.unusedVariables false
set_option maxRecDepth 100000
namespace Go.Proofs.YtlhkgeoahblffaaDoor
open Go.Sx

def PR.us : PR → List T3
  | .ok us _ => us
  | .err _ _ => []
def PR.ts : PR → List T3
  | .ok _ ts => ts
  | .err _ _ => []
def PR.line : PR → Int
  | .ok _ _ => 0
  | .err k _ => k
def PR.e : PR → Int
  | .ok _ _ => 0
  | .err _ e => e
/-- What Parse answers. -/
def mRes (s : List UInt8) : PR := if (s.length : Int) > 65536 then .err 0 2 else rL (lns s) 0 0 [] []
def mU (s : List UInt8) : List T3 := (mRes s).us
def mT (s : List UInt8) : List T3 := (mRes s).ts
def mL (s : List UInt8) : Int := (mRes s).line
def mE (s : List UInt8) : Int := (mRes s).e
theorem refT_eq (s : List UInt8) : refT s = .tuple [.agg [.list v3 (mU s), .list v3 (mT s)], I64 (mL s), I64 (mE s)] := by
  unfold refT mU mT mL mE mRes
  split
  · rfl
  · cases rL (lns s) 0 0 [] [] <;> rfl

theorem rstep_len {t : Nat} {us ts : List T3} {w : List (List UInt8)} {t' : Nat} {us' ts' : List T3} (h : rstep t us ts w = .ok t' us' ts') : us'.length ≤ us.length + 1 ∧ ts'.length ≤ ts.length + 1 := by
  unfold rstep at h
  repeat' split at h
  all_goals first
    | (cases h; done)
    | (injection h with h1 h2 h3; subst h2 h3; constructor <;> simp)
theorem rL_len : ∀ (l : List (List UInt8)) (k : Int) (t : Nat) (us ts : List T3), (rL l k t us ts).us.length ≤ us.length + l.length ∧ (rL l k t us ts).ts.length ≤ ts.length + l.length
  | [], k, t, us, ts => by
    rw [rL]
    split
    · exact ⟨Nat.le_refl _, Nat.le_refl _⟩
    · exact ⟨Nat.zero_le _, Nat.zero_le _⟩
  | x :: l, k, t, us, ts => by
    rw [rL]
    split
    · have := rL_len l (k + 1) t us ts
      rw [List.length_cons]; omega
    · cases hr : rstep t us ts (flds x) with
      | err e => exact ⟨Nat.zero_le _, Nat.zero_le _⟩
      | ok t' us' ts' =>
        have a := rstep_len hr
        have b := rL_len l (k + 1) t' us' ts'
        rw [List.length_cons]
        dsimp only
        omega
theorem m_len (s : List UInt8) : (mU s).length ≤ 65536 ∧ (mT s).length ≤ 65536 := by
  unfold mU mT mRes
  split
  · exact ⟨Nat.zero_le _, Nat.zero_le _⟩
  · rename_i h
    have a := rL_len (lns s) 0 0 [] []
    have b := (lns_small (s.length + 1) s (Nat.lt_succ_self _) (small_iff.2 (by omega))).2
    simp only [List.length_nil] at a
    omega

def fParseQ : Fact := ⟨17, fun args => match args with
  | [.str s] => some (.leaf (.tuple [.agg [.list v3 (mU s), .list v3 (mT s)], I64 (mL s), I64 (mE s)]))
  | _ => none⟩
theorem o_parseQ : fParseQ.ok Tryd.prog := fun args t ht => by
  simp only [fParseQ] at ht
  split at ht
  · rename_i s
    injection ht with ht; subst ht
    have := s_parseT s
    rw [parseT_eq, refT_eq] at this
    exact this
  · cases ht
def fRefQ : Fact := ⟨18, fun args => match args with
  | [.str s] => some (.leaf (.tuple [.agg [.list v3 (mU s), .list v3 (mT s)], I64 (mL s), I64 (mE s)]))
  | _ => none⟩
theorem o_refQ : fRefQ.ok Tryd.prog := fun args t ht => by
  simp only [fRefQ] at ht
  split at ht
  · rename_i s
    injection ht with ht; subst ht
    have := s_refT s
    rw [refT_eq] at this
    exact this
  · cases ht
theorem same_self (us ts : List T3) : sameB us ts us ts = true := by simp [sameB]
end Go.Proofs.YtlhkgeoahblffaaDoor
set_option linter.unusedSimpArgs false
set_option linter.unusedVariables false
set_option maxRecDepth 100000
namespace Go.Proofs.YtlhkgeoahblffaaDoor
open Go.Sx
theorem s_lawPrints (us ts : List (Int × Int × Int)) : SCall Tryd.prog 3 [.agg [.list v3 us, .list v3 ts]] (.bool true) :=
  scall_v mix [fAwake, fPrint, fPrintR] ⟨o_awake, o_print, o_printR, trivial⟩ 1000 (.fork (.lit (.lit (.lit (.lit (.fork (.all) (.fork (.lit (.lit (.lit (.fork (.lit (.all)) (.lit (.all)))))) (.lit (.lit (.lit (.lit (.lit (.all)))))))))))) (.lit (.lit (.lit (.lit (.lit (.all)))))))
   (t := .node (decide (((ts.length : Int) : Int) ≤ 40))
 (.node (!decide (((us.length : Int) : Int) ≤ 60))
  (.leaf (SV.bool true))
  (.node ((printT us ts).fst == (printT us ts).fst)
   (.node ((printT us ts).snd == (printT us ts).snd)
    (.leaf (SV.bool true))
    (.leaf (SV.bool false)))
   (.leaf (SV.bool false))))
 (.leaf (SV.bool true)))
   (by kernel_rfl) (by simp [Tree.holds]) (by kernel_rfl) (by kernel_rfl)
theorem s_lawParses (s : List UInt8) : SCall Tryd.prog 4 [.str s] (.bool true) :=
  scall_v mix [fAwake, fParseQ, fRefQ, fSame] ⟨o_awake, o_parseQ, o_refQ, o_same, trivial⟩ 1000 (.fork (.all) (.fork (.lit (.lit (.lit (.fork (.lit (.lit (.lit (.fork (.lit (.all)) (.lit (.all)))))) (.lit (.lit (.lit (.lit (.lit (.all)))))))))) (.lit (.lit (.lit (.lit (.lit (.lit (.lit (.lit (.lit (.all))))))))))))
   (t := .node (decide (((↑s.length : Int) : Int) > 3000))
 (.leaf (SV.bool true))
 (.req (decide ((mU s).length ≤ 100000) && decide ((mT s).length ≤ 100000)) (.node (sameB (mU s) (mT s) (mU s) (mT s))
   (.node (mL s == mL s)
    (.node (mE s == mE s)
     (.leaf (SV.bool true))
     (.leaf (SV.bool false)))
    (.leaf (SV.bool false)))
   (.leaf (SV.bool false)))))
   (by kernel_rfl) (by have h := m_len s; simp only [same_self]; simp [Tree.holds]; omega) (by kernel_rfl) (by kernel_rfl)
end Go.Proofs.YtlhkgeoahblffaaDoor
