/-
  GF: the segments of the hosts. Written by gen.py.
-/
import Derived.Test.YtibpodgdondakaaGE
set_option linter.unusedSimpArgs false
set_option linter.unusedVariables false
set_option maxRecDepth 100000
namespace Go.Proofs.Ytibpodgdondakaa
open Go.Sx
def few0_p : Plan := .all
noncomputable def few0_t (h : Ho) : Tree Stop :=
   .leaf (Stop.at (loopOf Try.prog 26 0) 28 (slotsS 28 [(1, SV.ptr 0 0), (2, SV.ptr 1 0), (3, SV.nilS), (4, I64 0)]) [some (Box.cells [SV.list Ty.str h.ls, I64 h.ba, I64 h.ne, I64 h.wi, I64 h.re, I64 h.se]), some (Box.cells [SV.nilS, I64 0, I64 0, I64 0, I64 0, I64 0])])
theorem few0 (h : Ho) : segR (Env.of Try.prog (sumOf [fShort])) 1000 (fnOf Try.prog 26) .str (keepS 28 [1,2,3,4]) (codeS Try.prog 26) few0_p (startS Try.prog 26 [h.sv]) [] = few0_t h := by kernel_rfl
def few1n_p : Plan := .fork (.lit (.lit (.fork (.all) (.all)))) (.lit (.lit (.lit (.all))))
noncomputable def few1n_t (h : Ho) (i : Int) : Tree Stop :=
   .node (decide (i < (↑h.ls.length : Int)))
 (.node (decide (i < 20))
  (.req (decide (0 ≤ i) && decide (i < (↑h.ls.length : Int))) (.req (decide ([List.take 120 ((gt h.ls i))].length * 16 ≤ 140737488355328)) (.leaf (Stop.at (loopOf Try.prog 26 0) 28 (slotsS 28 [(1, SV.ptr 0 0), (2, SV.ptr 1 0), (3, SV.row 2), (4, I64 (IntKind.i64.wrap (i + 1)))]) [some (Box.cells [SV.list Ty.str h.ls, I64 h.ba, I64 h.ne, I64 h.wi, I64 h.re, I64 h.se]), some (Box.cells [SV.nilS, I64 0, I64 0, I64 0, I64 0, I64 0]), some (Box.rows Ty.str [List.take 120 ((gt h.ls i))])]))))
  (.leaf (Stop.done (SV.agg [SV.list Ty.str [], I64 h.ba, I64 h.ne, I64 h.wi, I64 h.re, I64 h.se]))))
 (.leaf (Stop.done (SV.agg [SV.list Ty.str [], I64 h.ba, I64 h.ne, I64 h.wi, I64 h.re, I64 h.se])))
theorem few1n (h : Ho) (i : Int) : segR (Env.of Try.prog (sumOf [fShort])) 1000 (fnOf Try.prog 26) .str (keepS 28 [1,2,3,4]) (loopOf Try.prog 26 0) few1n_p (slotsS 28 [(1, .ptr 0 0), (2, .ptr 1 0), (3, .nilS), (4, I64 i)]) [some (.cells h.cells), some (.cells zcells)] = few1n_t h i := by kernel_rfl
def few1_p : Plan := .fork (.lit (.lit (.fork (.all) (.all)))) (.lit (.lit (.lit (.all))))
noncomputable def few1_t (h : Ho) (l : List (List UInt8)) (i : Int) : Tree Stop :=
   .node (decide (i < (↑h.ls.length : Int)))
 (.node (decide (i < 20))
  (.req (decide (0 ≤ i) && decide (i < (↑h.ls.length : Int))) (.req (decide ((l.length + [List.take 120 ((gt h.ls i))].length) * 16 ≤ 140737488355328)) (.leaf (Stop.at (loopOf Try.prog 26 0) 28 (slotsS 28 [(1, SV.ptr 0 0), (2, SV.ptr 1 0), (3, SV.row 2), (4, I64 (IntKind.i64.wrap (i + 1)))]) [some (Box.cells [SV.list Ty.str h.ls, I64 h.ba, I64 h.ne, I64 h.wi, I64 h.re, I64 h.se]), some (Box.cells [SV.nilS, I64 0, I64 0, I64 0, I64 0, I64 0]), some (Box.rows Ty.str (l ++ [List.take 120 ((gt h.ls i))]))]))))
  (.leaf (Stop.done (SV.agg [SV.list Ty.str l, I64 h.ba, I64 h.ne, I64 h.wi, I64 h.re, I64 h.se]))))
 (.leaf (Stop.done (SV.agg [SV.list Ty.str l, I64 h.ba, I64 h.ne, I64 h.wi, I64 h.re, I64 h.se])))
theorem few1 (h : Ho) (l : List (List UInt8)) (i : Int) : segR (Env.of Try.prog (sumOf [fShort])) 1000 (fnOf Try.prog 26) .str (keepS 28 [1,2,3,4]) (loopOf Try.prog 26 0) few1_p (slotsS 28 [(1, .ptr 0 0), (2, .ptr 1 0), (3, .row 2), (4, I64 i)]) [some (.cells h.cells), some (.cells zcells), some (.rows .str l)] = few1_t h l i := by kernel_rfl
def sta0_p : Plan := .all
noncomputable def sta0_t (l : List (List UInt8)) (w : Int) : Tree Stop :=
   .leaf (Stop.at (loopOf Try.prog 29 0) 36 (slotsS 36 [(0, SV.list Ty.str l), (1, I64 w), (4, SV.ptr 0 0), (8, SV.list Ty.str l), (9, I64 (↑l.length : Int)), (10, I64 0)]) [some (Box.cells [SV.nilS, I64 0, I64 0, I64 0, I64 0, I64 0])])
theorem sta0 (l : List (List UInt8)) (w : Int) : segR (Env.of Try.prog (sumOf [fSendable, fCloS])) 1000 (fnOf Try.prog 29) .str (keepS 36 [0,1,4,8,9,10]) (codeS Try.prog 29) sta0_p (startS Try.prog 29 [.list .str l, I64 w]) [] = sta0_t l w := by kernel_rfl
def sta1_p : Plan := .fork (.fork (.all) (.all)) (.fork (.lit (.lit (.lit (.all)))) (.lit (.lit (.fork (.all) (.fork (.all) (.all))))))
noncomputable def sta1_t (l : List (List UInt8)) (w k i : Int) : Tree Stop :=
   .node (decide (i < k))
 (.req (decide (0 ≤ i) && decide (i < (↑l.length : Int))) (.req (small (gt l i)) (.node (!(decide (((gt l i).length : Int) ≤ 96) && plainB (gt l i)))
    (.leaf (Stop.done (SV.tuple [SV.agg [SV.list Ty.str [], I64 0, I64 0, I64 0, I64 0, I64 0], I64 1])))
    (.leaf (Stop.at (loopOf Try.prog 29 0) 36 (slotsS 36 [(0, SV.list Ty.str l), (1, I64 w), (4, SV.ptr 0 0), (8, SV.list Ty.str l), (9, I64 k), (10, I64 (IntKind.i64.wrap (i + 1)))]) [some (Box.cells [SV.nilS, I64 0, I64 0, I64 0, I64 0, I64 0])])))))
 (.node (decide (w < 1))
  (.leaf (Stop.done (SV.tuple [SV.agg [SV.list Ty.str [], I64 0, I64 0, I64 0, I64 0, I64 0], I64 1])))
  (.node (decide (w > 8))
   (.leaf (Stop.done (SV.tuple [SV.agg [SV.list Ty.str [], I64 0, I64 0, I64 0, I64 0, I64 0], I64 1])))
   (.node (decide ((↑l.length : Int) > 65536))
    (.leaf (Stop.done (SV.tuple [SV.agg [SV.list Ty.str [], I64 0, I64 0, I64 0, I64 0, I64 0], I64 2])))
    (.req (few2 l.length) (.leaf (Stop.done (SV.tuple [SV.agg [SV.list Ty.str l, I64 1, I64 1, I64 w, I64 0, I64 0], I64 0])))))))
theorem sta1 (l : List (List UInt8)) (w k i : Int) : segR (Env.of Try.prog (sumOf [fSendable, fCloS])) 1000 (fnOf Try.prog 29) .str (keepS 36 [0,1,4,8,9,10]) (loopOf Try.prog 29 0) sta1_p (slotsS 36 [(0, .list .str l), (1, I64 w), (4, .ptr 0 0), (8, .list .str l), (9, I64 k), (10, I64 i)]) [some (.cells zcells)] = sta1_t l w k i := by kernel_rfl
def staR0_p : Plan := .all
noncomputable def staR0_t (l : List (List UInt8)) (w : Int) : Tree Stop :=
   .leaf (Stop.at (loopOf Try.prog 30 0) 44 (slotsS 44 [(0, SV.list Ty.str l), (1, I64 w), (4, SV.ptr 0 0), (6, I64 0)]) [some (Box.cells [SV.nilS, I64 0, I64 0, I64 0, I64 0, I64 0])])
theorem staR0 (l : List (List UInt8)) (w : Int) : segR (Env.of Try.prog (sumOf [fPlainR])) 1000 (fnOf Try.prog 30) .str (keepS 44 [0,1,4,6]) (codeS Try.prog 30) staR0_p (startS Try.prog 30 [.list .str l, I64 w]) [] = staR0_t l w := by kernel_rfl
def staR1_p : Plan := .fork (.fork (.lit (.lit (.lit (.lit (.lit (.lit (.lit (.all)))))))) (.lit (.lit (.lit (.lit (.lit (.lit (.fork (.all) (.all))))))))) (.fork (.lit (.lit (.lit (.all)))) (.lit (.lit (.fork (.all) (.fork (.all) (.fork (.all) (.all)))))))
noncomputable def staR1_t (l : List (List UInt8)) (w i : Int) : Tree Stop :=
   .node (decide (i < (↑l.length : Int)))
 (.req (decide (0 ≤ i) && decide (i < (↑l.length : Int))) (.req (small (gt l i)) (.node (!plainB (gt l i))
    (.leaf (Stop.done (SV.tuple [SV.agg [SV.list Ty.str [], I64 0, I64 0, I64 0, I64 0, I64 0], I64 1])))
    (.req (decide (0 ≤ i) && decide (i < (↑l.length : Int))) (.node (decide (((gt l i).length : Int) > 96))
      (.leaf (Stop.done (SV.tuple [SV.agg [SV.list Ty.str [], I64 0, I64 0, I64 0, I64 0, I64 0], I64 1])))
      (.leaf (Stop.at (loopOf Try.prog 30 0) 44 (slotsS 44 [(0, SV.list Ty.str l), (1, I64 w), (4, SV.ptr 0 0), (6, I64 (IntKind.i64.wrap (i + 1)))]) [some (Box.cells [SV.nilS, I64 0, I64 0, I64 0, I64 0, I64 0])])))))))
 (.node (decide (w < 1))
  (.leaf (Stop.done (SV.tuple [SV.agg [SV.list Ty.str [], I64 0, I64 0, I64 0, I64 0, I64 0], I64 1])))
  (.node (decide (w > 8))
   (.leaf (Stop.done (SV.tuple [SV.agg [SV.list Ty.str [], I64 0, I64 0, I64 0, I64 0, I64 0], I64 1])))
   (.node (decide ((↑l.length : Int) > 65536))
    (.leaf (Stop.done (SV.tuple [SV.agg [SV.list Ty.str [], I64 0, I64 0, I64 0, I64 0, I64 0], I64 2])))
    (.node ((l).isEmpty)
     (.leaf (Stop.done (SV.tuple [SV.agg [SV.list Ty.str [], I64 1, I64 1, I64 w, I64 0, I64 0], I64 0])))
     (.req (decide ((0 + (l).length) * 16 ≤ 140737488355328)) (.leaf (Stop.done (SV.tuple [SV.agg [SV.list Ty.str ([] ++ l), I64 1, I64 1, I64 w, I64 0, I64 0], I64 0]))))))))
theorem staR1 (l : List (List UInt8)) (w i : Int) : segR (Env.of Try.prog (sumOf [fPlainR])) 1000 (fnOf Try.prog 30) .str (keepS 44 [0,1,4,6]) (loopOf Try.prog 30 0) staR1_p (slotsS 44 [(0, .list .str l), (1, I64 w), (4, .ptr 0 0), (6, I64 i)]) [some (.cells zcells)] = staR1_t l w i := by kernel_rfl
end Go.Proofs.Ytibpodgdondakaa
