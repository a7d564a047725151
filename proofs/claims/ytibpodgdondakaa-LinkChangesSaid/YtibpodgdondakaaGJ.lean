/-
  GJ: the segments of hosts that are looked at. Written by gen.py.
-/
import Derived.Test.YtibpodgdondakaaGI
set_option linter.unusedSimpArgs false
set_option linter.unusedVariables false
set_option maxRecDepth 100000
namespace Go.Proofs.Ytibpodgdondakaa
open Go.Sx
def val0_p : Plan := .fork (.lit (.lit (.lit (.lit (.lit (.lit (.lit (.lit (.lit (.lit (.lit (.lit (.lit (.lit (.lit (.lit (.lit (.lit (.lit (.lit (.lit (.lit (.lit (.lit (.lit (.lit (.lit (.lit (.lit (.lit (.lit (.lit (.lit (.lit (.lit (.lit (.all))))))))))))))))))))))))))))))))))))) (.lit (.lit (.lit (.fork (.lit (.lit (.lit (.lit (.lit (.lit (.lit (.lit (.lit (.lit (.lit (.lit (.lit (.lit (.lit (.lit (.lit (.lit (.lit (.lit (.lit (.lit (.lit (.lit (.lit (.lit (.lit (.lit (.lit (.lit (.lit (.lit (.all))))))))))))))))))))))))))))))))) (.lit (.lit (.lit (.fork (.lit (.lit (.lit (.lit (.lit (.lit (.lit (.lit (.lit (.lit (.lit (.lit (.lit (.lit (.lit (.lit (.lit (.lit (.lit (.lit (.lit (.lit (.lit (.lit (.lit (.lit (.lit (.lit (.all))))))))))))))))))))))))))))) (.lit (.lit (.lit (.fork (.lit (.lit (.lit (.lit (.lit (.lit (.lit (.lit (.lit (.lit (.lit (.lit (.lit (.lit (.lit (.lit (.lit (.lit (.lit (.lit (.lit (.lit (.lit (.lit (.all))))))))))))))))))))))))) (.lit (.lit (.lit (.lit (.lit (.fork (.lit (.lit (.lit (.lit (.lit (.lit (.lit (.lit (.lit (.lit (.lit (.lit (.lit (.lit (.lit (.lit (.lit (.lit (.all))))))))))))))))))) (.lit (.lit (.lit (.lit (.lit (.fork (.lit (.lit (.lit (.lit (.lit (.lit (.lit (.lit (.lit (.lit (.lit (.lit (.all))))))))))))) (.lit (.lit (.lit (.lit (.lit (.lit (.lit (.lit (.lit (.lit (.lit (.fork (.all) (.fork (.lit (.lit (.lit (.lit (.lit (.lit (.lit (.lit (.lit (.lit (.lit (.lit (.all))))))))))))) (.lit (.lit (.lit (.fork (.lit (.lit (.lit (.lit (.lit (.lit (.lit (.lit (.all))))))))) (.lit (.lit (.lit (.fork (.lit (.lit (.lit (.lit (.all))))) (.lit (.lit (.lit (.fork (.all) (.all))))))))))))))))))))))))))))))))))))))))))))))))))
noncomputable def val0_t (h : Ho) : Tree Stop :=
   .node (decide ((↑h.ls.length : Int) > 65536))
 (.leaf (Stop.done (SV.bool false)))
 (.node (decide (h.wi < 1))
  (.leaf (Stop.done (SV.bool false)))
  (.node (decide (h.wi > 8))
   (.leaf (Stop.done (SV.bool false)))
   (.node (decide (h.ba < 1))
    (.leaf (Stop.done (SV.bool false)))
    (.node (decide (h.ba > IntKind.i64.wrap ((↑h.ls.length : Int) + 1)))
     (.leaf (Stop.done (SV.bool false)))
     (.node (decide (h.ne < h.ba))
      (.leaf (Stop.done (SV.bool false)))
      (.node (decide (h.ne > if IntKind.i64.wrap ((↑h.ls.length : Int) + 1) < IntKind.i64.wrap (h.ba + h.wi) then IntKind.i64.wrap ((↑h.ls.length : Int) + 1) else IntKind.i64.wrap (h.ba + h.wi)))
       (.leaf (Stop.done (SV.bool false)))
       (.node (decide (h.se < 0))
        (.leaf (Stop.done (SV.bool false)))
        (.node (decide (h.se > MC))
         (.leaf (Stop.done (SV.bool false)))
         (.node (decide (h.re < 0))
          (.leaf (Stop.done (SV.bool false)))
          (.node (decide (h.re > MC))
           (.leaf (Stop.done (SV.bool false)))
           (.leaf (Stop.at (loopOf Try.prog 60 0) 82 (slotsS 82 [(72, SV.list Ty.str h.ls), (73, I64 (↑h.ls.length : Int)), (74, I64 0)]) []))))))))))))
theorem val0 (h : Ho) : segR (Env.of Try.prog (sumOf [fSendable])) 1000 (fnOf Try.prog 60) .unit (keepS 82 [72,73,74]) (codeS Try.prog 60) val0_p (startS Try.prog 60 [h.sv]) [] = val0_t h := by kernel_rfl
def val1_p : Plan := .fork (.fork (.all) (.all)) (.all)
noncomputable def val1_t (l : List (List UInt8)) (k i : Int) : Tree Stop :=
   .node (decide (i < k))
 (.req (decide (0 ≤ i) && decide (i < (↑l.length : Int))) (.req (small (gt l i)) (.node (!(decide (((gt l i).length : Int) ≤ 96) && plainB (gt l i)))
    (.leaf (Stop.done (SV.bool false)))
    (.leaf (Stop.at (loopOf Try.prog 60 0) 82 (slotsS 82 [(72, SV.list Ty.str l), (73, I64 k), (74, I64 (IntKind.i64.wrap (i + 1)))]) [])))))
 (.leaf (Stop.done (SV.bool true)))
theorem val1 (l : List (List UInt8)) (k i : Int) : segR (Env.of Try.prog (sumOf [fSendable])) 1000 (fnOf Try.prog 60) .unit (keepS 82 [72,73,74]) (loopOf Try.prog 60 0) val1_p (slotsS 82 [(72, .list .str l), (73, I64 k), (74, I64 i)]) [] = val1_t l k i := by kernel_rfl
def same0_p : Plan := .fork (.lit (.lit (.lit (.lit (.lit (.lit (.lit (.lit (.lit (.lit (.lit (.lit (.lit (.lit (.lit (.lit (.lit (.lit (.lit (.lit (.lit (.lit (.lit (.lit (.lit (.lit (.lit (.lit (.lit (.lit (.all))))))))))))))))))))))))))))))) (.lit (.lit (.lit (.lit (.lit (.fork (.lit (.lit (.lit (.lit (.lit (.lit (.lit (.lit (.lit (.lit (.lit (.lit (.lit (.lit (.lit (.lit (.lit (.lit (.lit (.lit (.lit (.lit (.lit (.lit (.all))))))))))))))))))))))))) (.lit (.lit (.lit (.lit (.lit (.fork (.lit (.lit (.lit (.lit (.lit (.lit (.lit (.lit (.lit (.lit (.lit (.lit (.lit (.lit (.lit (.lit (.lit (.lit (.all))))))))))))))))))) (.lit (.lit (.lit (.lit (.lit (.fork (.lit (.lit (.lit (.lit (.lit (.lit (.lit (.lit (.lit (.lit (.lit (.lit (.all))))))))))))) (.lit (.lit (.lit (.lit (.lit (.fork (.lit (.lit (.lit (.lit (.lit (.lit (.all))))))) (.lit (.lit (.lit (.lit (.lit (.fork (.all) (.all)))))))))))))))))))))))))))))))
noncomputable def same0_t (g h : Ho) : Tree Stop :=
   .node ((↑g.ls.length : Int) != (↑h.ls.length : Int))
 (.leaf (Stop.done (SV.bool false)))
 (.node (g.ba != h.ba)
  (.leaf (Stop.done (SV.bool false)))
  (.node (g.ne != h.ne)
   (.leaf (Stop.done (SV.bool false)))
   (.node (g.wi != h.wi)
    (.leaf (Stop.done (SV.bool false)))
    (.node (g.re != h.re)
     (.leaf (Stop.done (SV.bool false)))
     (.node (g.se != h.se)
      (.leaf (Stop.done (SV.bool false)))
      (.leaf (Stop.at (loopOf Try.prog 27 0) 66 (slotsS 66 [(2, SV.ptr 0 0), (3, SV.ptr 1 0), (5, I64 0)]) [some (Box.cells [SV.list Ty.str g.ls, I64 g.ba, I64 g.ne, I64 g.wi, I64 g.re, I64 g.se]), some (Box.cells [SV.list Ty.str h.ls, I64 h.ba, I64 h.ne, I64 h.wi, I64 h.re, I64 h.se])])))))))
theorem same0 (g h : Ho) : segR (Env.of Try.prog (sumOf [])) 1000 (fnOf Try.prog 27) .unit (keepS 66 [2,3,5]) (codeS Try.prog 27) same0_p (startS Try.prog 27 [g.sv, h.sv]) [] = same0_t g h := by kernel_rfl
def same1_p : Plan := .fork (.fork (.all) (.all)) (.all)
noncomputable def same1_t (g h : Ho) (i : Int) : Tree Stop :=
   .node (decide (i < (↑g.ls.length : Int)))
 (.req (decide (0 ≤ i) && decide (i < (↑g.ls.length : Int))) (.req (decide (0 ≤ i) && decide (i < (↑h.ls.length : Int))) (.node (!(gt g.ls i) == (gt h.ls i))
    (.leaf (Stop.done (SV.bool false)))
    (.leaf (Stop.at (loopOf Try.prog 27 0) 66 (slotsS 66 [(2, SV.ptr 0 0), (3, SV.ptr 1 0), (5, I64 (IntKind.i64.wrap (i + 1)))]) [some (Box.cells [SV.list Ty.str g.ls, I64 g.ba, I64 g.ne, I64 g.wi, I64 g.re, I64 g.se]), some (Box.cells [SV.list Ty.str h.ls, I64 h.ba, I64 h.ne, I64 h.wi, I64 h.re, I64 h.se])])))))
 (.leaf (Stop.done (SV.bool true)))
theorem same1 (g h : Ho) (i : Int) : segR (Env.of Try.prog (sumOf [])) 1000 (fnOf Try.prog 27) .unit (keepS 66 [2,3,5]) (loopOf Try.prog 27 0) same1_p (slotsS 66 [(2, .ptr 0 0), (3, .ptr 1 0), (5, I64 i)]) [some (.cells g.cells), some (.cells h.cells)] = same1_t g h i := by kernel_rfl
end Go.Proofs.Ytibpodgdondakaa
