/-
  G4: the segments of the reading of numbers. Written by gen.py.
-/
import Derived.Test.YtibpodgdondakaaG3
set_option linter.unusedSimpArgs false
set_option linter.unusedVariables false
set_option maxRecDepth 100000
namespace Go.Proofs.Ytibpodgdondakaa
open Go.Sx
def parse0_p : Plan := .fork (.lit (.lit (.lit (.fork (.fork (.lit (.lit (.lit (.lit (.lit (.lit (.lit (.all)))))))) (.lit (.lit (.lit (.lit (.fork (.lit (.lit (.lit (.lit (.lit (.fork (.all) (.all))))))) (.lit (.lit (.lit (.lit (.lit (.lit (.all))))))))))))) (.fork (.lit (.lit (.lit (.lit (.lit (.lit (.lit (.all)))))))) (.lit (.lit (.lit (.lit (.fork (.lit (.lit (.lit (.lit (.lit (.fork (.all) (.all))))))) (.lit (.lit (.lit (.lit (.lit (.lit (.all))))))))))))))))) (.lit (.lit (.lit (.lit (.fork (.lit (.lit (.lit (.lit (.lit (.lit (.lit (.all)))))))) (.lit (.lit (.lit (.lit (.fork (.lit (.lit (.lit (.lit (.lit (.fork (.all) (.all))))))) (.lit (.lit (.lit (.lit (.lit (.lit (.all)))))))))))))))))
noncomputable def parse0_t (s : List UInt8) : Tree Stop :=
   .node (decide ((↑s.length : Int) > 0))
 (.req (true && decide (0 < (↑s.length : Int))) (.node ((bt s 0) == 45)
   (.node ((↑s.length : Int) == 1)
    (.leaf (Stop.done (SV.tuple [I64 0, I64 5])))
    (.req (true && decide (1 < (↑s.length : Int))) (.node ((bt s 1) == 48)
      (.node (decide ((↑s.length : Int) > 1))
       (.leaf (Stop.done (SV.tuple [I64 0, I64 5])))
       (.leaf (Stop.at (loopOf Try.prog 51 0) 77 (slotsS 77 [(0, SV.str s), (4, I64 1), (5, I64 1), (6, SV.undef), (7, SV.undef)]) [])))
      (.leaf (Stop.at (loopOf Try.prog 51 0) 77 (slotsS 77 [(0, SV.str s), (4, I64 1), (5, I64 1), (6, SV.undef), (7, SV.undef)]) [])))))
   (.node ((↑s.length : Int) == 0)
    (.leaf (Stop.done (SV.tuple [I64 0, I64 5])))
    (.req (true && decide (0 < (↑s.length : Int))) (.node ((bt s 0) == 48)
      (.node (decide ((↑s.length : Int) > 1))
       (.leaf (Stop.done (SV.tuple [I64 0, I64 5])))
       (.leaf (Stop.at (loopOf Try.prog 51 0) 77 (slotsS 77 [(0, SV.str s), (4, I64 0), (5, I64 0), (6, SV.undef), (7, SV.undef)]) [])))
      (.leaf (Stop.at (loopOf Try.prog 51 0) 77 (slotsS 77 [(0, SV.str s), (4, I64 0), (5, I64 0), (6, SV.undef), (7, SV.undef)]) [])))))))
 (.node ((↑s.length : Int) == 0)
  (.leaf (Stop.done (SV.tuple [I64 0, I64 5])))
  (.req (true && decide (0 < (↑s.length : Int))) (.node ((bt s 0) == 48)
    (.node (decide ((↑s.length : Int) > 1))
     (.leaf (Stop.done (SV.tuple [I64 0, I64 5])))
     (.leaf (Stop.at (loopOf Try.prog 51 0) 77 (slotsS 77 [(0, SV.str s), (4, I64 0), (5, I64 0), (6, SV.undef), (7, SV.undef)]) [])))
    (.leaf (Stop.at (loopOf Try.prog 51 0) 77 (slotsS 77 [(0, SV.str s), (4, I64 0), (5, I64 0), (6, SV.undef), (7, SV.undef)]) [])))))
theorem parse0 (s : List UInt8) : segR (Env.of Try.prog (sumOf [])) 1000 (fnOf Try.prog 51) .unit (keepS 77 [0,4,5,6,7]) (codeS Try.prog 51) parse0_p (startS Try.prog 51 [.str s]) [] = parse0_t s := by kernel_rfl
def parse1_p : Plan := .fork (.fork (.lit (.lit (.lit (.lit (.lit (.all)))))) (.lit (.lit (.lit (.lit (.fork (.all) (.all))))))) (.all)
noncomputable def parse1_t (s : List UInt8) (f i : Int) : Tree Stop :=
   .node (decide (i < (↑s.length : Int)))
 (.req (decide (0 ≤ i) && decide (i < (↑s.length : Int))) (.node (decide ((bt s i) < 48))
   (.leaf (Stop.done (SV.tuple [I64 0, I64 5])))
   (.req (decide (0 ≤ i) && decide (i < (↑s.length : Int))) (.node (decide ((bt s i) > 57))
     (.leaf (Stop.done (SV.tuple [I64 0, I64 5])))
     (.leaf (Stop.at (loopOf Try.prog 51 0) 77 (slotsS 77 [(0, SV.str s), (4, I64 f), (5, I64 (IntKind.i64.wrap (i + 1))), (6, SV.undef), (7, SV.undef)]) []))))))
 (.leaf (Stop.at (loopOf Try.prog 51 1) 77 (slotsS 77 [(0, SV.str s), (4, I64 f), (5, I64 i), (6, I64 0), (7, I64 f)]) []))
theorem parse1 (s : List UInt8) (f i : Int) : segR (Env.of Try.prog (sumOf [])) 1000 (fnOf Try.prog 51) .unit (keepS 77 [0,4,5,6,7]) (loopOf Try.prog 51 0) parse1_p (slotsS 77 [(0, .str s), (4, I64 f), (5, I64 i), (6, .undef), (7, .undef)]) [] = parse1_t s f i := by kernel_rfl
def parse2_p : Plan := .fork (.fork (.all) (.all)) (.fork (.all) (.fork (.all) (.all)))
noncomputable def parse2_t (s : List UInt8) (f j n i : Int) : Tree Stop :=
   .node (decide (i < (↑s.length : Int)))
 (.req (decide (0 ≤ i) && decide (i < (↑s.length : Int))) (.req (true) (.node (decide (n < IntKind.i64.wrap ((IntKind.i64.wrap (-9223372036854775808 + IntKind.i64.wrap (IntKind.u8.wrap ((bt s i) - 48)))).tdiv 10)))
    (.leaf (Stop.done (SV.tuple [I64 0, I64 3])))
    (.leaf (Stop.at (loopOf Try.prog 51 1) 77 (slotsS 77 [(0, SV.str s), (4, I64 f), (5, I64 j), (6, I64 (IntKind.i64.wrap (IntKind.i64.wrap (10 * n) - IntKind.i64.wrap (IntKind.u8.wrap ((bt s i) - 48))))), (7, I64 (IntKind.i64.wrap (i + 1)))]) [])))))
 (.node (f == 1)
  (.leaf (Stop.done (SV.tuple [I64 n, I64 0])))
  (.node (n == -9223372036854775808)
   (.leaf (Stop.done (SV.tuple [I64 0, I64 3])))
   (.leaf (Stop.done (SV.tuple [I64 (IntKind.i64.wrap (0 - n)), I64 0])))))
theorem parse2 (s : List UInt8) (f j n i : Int) : segR (Env.of Try.prog (sumOf [])) 1000 (fnOf Try.prog 51) .unit (keepS 77 [0,4,5,6,7]) (loopOf Try.prog 51 1) parse2_p (slotsS 77 [(0, .str s), (4, I64 f), (5, I64 j), (6, I64 n), (7, I64 i)]) [] = parse2_t s f j n i := by kernel_rfl
end Go.Proofs.Ytibpodgdondakaa
