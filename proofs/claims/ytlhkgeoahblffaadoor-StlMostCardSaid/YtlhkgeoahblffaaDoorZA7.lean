/-
  N2: the segments of the readers and writers of numbers. Written by gen.py.
  N3: numbers and their texts (numport.py).
  GX: the segments of the parser of texts. Written by gen.py.
  Sx34: contracts of functions with boxes of their caller's, for facts: in a memory of just these boxes, and one flat box among others.
  H: the parser's next line and its end: contracts, and facts of them.
  GI: the segments of the parser's word and vertex. Written by gen.py.
-/
import Derived.Test.YtlhkgeoahblffaaDoorZA6
set_option linter.unusedSimpArgs false
set_option linter.unusedVariables false
set_option maxRecDepth 100000
namespace Go.Proofs.YtlhkgeoahblffaaDoor
open Go.Sx
def fmt0_p : Plan := .fork (.all) (.all)
noncomputable def fmt0_t (n : Int) : Tree Stop :=
   .node (decide (n < 0))
 (.req (true) (.req (true) (.leaf (Stop.at (loopOf Tryd.prog 29 0) 58 (slotsS 58 [(0, I64 n), (3, SV.int IntKind.u64 (IntKind.u64.wrap ((IntKind.u64.wrap (0 - IntKind.u64.wrap n)).tdiv 10))), (4, SV.arr 0 0 1), (5, SV.undef), (6, SV.undef)]) [some (Box.cells [SV.int IntKind.u8 (IntKind.u8.wrap (IntKind.u64.wrap (48 + (IntKind.u64.wrap (0 - IntKind.u64.wrap n)).tmod 10)))])]))))
 (.req (true) (.req (true) (.leaf (Stop.at (loopOf Tryd.prog 29 0) 58 (slotsS 58 [(0, I64 n), (3, SV.int IntKind.u64 (IntKind.u64.wrap ((IntKind.u64.wrap n).tdiv 10))), (4, SV.arr 0 0 1), (5, SV.undef), (6, SV.undef)]) [some (Box.cells [SV.int IntKind.u8 (IntKind.u8.wrap (IntKind.u64.wrap (48 + (IntKind.u64.wrap n).tmod 10)))])]))))
theorem fmt0 (n : Int) : segR (Env.of Tryd.prog (sumOf [])) 1000 (fnOf Tryd.prog 29) .unit (keepS 58 [0,3,4,5,6]) (codeS Tryd.prog 29) fmt0_p (startS Tryd.prog 29 [I64 n]) [] = fmt0_t n := by kernel_rfl
def fmt1a_p : Plan := .fork (.lit (.all)) (.fork (.lit (.all)) (.all))
noncomputable def fmt1a_t (n u d : Int) : Tree Stop :=
   .node (decide (u > 0))
 (.req (true) (.req (decide (([d].length + [IntKind.u8.wrap (IntKind.u64.wrap (48 + u.tmod 10))].length) * 1 ≤ 140737488355328)) (.req (true) (.leaf (Stop.at (loopOf Tryd.prog 29 0) 58 (slotsS 58 [(0, I64 n), (3, SV.int IntKind.u64 (IntKind.u64.wrap (u.tdiv 10))), (4, SV.row 0), (5, SV.undef), (6, SV.undef)]) [some (Box.rows (Ty.int IntKind.u8) ([d] ++ [IntKind.u8.wrap (IntKind.u64.wrap (48 + u.tmod 10))]))])))))
 (.node (decide (n < 0))
  (.req (decide (([d].length + 1) * 1 ≤ 140737488355328)) (.leaf (Stop.at (loopOf Tryd.prog 29 1) 58 (slotsS 58 [(0, I64 n), (3, SV.int IntKind.u64 u), (4, SV.row 0), (5, I64 0), (6, I64 (IntKind.i64.wrap (↑([d] ++ [45]).length - 1)))]) [some (Box.rows (Ty.int IntKind.u8) ([d] ++ [45]))])))
  (.leaf (Stop.at (loopOf Tryd.prog 29 1) 58 (slotsS 58 [(0, I64 n), (3, SV.int IntKind.u64 u), (4, SV.arr 0 0 1), (5, I64 0), (6, I64 0)]) [some (Box.cells [SV.int IntKind.u8 d])])))
theorem fmt1a (n u d : Int) : segR (Env.of Tryd.prog (sumOf [])) 1000 (fnOf Tryd.prog 29) .unit (keepS 58 [0,3,4,5,6]) (loopOf Tryd.prog 29 0) fmt1a_p (slotsS 58 [(0, I64 n), (3, .int .u64 u), (4, .arr 0 0 1), (5, .undef), (6, .undef)]) [some (.cells [.int .u8 d])] = fmt1a_t n u d := by kernel_rfl
def fmt1_p : Plan := .fork (.all) (.fork (.all) (.all))
noncomputable def fmt1_t (n u : Int) (l : List Int) : Tree Stop :=
   .node (decide (u > 0))
 (.req (true) (.req (decide ((l.length + [IntKind.u8.wrap (IntKind.u64.wrap (48 + u.tmod 10))].length) * 1 ≤ 140737488355328)) (.req (true) (.leaf (Stop.at (loopOf Tryd.prog 29 0) 58 (slotsS 58 [(0, I64 n), (3, SV.int IntKind.u64 (IntKind.u64.wrap (u.tdiv 10))), (4, SV.row 0), (5, SV.undef), (6, SV.undef)]) [some (Box.rows (Ty.int IntKind.u8) (l ++ [IntKind.u8.wrap (IntKind.u64.wrap (48 + u.tmod 10))]))])))))
 (.node (decide (n < 0))
  (.req (decide ((l.length + 1) * 1 ≤ 140737488355328)) (.leaf (Stop.at (loopOf Tryd.prog 29 1) 58 (slotsS 58 [(0, I64 n), (3, SV.int IntKind.u64 u), (4, SV.row 0), (5, I64 0), (6, I64 (IntKind.i64.wrap (↑(l ++ [45]).length - 1)))]) [some (Box.rows (Ty.int IntKind.u8) (l ++ [45]))])))
  (.leaf (Stop.at (loopOf Tryd.prog 29 1) 58 (slotsS 58 [(0, I64 n), (3, SV.int IntKind.u64 u), (4, SV.row 0), (5, I64 0), (6, I64 (IntKind.i64.wrap (↑l.length - 1)))]) [some (Box.rows (Ty.int IntKind.u8) l)])))
theorem fmt1 (n u : Int) (l : List Int) : segR (Env.of Tryd.prog (sumOf [])) 1000 (fnOf Tryd.prog 29) .unit (keepS 58 [0,3,4,5,6]) (loopOf Tryd.prog 29 0) fmt1_p (slotsS 58 [(0, I64 n), (3, .int .u64 u), (4, .row 0), (5, .undef), (6, .undef)]) [some (.rows (.int .u8) l)] = fmt1_t n u l := by kernel_rfl
def fmt2_p : Plan := .fork (.all) (.all)
noncomputable def fmt2_t (n u : Int) (l : List Int) (i k : Int) : Tree Stop :=
   .node (decide (i < k))
 (.req (decide (0 ≤ k) && decide (k < ↑l.length)) (.req (decide (k.toNat < l.length)) (.req (decide (0 ≤ i) && decide (i < ↑l.length)) (.req (decide (i.toNat < l.length)) (.req (decide (0 ≤ i) && decide (i < ↑l.length)) (.req (decide (i.toNat < l.length)) (.req (decide (0 ≤ k) && decide (k < ↑(l.set i.toNat (l.getD k.toNat 0)).length)) (.req (decide (k.toNat < (l.set i.toNat (l.getD k.toNat 0)).length)) (.leaf (Stop.at (loopOf Tryd.prog 29 1) 58 (slotsS 58 [(0, I64 n), (3, SV.int IntKind.u64 u), (4, SV.row 0), (5, I64 (IntKind.i64.wrap (i + 1))), (6, I64 (IntKind.i64.wrap (k - 1)))]) [some (Box.rows (Ty.int IntKind.u8) ((l.set i.toNat (l.getD k.toNat 0)).set k.toNat (l.getD i.toNat 0)))]))))))))))
 (.leaf (Stop.done (SV.str (List.map (fun n => UInt8.ofNat (Int.toNat n)) l))))
theorem fmt2 (n u : Int) (l : List Int) (i k : Int) : segR (Env.of Tryd.prog (sumOf [])) 1000 (fnOf Tryd.prog 29) .unit (keepS 58 [0,3,4,5,6]) (loopOf Tryd.prog 29 1) fmt2_p (slotsS 58 [(0, I64 n), (3, .int .u64 u), (4, .row 0), (5, I64 i), (6, I64 k)]) [some (.rows (.int .u8) l)] = fmt2_t n u l i k := by kernel_rfl
def fmt2a_p : Plan := .lit (.all)
noncomputable def fmt2a_t (n u d : Int) : Tree Stop :=
   .leaf (Stop.done (SV.str (List.map (fun n => UInt8.ofNat (Int.toNat n)) [d])))
theorem fmt2a (n u d : Int) : segR (Env.of Tryd.prog (sumOf [])) 1000 (fnOf Tryd.prog 29) .unit (keepS 58 [0,3,4,5,6]) (loopOf Tryd.prog 29 1) fmt2a_p (slotsS 58 [(0, I64 n), (3, .int .u64 u), (4, .arr 0 0 1), (5, I64 0), (6, I64 0)]) [some (.cells [.int .u8 d])] = fmt2a_t n u d := by kernel_rfl
def fmtR0_p : Plan := .fork (.all) (.all)
noncomputable def fmtR0_t (n : Int) : Tree Stop :=
   .node (decide (n < 0))
 (.leaf (Stop.at (loopOf Tryd.prog 53 0) 26 (slotsS 26 [(0, I64 n), (3, SV.str []), (4, SV.int IntKind.u64 (IntKind.u64.wrap (0 - IntKind.u64.wrap n))), (5, SV.bool true)]) []))
 (.leaf (Stop.at (loopOf Tryd.prog 53 0) 26 (slotsS 26 [(0, I64 n), (3, SV.str []), (4, SV.int IntKind.u64 (IntKind.u64.wrap n)), (5, SV.bool true)]) []))
theorem fmtR0 (n : Int) : segR (Env.of Tryd.prog (sumOf [])) 1000 (fnOf Tryd.prog 53) .unit (keepS 26 [0,3,4,5]) (codeS Tryd.prog 53) fmtR0_p (startS Tryd.prog 53 [I64 n]) [] = fmtR0_t n := by kernel_rfl
def fmtR1_p : Plan := .fork (.all) (.fork (.all) (.all))
noncomputable def fmtR1_t (n : Int) (s : List UInt8) (u : Int) (b : Bool) : Tree Stop :=
   .node (b)
 (.req (true) (.req (decide ((((List.map (fun n => UInt8.ofNat (Int.toNat n)) [IntKind.u8.wrap (IntKind.u64.wrap (48 + u.tmod 10))]).length + s.length : Nat) : Int) ≤ (9223372036854775807 : Int))) (.req (true) (.leaf (Stop.at (loopOf Tryd.prog 53 0) 26 (slotsS 26 [(0, I64 n), (3, SV.str (List.map (fun n => UInt8.ofNat (Int.toNat n)) [IntKind.u8.wrap (IntKind.u64.wrap (48 + u.tmod 10))] ++ s)), (4, SV.int IntKind.u64 (IntKind.u64.wrap (u.tdiv 10))), (5, SV.bool (decide (IntKind.u64.wrap (u.tdiv 10) > 0)))]) [])))))
 (.node (decide (n < 0))
  (.req (decide (((1 + s.length : Nat) : Int) ≤ (9223372036854775807 : Int))) (.leaf (Stop.done (SV.str ([45] ++ s)))))
  (.leaf (Stop.done (SV.str s))))
theorem fmtR1 (n : Int) (s : List UInt8) (u : Int) (b : Bool) : segR (Env.of Tryd.prog (sumOf [])) 1000 (fnOf Tryd.prog 53) .unit (keepS 26 [0,3,4,5]) (loopOf Tryd.prog 53 0) fmtR1_p (slotsS 26 [(0, I64 n), (3, .str s), (4, .int .u64 u), (5, .bool b)]) [] = fmtR1_t n s u b := by kernel_rfl
def np0_p : Plan := .fork (.lit (.lit (.lit (.fork (.all) (.all))))) (.lit (.lit (.lit (.lit (.all)))))
noncomputable def np0_t (s : List UInt8) : Tree Stop :=
   .node (decide ((↑s.length : Int) > 0))
 (.req (decide (0 < (↑s.length : Int))) (.node ((bt s 0) == 45)
   (.req (decide (1 ≤ (↑s.length : Int))) (.leaf (Stop.at (loopOf Tryd.prog 55 0) 99 (slotsS 99 [(4, SV.bool ((bt s 0) == 45)), (5, SV.str (List.drop 1 s)), (6, SV.bool (decide (((List.drop 1 s).length : Int) > 0))), (7, SV.bool false), (8, SV.int IntKind.u64 0), (9, I64 0)]) [])))
   (.leaf (Stop.at (loopOf Tryd.prog 55 0) 99 (slotsS 99 [(4, SV.bool ((bt s 0) == 45)), (5, SV.str s), (6, SV.bool (decide ((↑s.length : Int) > 0))), (7, SV.bool false), (8, SV.int IntKind.u64 0), (9, I64 0)]) []))))
 (.leaf (Stop.at (loopOf Tryd.prog 55 0) 99 (slotsS 99 [(4, SV.bool false), (5, SV.str s), (6, SV.bool (decide ((↑s.length : Int) > 0))), (7, SV.bool false), (8, SV.int IntKind.u64 0), (9, I64 0)]) []))
theorem np0 (s : List UInt8) : segR (Env.of Tryd.prog (sumOf [])) 1000 (fnOf Tryd.prog 55) .unit (keepS 99 [4,5,6,7,8,9]) (codeS Tryd.prog 55) np0_p (startS Tryd.prog 55 [.str s]) [] = np0_t s := by kernel_rfl
def np1_p : Plan := .fork (.fork (.lit (.lit (.lit (.lit (.lit (.lit (.lit (.lit (.lit (.lit (.lit (.all)))))))))))) (.lit (.lit (.fork (.lit (.lit (.lit (.lit (.lit (.lit (.lit (.lit (.all))))))))) (.lit (.lit (.fork (.lit (.lit (.lit (.lit (.fork (.lit (.fork (.lit (.lit (.lit (.lit (.lit (.lit (.lit (.lit (.lit (.all)))))))))) (.lit (.lit (.lit (.lit (.lit (.lit (.lit (.fork (.lit (.all)) (.fork (.lit (.lit (.lit (.lit (.lit (.lit (.lit (.lit (.all))))))))) (.lit (.lit (.lit (.lit (.lit (.lit (.lit (.fork (.all) (.all)))))))))))))))))))) (.lit (.lit (.lit (.lit (.lit (.lit (.fork (.lit (.lit (.lit (.lit (.lit (.lit (.lit (.lit (.all))))))))) (.lit (.lit (.lit (.lit (.lit (.lit (.lit (.fork (.all) (.all))))))))))))))))))))) (.lit (.lit (.lit (.lit (.lit (.lit (.lit (.lit (.lit (.lit (.lit (.fork (.lit (.lit (.lit (.lit (.lit (.lit (.lit (.lit (.all))))))))) (.lit (.lit (.lit (.lit (.lit (.lit (.lit (.fork (.all) (.all)))))))))))))))))))))))))))) (.fork (.all) (.fork (.lit (.lit (.lit (.lit (.lit (.lit (.lit (.lit (.all))))))))) (.lit (.lit (.fork (.lit (.lit (.lit (.lit (.lit (.all)))))) (.lit (.lit (.fork (.lit (.lit (.lit (.lit (.fork (.all) (.fork (.all) (.all))))))) (.lit (.lit (.lit (.lit (.lit (.fork (.all) (.all)))))))))))))))
noncomputable def np1_t (g : Bool) (d : List UInt8) (ok big : Bool) (u i : Int) : Tree Stop :=
   .node (decide (i < (↑d.length : Int)))
 (.req (decide (0 ≤ i) && decide (i < (↑d.length : Int))) (.node (decide ((bt d i) < 48))
   (.leaf (Stop.done (SV.tuple [I64 0, I64 5])))
   (.node (decide ((bt d i) > 57))
    (.leaf (Stop.done (SV.tuple [I64 0, I64 5])))
    (.node ((bt d i) == 48)
     (.node (i == 0)
      (.node (g)
       (.leaf (Stop.done (SV.tuple [I64 0, I64 5])))
       (.node (decide ((↑d.length : Int) > 1))
        (.leaf (Stop.done (SV.tuple [I64 0, I64 5])))
        (.node (big)
         (.leaf (Stop.at (loopOf Tryd.prog 55 0) 99 (slotsS 99 [(4, SV.bool g), (5, SV.str d), (6, SV.bool ok), (7, SV.bool true), (8, SV.int IntKind.u64 u), (9, I64 (IntKind.i64.wrap (i + 1)))]) []))
         (.req (true) (.node (decide (u > IntKind.u64.wrap ((IntKind.u64.wrap (18446744073709551615 - IntKind.u64.wrap (IntKind.u8.wrap ((bt d i) - 48)))).tdiv 10)))
           (.leaf (Stop.at (loopOf Tryd.prog 55 0) 99 (slotsS 99 [(4, SV.bool g), (5, SV.str d), (6, SV.bool ok), (7, SV.bool true), (8, SV.int IntKind.u64 u), (9, I64 (IntKind.i64.wrap (i + 1)))]) []))
           (.leaf (Stop.at (loopOf Tryd.prog 55 0) 99 (slotsS 99 [(4, SV.bool g), (5, SV.str d), (6, SV.bool ok), (7, SV.bool big), (8, SV.int IntKind.u64 (IntKind.u64.wrap (IntKind.u64.wrap (10 * u) + IntKind.u64.wrap (IntKind.u8.wrap ((bt d i) - 48))))), (9, I64 (IntKind.i64.wrap (i + 1)))]) [])))))))
      (.node (big)
       (.leaf (Stop.at (loopOf Tryd.prog 55 0) 99 (slotsS 99 [(4, SV.bool g), (5, SV.str d), (6, SV.bool ok), (7, SV.bool true), (8, SV.int IntKind.u64 u), (9, I64 (IntKind.i64.wrap (i + 1)))]) []))
       (.req (true) (.node (decide (u > IntKind.u64.wrap ((IntKind.u64.wrap (18446744073709551615 - IntKind.u64.wrap (IntKind.u8.wrap ((bt d i) - 48)))).tdiv 10)))
         (.leaf (Stop.at (loopOf Tryd.prog 55 0) 99 (slotsS 99 [(4, SV.bool g), (5, SV.str d), (6, SV.bool ok), (7, SV.bool true), (8, SV.int IntKind.u64 u), (9, I64 (IntKind.i64.wrap (i + 1)))]) []))
         (.leaf (Stop.at (loopOf Tryd.prog 55 0) 99 (slotsS 99 [(4, SV.bool g), (5, SV.str d), (6, SV.bool ok), (7, SV.bool big), (8, SV.int IntKind.u64 (IntKind.u64.wrap (IntKind.u64.wrap (10 * u) + IntKind.u64.wrap (IntKind.u8.wrap ((bt d i) - 48))))), (9, I64 (IntKind.i64.wrap (i + 1)))]) []))))))
     (.node (big)
      (.leaf (Stop.at (loopOf Tryd.prog 55 0) 99 (slotsS 99 [(4, SV.bool g), (5, SV.str d), (6, SV.bool ok), (7, SV.bool true), (8, SV.int IntKind.u64 u), (9, I64 (IntKind.i64.wrap (i + 1)))]) []))
      (.req (true) (.node (decide (u > IntKind.u64.wrap ((IntKind.u64.wrap (18446744073709551615 - IntKind.u64.wrap (IntKind.u8.wrap ((bt d i) - 48)))).tdiv 10)))
        (.leaf (Stop.at (loopOf Tryd.prog 55 0) 99 (slotsS 99 [(4, SV.bool g), (5, SV.str d), (6, SV.bool ok), (7, SV.bool true), (8, SV.int IntKind.u64 u), (9, I64 (IntKind.i64.wrap (i + 1)))]) []))
        (.leaf (Stop.at (loopOf Tryd.prog 55 0) 99 (slotsS 99 [(4, SV.bool g), (5, SV.str d), (6, SV.bool ok), (7, SV.bool big), (8, SV.int IntKind.u64 (IntKind.u64.wrap (IntKind.u64.wrap (10 * u) + IntKind.u64.wrap (IntKind.u8.wrap ((bt d i) - 48))))), (9, I64 (IntKind.i64.wrap (i + 1)))]) [])))))))))
 (.node (!ok)
  (.leaf (Stop.done (SV.tuple [I64 0, I64 5])))
  (.node (big)
   (.leaf (Stop.done (SV.tuple [I64 0, I64 3])))
   (.node (decide (u > 9223372036854775808))
    (.leaf (Stop.done (SV.tuple [I64 0, I64 3])))
    (.node (u == 9223372036854775808)
     (.node (!g)
      (.leaf (Stop.done (SV.tuple [I64 0, I64 3])))
      (.node (g)
       (.leaf (Stop.done (SV.tuple [I64 (IntKind.i64.wrap (IntKind.u64.wrap (0 - u))), I64 0])))
       (.leaf (Stop.done (SV.tuple [I64 (IntKind.i64.wrap u), I64 0])))))
     (.node (g)
      (.leaf (Stop.done (SV.tuple [I64 (IntKind.i64.wrap (IntKind.u64.wrap (0 - u))), I64 0])))
      (.leaf (Stop.done (SV.tuple [I64 (IntKind.i64.wrap u), I64 0]))))))))
theorem np1 (g : Bool) (d : List UInt8) (ok big : Bool) (u i : Int) : segR (Env.of Tryd.prog (sumOf [])) 1000 (fnOf Tryd.prog 55) .unit (keepS 99 [4,5,6,7,8,9]) (loopOf Tryd.prog 55 0) np1_p (slotsS 99 [(4, .bool g), (5, .str d), (6, .bool ok), (7, .bool big), (8, .int .u64 u), (9, I64 i)]) [] = np1_t g d ok big u i := by kernel_rfl
def parse0_p : Plan := .fork (.lit (.lit (.lit (.fork (.fork (.lit (.lit (.lit (.lit (.lit (.lit (.lit (.all)))))))) (.lit (.lit (.lit (.lit (.fork (.lit (.lit (.lit (.lit (.lit (.fork (.all) (.all))))))) (.lit (.lit (.lit (.lit (.lit (.lit (.all))))))))))))) (.fork (.lit (.lit (.lit (.lit (.lit (.lit (.lit (.all)))))))) (.lit (.lit (.lit (.lit (.fork (.lit (.lit (.lit (.lit (.lit (.fork (.all) (.all))))))) (.lit (.lit (.lit (.lit (.lit (.lit (.all))))))))))))))))) (.lit (.lit (.lit (.lit (.fork (.lit (.lit (.lit (.lit (.lit (.lit (.lit (.all)))))))) (.lit (.lit (.lit (.lit (.fork (.lit (.lit (.lit (.lit (.lit (.fork (.all) (.all))))))) (.lit (.lit (.lit (.lit (.lit (.lit (.all)))))))))))))))))
noncomputable def parse0_t (s : List UInt8) : Tree Stop :=
   .node (decide ((↑s.length : Int) > 0))
 (.req (decide (0 < (↑s.length : Int))) (.node ((bt s 0) == 45)
   (.node ((↑s.length : Int) == 1)
    (.leaf (Stop.done (SV.tuple [I64 0, I64 5])))
    (.req (decide (1 < (↑s.length : Int))) (.node ((bt s 1) == 48)
      (.node (decide ((↑s.length : Int) > 1))
       (.leaf (Stop.done (SV.tuple [I64 0, I64 5])))
       (.leaf (Stop.at (loopOf Tryd.prog 83 0) 77 (slotsS 77 [(0, SV.str s), (4, I64 1), (5, I64 1), (6, SV.undef), (7, SV.undef)]) [])))
      (.leaf (Stop.at (loopOf Tryd.prog 83 0) 77 (slotsS 77 [(0, SV.str s), (4, I64 1), (5, I64 1), (6, SV.undef), (7, SV.undef)]) [])))))
   (.node ((↑s.length : Int) == 0)
    (.leaf (Stop.done (SV.tuple [I64 0, I64 5])))
    (.req (decide (0 < (↑s.length : Int))) (.node ((bt s 0) == 48)
      (.node (decide ((↑s.length : Int) > 1))
       (.leaf (Stop.done (SV.tuple [I64 0, I64 5])))
       (.leaf (Stop.at (loopOf Tryd.prog 83 0) 77 (slotsS 77 [(0, SV.str s), (4, I64 0), (5, I64 0), (6, SV.undef), (7, SV.undef)]) [])))
      (.leaf (Stop.at (loopOf Tryd.prog 83 0) 77 (slotsS 77 [(0, SV.str s), (4, I64 0), (5, I64 0), (6, SV.undef), (7, SV.undef)]) [])))))))
 (.node ((↑s.length : Int) == 0)
  (.leaf (Stop.done (SV.tuple [I64 0, I64 5])))
  (.req (decide (0 < (↑s.length : Int))) (.node ((bt s 0) == 48)
    (.node (decide ((↑s.length : Int) > 1))
     (.leaf (Stop.done (SV.tuple [I64 0, I64 5])))
     (.leaf (Stop.at (loopOf Tryd.prog 83 0) 77 (slotsS 77 [(0, SV.str s), (4, I64 0), (5, I64 0), (6, SV.undef), (7, SV.undef)]) [])))
    (.leaf (Stop.at (loopOf Tryd.prog 83 0) 77 (slotsS 77 [(0, SV.str s), (4, I64 0), (5, I64 0), (6, SV.undef), (7, SV.undef)]) [])))))
theorem parse0 (s : List UInt8) : segR (Env.of Tryd.prog (sumOf [])) 1000 (fnOf Tryd.prog 83) .unit (keepS 77 [0,4,5,6,7]) (codeS Tryd.prog 83) parse0_p (startS Tryd.prog 83 [.str s]) [] = parse0_t s := by kernel_rfl
def parse1_p : Plan := .fork (.fork (.lit (.lit (.lit (.lit (.lit (.all)))))) (.lit (.lit (.lit (.lit (.fork (.all) (.all))))))) (.all)
noncomputable def parse1_t (s : List UInt8) (f i : Int) : Tree Stop :=
   .node (decide (i < (↑s.length : Int)))
 (.req (decide (0 ≤ i) && decide (i < (↑s.length : Int))) (.node (decide ((bt s i) < 48))
   (.leaf (Stop.done (SV.tuple [I64 0, I64 5])))
   (.req (decide (0 ≤ i) && decide (i < (↑s.length : Int))) (.node (decide ((bt s i) > 57))
     (.leaf (Stop.done (SV.tuple [I64 0, I64 5])))
     (.leaf (Stop.at (loopOf Tryd.prog 83 0) 77 (slotsS 77 [(0, SV.str s), (4, I64 f), (5, I64 (IntKind.i64.wrap (i + 1))), (6, SV.undef), (7, SV.undef)]) []))))))
 (.leaf (Stop.at (loopOf Tryd.prog 83 1) 77 (slotsS 77 [(0, SV.str s), (4, I64 f), (5, I64 i), (6, I64 0), (7, I64 f)]) []))
theorem parse1 (s : List UInt8) (f i : Int) : segR (Env.of Tryd.prog (sumOf [])) 1000 (fnOf Tryd.prog 83) .unit (keepS 77 [0,4,5,6,7]) (loopOf Tryd.prog 83 0) parse1_p (slotsS 77 [(0, .str s), (4, I64 f), (5, I64 i), (6, .undef), (7, .undef)]) [] = parse1_t s f i := by kernel_rfl
def parse2_p : Plan := .fork (.fork (.all) (.all)) (.fork (.all) (.fork (.all) (.all)))
noncomputable def parse2_t (s : List UInt8) (f j n i : Int) : Tree Stop :=
   .node (decide (i < (↑s.length : Int)))
 (.req (decide (0 ≤ i) && decide (i < (↑s.length : Int))) (.req (true) (.node (decide (n < IntKind.i64.wrap ((IntKind.i64.wrap (-9223372036854775808 + IntKind.i64.wrap (IntKind.u8.wrap ((bt s i) - 48)))).tdiv 10)))
    (.leaf (Stop.done (SV.tuple [I64 0, I64 3])))
    (.leaf (Stop.at (loopOf Tryd.prog 83 1) 77 (slotsS 77 [(0, SV.str s), (4, I64 f), (5, I64 j), (6, I64 (IntKind.i64.wrap (IntKind.i64.wrap (10 * n) - IntKind.i64.wrap (IntKind.u8.wrap ((bt s i) - 48))))), (7, I64 (IntKind.i64.wrap (i + 1)))]) [])))))
 (.node (f == 1)
  (.leaf (Stop.done (SV.tuple [I64 n, I64 0])))
  (.node (n == -9223372036854775808)
   (.leaf (Stop.done (SV.tuple [I64 0, I64 3])))
   (.leaf (Stop.done (SV.tuple [I64 (IntKind.i64.wrap (0 - n)), I64 0])))))
theorem parse2 (s : List UInt8) (f j n i : Int) : segR (Env.of Tryd.prog (sumOf [])) 1000 (fnOf Tryd.prog 83) .unit (keepS 77 [0,4,5,6,7]) (loopOf Tryd.prog 83 1) parse2_p (slotsS 77 [(0, .str s), (4, I64 f), (5, I64 j), (6, I64 n), (7, I64 i)]) [] = parse2_t s f j n i := by kernel_rfl
end Go.Proofs.YtlhkgeoahblffaaDoor
set_option linter.unusedSimpArgs false
set_option linter.unusedVariables false
set_option maxRecDepth 100000
namespace Go.Proofs.YtlhkgeoahblffaaDoor
open Go.Sx

/-- The size of a number. -/
def size (n : Int) : Int := if n < 0 then IntKind.u64.wrap (0 - IntKind.u64.wrap n) else IntKind.u64.wrap n
/-- Its digits, the last one first (at most so many). -/
def rd : Nat → Int → List Int
  | 0, _ => []
  | k + 1, u => (48 + u % 10) :: if 0 < u / 10 then rd k (u / 10) else []
def toB (l : List Int) : List UInt8 := List.map (fun n => UInt8.ofNat (Int.toNat n)) l
def backs (n : Int) : List Int := rd 20 (size n) ++ if n < 0 then [45] else []
def fmt (n : Int) : List UInt8 := toB (backs n).reverse
theorem u64_def (n : Int) : IntKind.u64.wrap n = n % 18446744073709551616 := by
  have h2 : IntKind.wrap .u64 n = if false && decide (n % 18446744073709551616 ≥ 9223372036854775808) then n % 18446744073709551616 - 18446744073709551616 else n % 18446744073709551616 := rfl
  rw [h2]; simp
theorem u64_id {n : Int} (h : 0 ≤ n) (h2 : n < 18446744073709551616) : IntKind.u64.wrap n = n := by rw [u64_def]; omega
theorem size_range (n : Int) : 0 ≤ size n ∧ size n < 18446744073709551616 := by
  unfold size
  split <;> rw [u64_def] <;> omega
theorem u8_id {n : Int} (h : 0 ≤ n) (h2 : n < 256) : IntKind.u8.wrap n = n := by
  have h3 : IntKind.wrap .u8 n = if false && decide (n % 256 ≥ 128) then n % 256 - 256 else n % 256 := rfl
  rw [h3]
  simp only [Bool.false_and, Bool.false_eq_true, if_false]
  omega
theorem digit {u : Int} (h : 0 ≤ u) : IntKind.u8.wrap (IntKind.u64.wrap (48 + u.tmod 10)) = 48 + u % 10 := by
  rw [Int.tmod_eq_emod_of_nonneg h, u64_id (by omega) (by omega), u8_id (by omega) (by omega)]
theorem tenth {u : Int} (h : 0 ≤ u) (h2 : u < 18446744073709551616) : IntKind.u64.wrap (u.tdiv 10) = u / 10 := by
  rw [Int.tdiv_eq_ediv_of_nonneg h, u64_id (by omega) (by omega)]
theorem rd_len : ∀ (k : Nat) (u : Int), (rd k u).length ≤ k
  | 0, _ => Nat.le_refl _
  | k + 1, u => by
    unfold rd
    have := rd_len k (u / 10)
    split <;> simp <;> omega
theorem backs_len (n : Int) : (backs n).length ≤ 21 ∧ 0 < (backs n).length := by
  have := rd_len 20 (size n)
  unfold backs
  constructor
  · split <;> simp <;> omega
  · unfold rd; simp
structure S2 where
  u : Int
  l : List Int
  i : Int
  k : Int
def turned (E l : List Int) (i k : Int) : Prop := l.length = E.length ∧ 0 ≤ i ∧ i + k = (E.length : Int) - 1 ∧ ∀ j : Nat, j < E.length → l.getD j 0 = if (j : Int) < i ∨ k < j then E.getD (E.length - 1 - j) 0 else E.getD j 0
theorem getD_set (l : List Int) (a : Nat) (v : Int) (j : Nat) (h : a < l.length) : (l.set a v).getD j 0 = if j = a then v else l.getD j 0 := by
  rw [List.getD_eq_getElem?_getD, List.getElem?_set, List.getD_eq_getElem?_getD]
  by_cases hj : j = a
  · subst hj; simp [h]
  · rw [if_neg (Ne.symm hj), if_neg hj]
theorem turned_step {E l : List Int} {i k : Int} (h : turned E l i k) (hik : i < k) : turned E ((l.set i.toNat (l.getD k.toNat 0)).set k.toNat (l.getD i.toNat 0)) (i + 1) (k - 1) := by
  obtain ⟨h1, h2, h3, h4⟩ := h
  refine ⟨by simp [h1], by omega, by omega, fun j hj => ?_⟩
  rw [getD_set _ _ _ _ (by simp; omega), getD_set _ _ _ _ (by omega)]
  have hk := h4 k.toNat (by omega)
  have hi := h4 i.toNat (by omega)
  rw [if_neg (by omega)] at hk hi
  by_cases c1 : j = k.toNat
  · rw [if_pos c1, if_pos (by omega), hi]
    congr 1; omega
  · rw [if_neg c1]
    by_cases c2 : j = i.toNat
    · rw [if_pos c2, if_pos (by omega), hk]
      congr 1; omega
    · rw [if_neg c2, h4 j hj]
      by_cases c3 : (j : Int) < i ∨ k < j
      · rw [if_pos c3, if_pos (by omega)]
      · rw [if_neg c3, if_neg (by omega)]
theorem turned_end {E l : List Int} {i k : Int} (h : turned E l i k) (hik : k ≤ i) : l = E.reverse := by
  obtain ⟨h1, h2, h3, h4⟩ := h
  refine List.ext_getElem? fun j => ?_
  by_cases hj : j < E.length
  · have := h4 j hj
    rw [List.getD_eq_getElem?_getD, List.getElem?_eq_getElem (by omega)] at this
    rw [List.getElem?_eq_getElem (by omega), List.getElem?_reverse hj, List.getElem?_eq_getElem (by omega)]
    congr 1
    simp only [Option.getD_some] at this
    rw [this]
    by_cases c : (j : Int) < i ∨ k < j
    · rw [if_pos c, List.getD_eq_getElem?_getD, List.getElem?_eq_getElem (by omega)]; rfl
    · rw [if_neg c, List.getD_eq_getElem?_getD, List.getElem?_eq_getElem (by omega)]
      simp only [Option.getD_some]
      congr 1; omega
  · rw [List.getElem?_eq_none (by omega), List.getElem?_eq_none (by simp; omega)]
theorem fmt2_leaves {n u : Int} {l E : List Int} {i k : Int} (h : turned E l i k) (hE : E.length ≤ 21) (Q : Stop → Prop) (q1 : Q (.done (.str (toB E.reverse))))
    (q2 : ∀ l' , turned E l' (i + 1) (k - 1) → i < k → Q (Stop.at (loopOf Tryd.prog 29 1) 58 (slotsS 58 [(0, I64 n), (3, SV.int IntKind.u64 u), (4, SV.row 0), (5, I64 (i + 1)), (6, I64 (k - 1))]) [some (Box.rows (Ty.int IntKind.u8) l')])) : (fmt2_t n u l i k).holds Q := by
  obtain ⟨h1, h2, h3, h4⟩ := id h
  have hd : ∀ j : Nat, l.getD j (Ty.dflt (Ty.int IntKind.u8)) = l.getD j 0 := fun _ => rfl
  unfold fmt2_t
  have hl1 : ∀ (j : Nat) (v : Int), (List.set l j v).length = l.length := fun j v => List.length_set
  simp only [Tree.holds, decide_eq_true_eq, decide_eq_false_iff_not, Bool.and_eq_true]
  refine ⟨fun hik => ?_, fun hik => ?_⟩
  · have e := q2 _ (turned_step h hik) hik
    rw [wrap64 (by omega) (by omega), wrap64 (by omega) (by omega)]
    have hs : (List.set (α := Int) l i.toNat (l.getD k.toNat 0)).length = l.length := List.length_set
    refine ⟨⟨by omega, by omega⟩, by omega, ⟨by omega, by omega⟩, by omega, ⟨by omega, by omega⟩, by omega, ⟨by omega, ?_⟩, ?_, e⟩
    · exact hs ▸ (by omega)
    · exact hs ▸ (by omega)
  · rw [turned_end h (by omega)]; exact q1
theorem fmt2_loop (n : Int) : ∀ s : S2, turned (backs n) s.l s.i s.k → RunsR Tryd.prog (fnOf Tryd.prog 29) (.str (fmt n)) (loopOf Tryd.prog 29 1) (slotsS 58 [(0, I64 n), (3, .int .u64 s.u), (4, .row 0), (5, I64 s.i), (6, I64 s.k)]) [some (.rows (.int .u8) s.l)] := by
  refine runsR_of (hK (l := []) trivial) (n := 1000) (hint := .unit) rfl (fun s : S2 => turned (backs n) s.l s.i s.k) (fun s => (s.k - s.i + 2).toNat) (keepS 58 [0, 3, 4, 5, 6]) (fun _ => loopOf Tryd.prog 29 1) (fun s => slotsS 58 [(0, I64 n), (3, .int .u64 s.u), (4, .row 0), (5, I64 s.i), (6, I64 s.k)]) (fun s => [some (.rows (.int .u8) s.l)]) (fun _ => fmt2_p) fun s hs => ?_
  rw [fmt2]
  refine fmt2_leaves hs (backs_len n).1 _ rfl fun l' hl hik => ?_
  refine ⟨slotsS_len _ _, .inl ⟨⟨s.u, l', s.i + 1, s.k - 1⟩, hl, ?_, rfl, rfl, rfl⟩⟩
  dsimp only; omega
theorem turned_start (E : List Int) : turned E E 0 ((E.length : Int) - 1) := by
  refine ⟨rfl, by omega, by omega, fun j hj => ?_⟩
  rw [if_neg (by omega)]
structure S1 where
  u : Int
  l : List Int
  k : Nat
def more (k : Nat) (u : Int) : List Int := if 0 < u then rd k u else []
def S1.inv (n : Int) (s : S1) : Prop := 0 ≤ s.u ∧ s.u < 10 ^ s.k ∧ s.k ≤ 19 ∧ s.l ++ more s.k s.u = rd 20 (size n)
theorem more_step {k : Nat} {u : Int} (h : 0 < u) (hk : u < 10 ^ k) : ∃ k', k = k' + 1 ∧ more k u = (48 + u % 10) :: more k' (u / 10) ∧ u / 10 < 10 ^ k' := by
  cases k with
  | zero => simp at hk; omega
  | succ k =>
    refine ⟨k, rfl, ?_, ?_⟩
    · unfold more; rw [if_pos h]; rfl
    · rw [Int.pow_succ] at hk; omega
theorem pow_le19 {k : Nat} (h : k ≤ 19) : (10 : Int) ^ k ≤ 10000000000000000000 := by
  have : (10 : Int) ^ k ≤ 10 ^ 19 := by
    exact_mod_cast Nat.pow_le_pow_right (by omega) h
  omega
theorem inv_len {n : Int} {s : S1} (h : s.inv n) : s.l.length ≤ 20 := by
  have := congrArg List.length h.2.2.2
  have h2 := rd_len 20 (size n)
  rw [List.length_append] at this
  omega
theorem fmt1_loop (n : Int) : ∀ s : S1, s.inv n → 0 < s.l.length → RunsR Tryd.prog (fnOf Tryd.prog 29) (.str (fmt n)) (loopOf Tryd.prog 29 0) (slotsS 58 [(0, I64 n), (3, .int .u64 s.u), (4, .row 0), (5, .undef), (6, .undef)]) [some (.rows (.int .u8) s.l)] := by
  intro s hs hpos
  refine runsR_of (hK (l := []) trivial) (n := 1000) (hint := .unit) rfl (fun s : S1 => s.inv n ∧ 0 < s.l.length) (fun s => s.u.toNat) (keepS 58 [0, 3, 4, 5, 6]) (fun _ => loopOf Tryd.prog 29 0) (fun s => slotsS 58 [(0, I64 n), (3, .int .u64 s.u), (4, .row 0), (5, .undef), (6, .undef)]) (fun s => [some (.rows (.int .u8) s.l)]) (fun _ => fmt1_p) (fun s hs => ?_) s ⟨hs, hpos⟩
  obtain ⟨hs, hpos⟩ := hs
  have hlen := inv_len hs
  obtain ⟨u, l, k⟩ := s
  obtain ⟨h0, hk, hk19, hl⟩ := hs
  dsimp only at h0 hk hk19 hl hlen hpos ⊢
  have h19 := pow_le19 hk19
  rw [fmt1]
  unfold fmt1_t
  rw [digit h0, tenth h0 (by omega)]
  simp only [Tree.holds, decide_eq_true_eq, decide_eq_false_iff_not]
  refine ⟨fun hu => ⟨by decide, ?_, by decide, slotsS_len _ _, .inl ?_⟩, fun hu => ⟨fun hn => ⟨?_, slotsS_len _ _, .inr ?_⟩, fun hn => ⟨slotsS_len _ _, .inr ?_⟩⟩⟩
  · simp; omega
  · obtain ⟨k', rfl, hm, hk'⟩ := more_step hu hk
    refine ⟨⟨u / 10, l ++ [48 + u % 10], k'⟩, ⟨⟨by dsimp only; omega, hk', by dsimp only; omega, ?_⟩, by simp⟩, ?_, by trivial, rfl, rfl⟩
    · dsimp only; rw [← hl, hm]; simp
    · dsimp only; omega
  · simp; omega
  · have hb : l ++ [45] = backs n := by
      unfold backs; rw [if_pos hn, ← hl]; unfold more; rw [if_neg hu]; simp
    have hln : ((List.length (α := Int) (l ++ [45]) : Nat) : Int) = (l.length : Int) + 1 := by simp
    have := fmt2_loop n ⟨u, l ++ [45], 0, ((backs n).length : Int) - 1⟩ (by rw [hb]; exact turned_start _)
    rw [← hb] at this
    rw [wrap64 (by omega) (by omega)]
    exact this
  · have hb : l = backs n := by
      unfold backs; rw [if_neg hn, ← hl]; unfold more; rw [if_neg hu]; simp
    have := fmt2_loop n ⟨u, l, 0, ((backs n).length : Int) - 1⟩ (by rw [hb]; exact turned_start _)
    rw [← hb] at this
    rw [wrap64 (by omega) (by omega)]
    exact this
theorem pow19 : (10 : Int) ^ 19 = 10000000000000000000 := by decide
theorem fmt2a_runs (n u d : Int) (h : backs n = [d]) : RunsR Tryd.prog (fnOf Tryd.prog 29) (.str (fmt n)) (loopOf Tryd.prog 29 1) (slotsS 58 [(0, I64 n), (3, .int .u64 u), (4, .arr 0 0 1), (5, I64 0), (6, I64 0)]) [some (.cells [.int .u8 d])] := by
  refine runsR_seg (hK (l := []) trivial) (n := 1000) (hint := .unit) (keep := keepS 58 [0, 3, 4, 5, 6]) (p := fmt2a_p) rfl ?_
  rw [fmt2a]
  unfold fmt2a_t fmt
  rw [h]
  first | exact rfl | (simp only [Tree.holds]; exact rfl)
theorem fmt1a_runs (n u d : Int) (h0 : 0 ≤ u) (hu : u < 10 ^ 19) (h : [d] ++ more 19 u = rd 20 (size n)) : RunsR Tryd.prog (fnOf Tryd.prog 29) (.str (fmt n)) (loopOf Tryd.prog 29 0) (slotsS 58 [(0, I64 n), (3, .int .u64 u), (4, .arr 0 0 1), (5, .undef), (6, .undef)]) [some (.cells [.int .u8 d])] := by
  refine runsR_seg (hK (l := []) trivial) (n := 1000) (hint := .unit) (keep := keepS 58 [0, 3, 4, 5, 6]) (p := fmt1a_p) rfl ?_
  rw [fmt1a]
  unfold fmt1a_t
  have h19 := pow19
  rw [digit h0, tenth h0 (by omega)]
  simp only [Tree.holds, decide_eq_true_eq, decide_eq_false_iff_not, Bool.and_eq_true]
  refine ⟨fun hp => ⟨by decide, by simp, by decide, slotsS_len _ _, ?_⟩, fun hp => ⟨fun hn => ⟨by simp, slotsS_len _ _, ?_⟩, fun hn => ⟨slotsS_len _ _, ?_⟩⟩⟩
  · obtain ⟨k', hk, hm, hk'⟩ := more_step hp hu
    obtain rfl : k' = 18 := by omega
    refine fmt1_loop n ⟨u / 10, [d] ++ [48 + u % 10], 18⟩ ⟨by dsimp only; omega, hk', by dsimp only; omega, ?_⟩ (by simp)
    dsimp only; rw [← h, hm]; simp
  · have hb : [d] ++ [45] = backs n := by
      unfold backs; rw [if_pos hn, ← h]; unfold more; rw [if_neg hp]; simp
    have := fmt2_loop n ⟨u, [d] ++ [45], 0, ((backs n).length : Int) - 1⟩ (by rw [hb]; exact turned_start _)
    rw [← hb] at this
    exact this
  · exact fmt2a_runs n u d (by unfold backs; rw [if_neg hn, ← h]; unfold more; rw [if_neg hp]; simp)
theorem s_fmt (n : Int) : SCall Tryd.prog 29 [I64 n] (.str (fmt n)) := by
  refine scallR_loops rfl rfl (by kernel_rfl) (runsR_seg (hK (l := []) trivial) (n := 1000) (hint := .unit) (keep := keepS 58 [0, 3, 4, 5, 6]) (p := fmt0_p) (boxes := []) rfl ?_)
  have e := fmt0 n
  unfold startS codeS at e
  erw [e]
  unfold fmt0_t
  have hr := size_range n
  have key : ∀ u, size n = u → RunsR Tryd.prog (fnOf Tryd.prog 29) (.str (fmt n)) (loopOf Tryd.prog 29 0) (slotsS 58 [(0, I64 n), (3, .int .u64 (IntKind.u64.wrap (u.tdiv 10))), (4, .arr 0 0 1), (5, .undef), (6, .undef)]) [some (.cells [.int .u8 (IntKind.u8.wrap (IntKind.u64.wrap (48 + u.tmod 10)))])] := by
    intro u hu
    rw [hu] at hr
    have h19 := pow19
    rw [digit hr.1, tenth hr.1 hr.2]
    refine fmt1a_runs n _ _ (by omega) (by omega) ?_
    rw [hu]; rfl
  simp only [Tree.holds, decide_eq_true_eq, decide_eq_false_iff_not]
  refine ⟨fun h => ⟨by decide, by decide, slotsS_len _ _, key _ (by unfold size; rw [if_pos h])⟩, fun h => ⟨by decide, by decide, slotsS_len _ _, key _ (by unfold size; rw [if_neg h])⟩⟩
structure SF where
  s : List UInt8
  u : Int
  b : Bool
  k : Nat
  P : List Int
def SF.inv (n : Int) (x : SF) : Prop := 0 ≤ x.u ∧ x.u < 10 ^ x.k ∧ x.u < 18446744073709551616 ∧ (x.b = true → 1 ≤ x.k) ∧ x.s = toB x.P.reverse ∧ x.P ++ (if x.b then rd x.k x.u else []) = rd 20 (size n)
theorem fmtR_loop (n : Int) : ∀ x : SF, x.inv n → RunsR Tryd.prog (fnOf Tryd.prog 53) (.str (fmt n)) (loopOf Tryd.prog 53 0) (slotsS 26 [(0, I64 n), (3, .str x.s), (4, .int .u64 x.u), (5, .bool x.b)]) [] := by
  refine runsR_of (hK (l := []) trivial) (n := 1000) (hint := .unit) rfl (fun x : SF => x.inv n) (fun x => x.k + (if x.b then 1 else 0)) (keepS 26 [0, 3, 4, 5]) (fun _ => loopOf Tryd.prog 53 0) (fun x => slotsS 26 [(0, I64 n), (3, .str x.s), (4, .int .u64 x.u), (5, .bool x.b)]) (fun x => []) (fun _ => fmtR1_p) (fun x hx => ?_)
  obtain ⟨s, u, b, k, P⟩ := x
  obtain ⟨h0, hk, h64, hb, hs, hP⟩ := hx
  dsimp only at h0 hk h64 hb hs hP ⊢
  have hPl : P.length ≤ 20 := by
    have := congrArg List.length hP
    have h2 := rd_len 20 (size n)
    rw [List.length_append] at this
    omega
  have hsl : s.length ≤ 20 := by rw [hs]; simpa [toB] using hPl
  rw [fmtR1]
  unfold fmtR1_t
  rw [digit h0, tenth h0 h64]
  simp only [Tree.holds, decide_eq_true_eq, decide_eq_false_iff_not]
  refine ⟨fun hbt => ⟨by decide, ?_, by decide, slotsS_len _ _, .inl ?_⟩, fun hbf => ⟨fun hn => ⟨?_, ?_⟩, fun hn => ?_⟩⟩
  · simp; omega
  · subst hbt
    obtain ⟨k', rfl⟩ : ∃ k', k = k' + 1 := ⟨k - 1, by have := hb rfl; omega⟩
    have hk2 : u / 10 < 10 ^ k' := by rw [Int.pow_succ] at hk; omega
    refine ⟨⟨_, u / 10, decide (u / 10 > 0), k', P ++ [48 + u % 10]⟩, ⟨by dsimp only; omega, hk2, by dsimp only; omega, fun hd => ?_, ?_, ?_⟩, ?_, by trivial, rfl, by trivial⟩
    · dsimp only at hd ⊢
      simp only [decide_eq_true_eq] at hd
      cases k' with
      | zero => simp at hk2; omega
      | succ k' => omega
    · dsimp only; rw [hs]; simp [toB]
    · dsimp only
      rw [← hP, if_pos rfl]
      have e : rd (k' + 1) u = (48 + u % 10) :: if 0 < u / 10 then rd k' (u / 10) else [] := rfl
      rw [e]
      simp only [decide_eq_true_eq, gt_iff_lt, List.append_assoc, List.singleton_append]
    · dsimp only
      simp
      split <;> omega
  · simp; omega
  · subst hbf
    show SV.str ([45] ++ s) = SV.str (fmt n)
    have : P = rd 20 (size n) := by rw [← hP]; simp
    rw [hs, this]
    unfold fmt backs
    rw [if_pos hn]
    simp [toB]
  · subst hbf
    show SV.str s = SV.str (fmt n)
    have : P = rd 20 (size n) := by rw [← hP]; simp
    rw [hs, this]
    unfold fmt backs
    rw [if_neg hn]
    simp [toB]
theorem s_fmtR (n : Int) : SCall Tryd.prog 53 [I64 n] (.str (fmt n)) := by
  refine scallR_loops rfl rfl (by kernel_rfl) (runsR_seg (hK (l := []) trivial) (n := 1000) (hint := .unit) (keep := keepS 26 [0, 3, 4, 5]) (p := fmtR0_p) (boxes := []) rfl ?_)
  have e := fmtR0 n
  unfold startS codeS at e
  erw [e]
  unfold fmtR0_t
  have hr := size_range n
  have key : ∀ u, size n = u → RunsR Tryd.prog (fnOf Tryd.prog 53) (.str (fmt n)) (loopOf Tryd.prog 53 0) (slotsS 26 [(0, I64 n), (3, .str []), (4, .int .u64 u), (5, .bool true)]) [] := by
    intro u hu
    rw [hu] at hr
    refine fmtR_loop n ⟨[], u, true, 20, []⟩ ⟨hr.1, ?_, hr.2, fun _ => by dsimp only; omega, rfl, ?_⟩
    · have : (10 : Int) ^ 20 = 100000000000000000000 := by decide
      dsimp only; omega
    · dsimp only; rw [hu]; simp
  simp only [Tree.holds, decide_eq_true_eq, decide_eq_false_iff_not]
  refine ⟨fun h => ⟨slotsS_len _ _, key _ (by unfold size; rw [if_pos h])⟩, fun h => ⟨slotsS_len _ _, key _ (by unfold size; rw [if_neg h])⟩⟩
def fFmt : Fact := factI 29 fun n => .leaf (.str (fmt n))
def fFmtR : Fact := factI 53 fun n => .leaf (.str (fmt n))
theorem o_fmt : fFmt.ok Tryd.prog := factI_ok s_fmt
theorem o_fmtR : fFmtR.ok Tryd.prog := factI_ok s_fmtR
theorem fmt_len (n : Int) : (fmt n).length ≤ 21 := by
  have := (backs_len n).1
  simpa [fmt, toB] using this
def dv : List Int → Int
  | [] => 0
  | d :: r => (d - 48) + 10 * dv r
theorem dv_rd : ∀ (k : Nat) (u : Int), 0 ≤ u → u < 10 ^ k → dv (rd k u) = u
  | 0, u, h0, hk => by simp at hk; have : u = 0 := by omega
                       subst this; rfl
  | k + 1, u, h0, hk => by
    unfold rd
    rw [Int.pow_succ] at hk
    split
    · rename_i h
      have := dv_rd k (u / 10) (by omega) (by omega)
      simp only [dv, this]; omega
    · simp only [dv]; omega
theorem rd_digits : ∀ (k : Nat) (u : Int), 0 ≤ u → ∀ d ∈ rd k u, 48 ≤ d ∧ d ≤ 57
  | 0, u, h0, d, hd => by cases hd
  | k + 1, u, h0, d, hd => by
    unfold rd at hd
    cases hd with
    | head => omega
    | tail _ hd =>
      split at hd
      · exact rd_digits k (u / 10) (by omega) d hd
      · cases hd
theorem backs_bytes (n : Int) : ∀ d ∈ backs n, 45 ≤ d ∧ d ≤ 57 := by
  intro d hd
  unfold backs at hd
  rcases List.mem_append.1 hd with hd | hd
  · have := rd_digits 20 _ (size_range n).1 d hd; omega
  · split at hd
    · simp at hd; omega
    · cases hd
theorem toB_inj : ∀ {l m : List Int}, (∀ d ∈ l, 45 ≤ d ∧ d ≤ 57) → (∀ d ∈ m, 45 ≤ d ∧ d ≤ 57) → toB l = toB m → l = m
  | [], [], _, _, _ => rfl
  | [], y :: m, _, _, h => by simp [toB] at h
  | x :: l, [], _, _, h => by simp [toB] at h
  | x :: l, y :: m, hl, hm, h => by
    simp only [toB, List.map_cons, List.cons.injEq] at h
    have hx := hl x List.mem_cons_self
    have hy := hm y List.mem_cons_self
    have h1 := congrArg UInt8.toNat h.1
    simp only [UInt8.toNat_ofNat'] at h1
    have : x = y := by omega
    subst this
    rw [toB_inj (fun d hd => hl d (List.mem_cons_of_mem _ hd)) (fun d hd => hm d (List.mem_cons_of_mem _ hd)) h.2]
theorem fmt_inj {m n : Int} (hm : -9223372036854775808 ≤ m ∧ m ≤ 9223372036854775807) (hn : -9223372036854775808 ≤ n ∧ n ≤ 9223372036854775807) (h : fmt m = fmt n) : m = n := by
  have hb : backs m = backs n := by
    have := toB_inj (l := (backs m).reverse) (m := (backs n).reverse) (fun d hd => backs_bytes m d (List.mem_reverse.1 hd)) (fun d hd => backs_bytes n d (List.mem_reverse.1 hd)) h
    exact List.reverse_inj.1 this
  have sm := size_range m
  have sn := size_range n
  have key : rd 20 (size m) = rd 20 (size n) → size m = size n := fun e => by
    have p : (10 : Int) ^ 20 = 100000000000000000000 := by decide
    have := congrArg dv e
    rwa [dv_rd 20 _ sm.1 (by omega), dv_rd 20 _ sn.1 (by omega)] at this
  unfold backs at hb
  by_cases h1 : m < 0 <;> by_cases h2 : n < 0
  · rw [if_pos h1, if_pos h2] at hb
    have := key (List.append_cancel_right hb)
    unfold size at this
    rw [if_pos h1, if_pos h2] at this
    simp only [u64_def] at this
    omega
  · rw [if_pos h1, if_neg h2, List.append_nil] at hb
    have : (45 : Int) ∈ rd 20 (size n) := by rw [← hb]; simp
    have := rd_digits 20 _ sn.1 _ this
    omega
  · rw [if_neg h1, if_pos h2, List.append_nil] at hb
    have : (45 : Int) ∈ rd 20 (size m) := by rw [hb]; simp
    have := rd_digits 20 _ sm.1 _ this
    omega
  · rw [if_neg h1, if_neg h2, List.append_nil, List.append_nil] at hb
    have := key hb
    unfold size at this
    rw [if_neg h1, if_neg h2] at this
    simp only [u64_def] at this
    omega
theorem toB_mem {l : List Int} {x : UInt8} (hl : ∀ d ∈ l, 45 ≤ d ∧ d ≤ 57) (h : x ∈ toB l) : x ≠ 32 := by
  obtain ⟨d, hd, rfl⟩ := List.mem_map.1 h
  have := hl d hd
  intro e
  have h1 := congrArg UInt8.toNat e
  simp only [UInt8.toNat_ofNat'] at h1
  have : (32 : UInt8).toNat = 32 := rfl
  omega
theorem fmt_nospace (n : Int) : ∀ x ∈ fmt n, x ≠ 32 := fun x hx => toB_mem (fun d hd => backs_bytes n d (List.mem_reverse.1 hd)) hx
theorem bt_get {s : List UInt8} {i : Int} (h0 : 0 ≤ i) (h : i < s.length) : ∃ b, s[i.toNat]? = some b ∧ bt s i = b.toNat := by
  have hl : i.toNat < s.length := by omega
  refine ⟨s[i.toNat], List.getElem?_eq_getElem hl, ?_⟩
  unfold bt
  rw [List.getD_eq_getElem?_getD, List.getElem?_eq_getElem hl]; rfl
theorem bt_drop {s : List UInt8} {i : Int} (h0 : 0 ≤ i) (h : i < s.length) : ∃ b, s.drop i.toNat = b :: s.drop (i + 1).toNat ∧ bt s i = b.toNat := by
  obtain ⟨b, h1, h2⟩ := bt_get h0 h
  have hl : i.toNat < s.length := by omega
  refine ⟨b, ?_, h2⟩
  rw [List.drop_eq_getElem_cons hl, show (i + 1).toNat = i.toNat + 1 by omega]
  rw [List.getElem?_eq_getElem hl] at h1
  injection h1 with h1
  rw [h1]
def isDig (b : UInt8) : Bool := decide (48 ≤ (b.toNat : Int)) && decide ((b.toNat : Int) ≤ 57)
def digs (l : List UInt8) : Bool := l.all isDig
def valF (n : Int) (l : List UInt8) : Int := l.foldl (fun n b => 10 * n + ((b.toNat : Int) - 48)) n
def val (l : List UInt8) : Int := valF 0 l
theorem isDig_iff {b : UInt8} : isDig b = true ↔ 48 ≤ (b.toNat : Int) ∧ (b.toNat : Int) ≤ 57 := by simp [isDig]
theorem valF_cons (n : Int) (b : UInt8) (l : List UInt8) : valF n (b :: l) = valF (10 * n + ((b.toNat : Int) - 48)) l := rfl
theorem valF_ge : ∀ (l : List UInt8) (n : Int), 0 ≤ n → digs l = true → n ≤ valF n l
  | [], n, _, _ => Int.le_refl n
  | b :: l, n, h, hd => by
    simp only [digs, List.all_cons, Bool.and_eq_true] at hd
    have := isDig_iff.1 hd.1
    rw [valF_cons]
    have := valF_ge l (10 * n + ((b.toNat : Int) - 48)) (by omega) hd.2
    omega
theorem getBang {s : List UInt8} {p : Nat} {b : UInt8} (h : s[p]? = some b) : (ByteArray.mk (Array.mk s)).get! p = b := by
  show (Array.mk s)[p]! = b
  have hl := (List.getElem?_eq_some_iff.1 h).1
  rw [getElem!_pos _ _ (by simpa using hl)]
  simpa using (List.getElem?_eq_some_iff.1 h).2
theorem decode_lo {s : List UInt8} {p : Nat} {b : UInt8} (h : s[p]? = some b) (hb : b.toNat < 128) : Utf8.decode (ByteArray.mk (Array.mk s)) p = (b.toNat, 1) := by
  have e : ((ByteArray.mk (Array.mk s)).get! (p + 0)).toNat = b.toNat := by rw [Nat.add_zero, getBang h]
  unfold Utf8.decode
  simp only [e]
  rw [if_pos hb]
theorem decode_hi {s : List UInt8} {p : Nat} {b : UInt8} (h : s[p]? = some b) (hb : 128 ≤ b.toNat) : 128 ≤ (Utf8.decode (ByteArray.mk (Array.mk s)) p).1 := by
  have e : ((ByteArray.mk (Array.mk s)).get! (p + 0)).toNat = b.toNat := by rw [Nat.add_zero, getBang h]
  unfold Utf8.decode
  simp only [e]
  rw [if_neg (by omega)]
  have re : Utf8.runeError = 65533 := rfl
  repeat' split
  all_goals first
    | (rw [re]; omega)
    | (rename_i hc; simp only [Bool.and_eq_true, decide_eq_true_eq, ge_iff_le] at hc; dsimp only; omega)
    | (rename_i hc; dsimp only; omega)
theorem bt0 {b : UInt8} {l : List UInt8} : bt (b :: l) 0 = b.toNat := rfl
theorem head48 {b : UInt8} : (b.toNat : Int) = 48 ↔ b = 48 := ⟨fun h => UInt8.toNat_inj.1 (by have : (48 : UInt8).toNat = 48 := rfl; omega), fun h => by subst h; rfl⟩
def least : Int := -9223372036854775808
/-- The negated number of digits, or none. -/
def pAcc : Int → List UInt8 → Option Int
  | n, [] => some n
  | n, b :: l => if n < (least + ((b.toNat : Int) - 48)).tdiv 10 then none else pAcc (10 * n - ((b.toNat : Int) - 48)) l
theorem pAcc_eq : ∀ (l : List UInt8) (n : Int), n ≤ 0 → least ≤ n → digs l = true → pAcc n l = if least ≤ -(valF (-n) l) then some (-(valF (-n) l)) else none
  | [], n, h0, h1, _ => by
    have : -(valF (-n) []) = n := by show -(-n) = n; omega
    rw [this, if_pos h1]; rfl
  | b :: l, n, h0, h1, hd => by
    simp only [digs, List.all_cons, Bool.and_eq_true] at hd
    have hb := isDig_iff.1 hd.1
    unfold pAcc
    rw [valF_cons]
    have e : 10 * -n + ((b.toNat : Int) - 48) = -(10 * n - ((b.toNat : Int) - 48)) := by omega
    rw [e]
    have ht : (least + ((b.toNat : Int) - 48)).tdiv 10 = -((-(least + ((b.toNat : Int) - 48))) / 10) := by
      rw [show least + ((b.toNat : Int) - 48) = -(-(least + ((b.toNat : Int) - 48))) by omega, Int.neg_tdiv, Int.tdiv_eq_ediv_of_nonneg (by unfold least; omega)]
      simp
    rw [ht]
    unfold least at h1 ht ⊢
    split
    · rename_i hlt
      rw [if_neg]
      have := valF_ge l (-(10 * n - ((b.toNat : Int) - 48))) (by omega) hd.2
      omega
    · rename_i hlt
      exact pAcc_eq l _ (by omega) (by unfold least; omega) hd.2
/-- Behind the digits. -/
def pEnd (f : Int) (o : Option Int) : Int × Int := match o with
  | none => (0, 3)
  | some n => if f = 1 then (n, 0) else if n = least then (0, 3) else (-n, 0)
def pRes (f : Int) (d : List UInt8) : Int × Int := if digs d then pEnd f (pAcc 0 d) else (0, 5)
def from_ (s : List UInt8) : Int := if s.head? = some 45 then 1 else 0
def parseV (s : List UInt8) : Int × Int :=
  if s.drop (from_ s).toNat = [] ∨ ((s.drop (from_ s).toNat).head? = some 48 ∧ 1 < s.length) then (0, 5) else pRes (from_ s) (s.drop (from_ s).toNat)
def pS (r : Int × Int) : SV := .tuple [I64 r.1, I64 r.2]
theorem pAcc_range : ∀ (l : List UInt8) (n : Int), n ≤ 0 → least ≤ n → digs l = true → ∀ m, pAcc n l = some m → m ≤ 0 ∧ least ≤ m := by
  intro l n h0 h1 hd m h
  rw [pAcc_eq l n h0 h1 hd] at h
  split at h
  · injection h with h
    have := valF_ge l (-n) (by omega) hd
    omega
  · cases h
structure SA where
  n : Int
  i : Int
theorem parse2_loop (s : List UInt8) (hs : small s = true) (f j : Int) (r : Int × Int) : ∀ a : SA, (0 ≤ a.i ∧ a.i ≤ s.length ∧ a.n ≤ 0 ∧ least ≤ a.n ∧ digs (s.drop a.i.toNat) = true ∧ r = pEnd f (pAcc a.n (s.drop a.i.toNat))) →
    RunsR Tryd.prog (fnOf Tryd.prog 83) (pS r) (loopOf Tryd.prog 83 1) (slotsS 77 [(0, .str s), (4, I64 f), (5, I64 j), (6, I64 a.n), (7, I64 a.i)]) [] := by
  rw [small_iff] at hs
  refine runsR_of (hK (l := []) trivial) (n := 1000) (hint := .unit) rfl (fun a : SA => 0 ≤ a.i ∧ a.i ≤ s.length ∧ a.n ≤ 0 ∧ least ≤ a.n ∧ digs (s.drop a.i.toNat) = true ∧ r = pEnd f (pAcc a.n (s.drop a.i.toNat))) (fun a => ((s.length : Int) - a.i).toNat) (keepS 77 [0, 4, 5, 6, 7]) (fun _ => loopOf Tryd.prog 83 1) (fun a => slotsS 77 [(0, .str s), (4, I64 f), (5, I64 j), (6, I64 a.n), (7, I64 a.i)]) (fun _ => []) (fun _ => parse2_p) fun a ha => ?_
  obtain ⟨n, i⟩ := a
  obtain ⟨h0, hl, hn, hn2, hd, hr⟩ := ha
  dsimp only at h0 hl hn hn2 hd hr ⊢
  rw [parse2]
  unfold parse2_t
  simp only [Tree.holds, decide_eq_true_eq, decide_eq_false_iff_not, Bool.and_eq_true, beq_iff_eq, beq_eq_false_iff_ne]
  refine ⟨fun h => ?_, fun h => ?_⟩
  · obtain ⟨b, h1, h2⟩ := bt_drop h0 h
    rw [h1] at hd hr
    simp only [digs, List.all_cons, Bool.and_eq_true] at hd
    have hb := isDig_iff.1 hd.1
    have hu : IntKind.u8.wrap ((b.toNat : Int) - 48) = (b.toNat : Int) - 48 := u8_id (by omega) (by omega)
    unfold pAcc at hr
    rw [h2, hu, wrap64 (x := (b.toNat : Int) - 48) (by omega) (by omega), wrap64 (x := -9223372036854775808 + ((b.toNat : Int) - 48)) (by omega) (by omega)]
    have ht : (least + ((b.toNat : Int) - 48)).tdiv 10 = -((-(least + ((b.toNat : Int) - 48))) / 10) := by
      rw [show least + ((b.toNat : Int) - 48) = -(-(least + ((b.toNat : Int) - 48))) by omega, Int.neg_tdiv, Int.tdiv_eq_ediv_of_nonneg (by unfold least; omega)]
      simp
    have ht' : (-9223372036854775808 + ((b.toNat : Int) - 48)).tdiv 10 = -((9223372036854775808 - ((b.toNat : Int) - 48)) / 10) := by
      have e : (-9223372036854775808 + ((b.toNat : Int) - 48)) = least + ((b.toNat : Int) - 48) := rfl
      rw [e, ht]
      unfold least
      congr 2
      omega
    rw [ht', wrap64 (x := -((9223372036854775808 - ((b.toNat : Int) - 48)) / 10)) (by omega) (by omega)]
    have ht2 : (least + ((b.toNat : Int) - 48)).tdiv 10 = -((9223372036854775808 - ((b.toNat : Int) - 48)) / 10) := ht'
    rw [ht2] at hr
    refine ⟨⟨h0, h⟩, by decide, fun c => ?_, fun c => ⟨slotsS_len _ _, .inl ?_⟩⟩
    · rw [if_pos c] at hr
      rw [hr]; rfl
    · rw [if_neg c] at hr
      unfold least at hn2
      rw [wrap64 (x := 10 * n) (by omega) (by omega), wrap64 (by omega) (by omega), wrap64 (by omega) (by omega)]
      exact ⟨⟨10 * n - ((b.toNat : Int) - 48), i + 1⟩, ⟨by dsimp only; omega, by dsimp only; omega, by dsimp only; omega, by dsimp only; unfold least; omega, hd.2, hr⟩, by dsimp only; omega, by trivial, rfl, by trivial⟩
  · have : s.drop i.toNat = [] := List.drop_eq_nil_of_le (by omega)
    rw [this] at hr
    unfold least at hn2
    refine ⟨fun c => ?_, fun c => ⟨fun c2 => ?_, fun c2 => ?_⟩⟩
    · rw [hr]; subst c; rfl
    · rw [hr]; subst c2; simp only [pAcc, pEnd]; rw [if_neg c, show least = -9223372036854775808 from rfl, if_pos rfl]; rfl
    · rw [hr]; simp only [pAcc, pEnd]; rw [if_neg c, show least = -9223372036854775808 from rfl, if_neg c2, wrap64 (by omega) (by omega)]
      show SV.tuple [I64 (0 - n), I64 0] = SV.tuple [I64 (-n), I64 0]
      rw [Int.zero_sub]
theorem parse1_loop (s : List UInt8) (hs : small s = true) (f : Int) (hf : 0 ≤ f ∧ f ≤ s.length) (r : Int × Int) : ∀ i : Int, (f ≤ i ∧ i ≤ s.length ∧ (∀ p : Nat, f ≤ p → (p : Int) < i → ∀ b, s[p]? = some b → isDig b = true) ∧ r = pRes f (s.drop f.toNat)) →
    RunsR Tryd.prog (fnOf Tryd.prog 83) (pS r) (loopOf Tryd.prog 83 0) (slotsS 77 [(0, .str s), (4, I64 f), (5, I64 i), (6, .undef), (7, .undef)]) [] := by
  have hs' := small_iff.1 hs
  refine runsR_of (hK (l := []) trivial) (n := 1000) (hint := .unit) rfl (fun i : Int => f ≤ i ∧ i ≤ s.length ∧ (∀ p : Nat, f ≤ p → (p : Int) < i → ∀ b, s[p]? = some b → isDig b = true) ∧ r = pRes f (s.drop f.toNat)) (fun i => ((s.length : Int) - i).toNat) (keepS 77 [0, 4, 5, 6, 7]) (fun _ => loopOf Tryd.prog 83 0) (fun i => slotsS 77 [(0, .str s), (4, I64 f), (5, I64 i), (6, .undef), (7, .undef)]) (fun _ => []) (fun _ => parse1_p) fun i hi => ?_
  obtain ⟨h0, hl, hp, hr⟩ := hi
  rw [parse1]
  unfold parse1_t
  simp only [Tree.holds, decide_eq_true_eq, decide_eq_false_iff_not, Bool.and_eq_true]
  have inDigs : digs (s.drop f.toNat) = true ↔ ∀ p : Nat, f ≤ p → ∀ b, s[p]? = some b → isDig b = true := by
    simp only [digs, List.all_eq_true]
    constructor
    · intro h p hp b hb
      refine h b (List.mem_of_getElem? (i := p - f.toNat) ?_)
      rw [List.getElem?_drop, show f.toNat + (p - f.toNat) = p by omega]; exact hb
    · intro h b hb
      obtain ⟨k, hk⟩ := List.getElem?_of_mem hb
      rw [List.getElem?_drop] at hk
      exact h _ (by omega) b hk
  refine ⟨fun h => ?_, fun h => ⟨slotsS_len _ _, .inr ?_⟩⟩
  · obtain ⟨b, h1, h2⟩ := bt_get (s := s) (i := i) (by omega) h
    have bad : isDig b = false → SV.tuple [I64 0, I64 5] = pS r := fun hb => by
      rw [hr]; unfold pRes
      rw [if_neg]
      · rfl
      · intro hd
        have := inDigs.1 hd i.toNat (by omega) b h1
        rw [hb] at this; cases this
    rw [h2]
    refine ⟨⟨by omega, h⟩, fun c1 => bad ?_, fun c1 => ⟨⟨by omega, h⟩, fun c2 => bad ?_, fun c2 => ⟨slotsS_len _ _, .inl ?_⟩⟩⟩
    · rw [← Bool.not_eq_true, isDig_iff]; omega
    · rw [← Bool.not_eq_true, isDig_iff]; omega
    · rw [wrap64 (by omega) (by omega)]
      refine ⟨i + 1, ⟨by omega, by omega, fun p hp1 hp2 b' hb' => ?_, hr⟩, by omega, by trivial, rfl, by trivial⟩
      by_cases hpi : (p : Int) < i
      · exact hp p hp1 hpi b' hb'
      · have : p = i.toNat := by omega
        subst this
        rw [h1] at hb'; injection hb' with hb'; subst hb'
        rw [isDig_iff]; omega
  · have hd : digs (s.drop f.toNat) = true := inDigs.2 fun p hp1 b hb => hp p hp1 (by have := (List.getElem?_eq_some_iff.1 hb).1; omega) b hb
    unfold pRes at hr
    rw [if_pos hd] at hr
    exact parse2_loop s hs f i r ⟨0, f⟩ ⟨hf.1, hf.2, by dsimp only; omega, by dsimp only; unfold least; omega, hd, hr⟩
theorem s_parse (s : List UInt8) (hs : small s = true) : SCall Tryd.prog 83 [.str s] (pS (parseV s)) := by
  refine scallR_loops rfl rfl (by kernel_rfl) (runsR_seg (hK (l := []) trivial) (n := 1000) (hint := .unit) (keep := keepS 77 [0, 4, 5, 6, 7]) (p := parse0_p) (boxes := []) rfl ?_)
  have e := parse0 s
  unfold startS codeS at e
  erw [e]
  unfold parse0_t
  have go : ∀ f : Int, from_ s = f → (f = 0 ∨ f = 1) → f < s.length → ¬ ((s.drop f.toNat).head? = some 48 ∧ 1 < s.length) → RunsR Tryd.prog (fnOf Tryd.prog 83) (pS (parseV s)) (loopOf Tryd.prog 83 0) (slotsS 77 [(0, .str s), (4, I64 f), (5, I64 f), (6, .undef), (7, .undef)]) [] := by
    intro f hf h01 hlt hh
    refine parse1_loop s hs f (by omega) _ f ⟨Int.le_refl _, by omega, fun p h1 h2 => by omega, ?_⟩
    unfold parseV
    rw [hf, if_neg]
    rintro (h | h)
    · have := congrArg List.length h
      rw [List.length_drop] at this
      simp at this; omega
    · exact hh h
  have bad : ∀ f : Int, from_ s = f → (s.drop f.toNat = [] ∨ ((s.drop f.toNat).head? = some 48 ∧ 1 < s.length)) → SV.tuple [I64 0, I64 5] = pS (parseV s) := by
    intro f hf h
    unfold parseV
    rw [hf, if_pos h]; rfl
  have hh : ∀ i : Int, 0 ≤ i → i < s.length → ((s.drop i.toNat).head? = some 48 ↔ bt s i = 48) := by
    intro i h0 h
    obtain ⟨b, h1, h2⟩ := bt_drop h0 h
    rw [h1, h2, head48]
    simp
  have h45 : 0 < s.length → (s.head? = some 45 ↔ bt s 0 = 45) := by
    intro h
    obtain ⟨b, h1, h2⟩ := bt_drop (s := s) (i := 0) (by omega) (by omega)
    have h1 : s = b :: s.drop 1 := h1
    rw [h2]
    rw [h1]
    simp only [List.head?_cons, Option.some.injEq]
    have e45 : (45 : UInt8).toNat = 45 := rfl
    exact ⟨fun h => by rw [h]; rfl, fun h => UInt8.toNat_inj.1 (by omega)⟩
  simp only [Tree.holds, decide_eq_true_eq, decide_eq_false_iff_not, Bool.and_eq_true, beq_iff_eq, beq_eq_false_iff_ne, true_and]
  refine ⟨fun hp => ⟨by omega, fun c => ?_, fun c => ?_⟩, fun hp => ?_⟩
  · have hf : from_ s = 1 := by unfold from_; rw [if_pos ((h45 (by omega)).2 c)]
    refine ⟨fun h1 => bad 1 hf (.inl (List.drop_eq_nil_of_le (by omega))), fun h1 => ⟨by omega, fun h2 => ⟨fun h3 => ?_, fun h3 => by omega⟩, fun h2 => ⟨slotsS_len _ _, ?_⟩⟩⟩
    · exact bad 1 hf (.inr ⟨(hh 1 (by omega) (by omega)).2 h2, by omega⟩)
    · exact go 1 hf (.inr rfl) (by omega) (fun h => h2 ((hh 1 (by omega) (by omega)).1 h.1))
  · have hf : from_ s = 0 := by unfold from_; rw [if_neg (fun h => c ((h45 (by omega)).1 h))]
    refine ⟨fun h1 => by omega, fun h1 => ⟨by omega, fun h2 => ⟨fun h3 => ?_, fun h3 => ⟨slotsS_len _ _, ?_⟩⟩, fun h2 => ⟨slotsS_len _ _, ?_⟩⟩⟩
    · exact bad 0 hf (.inr ⟨(hh 0 (by omega) (by omega)).2 h2, by omega⟩)
    · exact go 0 hf (.inl rfl) (by omega) (fun h => by omega)
    · exact go 0 hf (.inl rfl) (by omega) (fun h => h2 ((hh 0 (by omega) (by omega)).1 h.1))
  · have hnil : s = [] := List.eq_nil_of_length_eq_zero (by omega)
    subst hnil
    exact ⟨fun _ => rfl, fun h => absurd rfl h⟩
theorem val_pos {b : UInt8} {l : List UInt8} (hb : isDig b = true) (h48 : b ≠ 48) (hd : digs l = true) : 1 ≤ val (b :: l) := by
  have h1 := isDig_iff.1 hb
  have h2 : (b.toNat : Int) ≠ 48 := fun h => h48 (head48.1 h)
  unfold val
  rw [valF_cons]
  have := valF_ge l (10 * 0 + ((b.toNat : Int) - 48)) (by omega) hd
  omega
/-- The end: a value with its sign, or none. -/
def fin (g : Bool) (v : Int) : Int × Int :=
  if v > 9223372036854775808 then (0, 3) else if v = 9223372036854775808 then (if g then (-9223372036854775808, 0) else (0, 3)) else if g then (-v, 0) else (v, 0)
def leadB (g : Bool) (d : List UInt8) (i : Int) : Bool := decide (i = 0) && ((bt d 0 == 48) && (g || decide (1 < (d.length : Int))))
def npR (g : Bool) (d : List UInt8) (ok big : Bool) (u i : Int) : Int × Int :=
  if ok = true ∧ digs (d.drop i.toNat) = true ∧ leadB g d i = false then (if big then (0, 3) else fin g (valF u (d.drop i.toNat))) else (0, 5)
theorem i64_def (x : Int) : IntKind.i64.wrap x = if x % 18446744073709551616 ≥ 9223372036854775808 then x % 18446744073709551616 - 18446744073709551616 else x % 18446744073709551616 := by
  have h3 : IntKind.wrap .i64 x = if true && decide (x % 18446744073709551616 ≥ 9223372036854775808) then x % 18446744073709551616 - 18446744073709551616 else x % 18446744073709551616 := rfl
  rw [h3]; simp
theorem wneg {u : Int} (h0 : 0 ≤ u) (h1 : u ≤ 9223372036854775808) : IntKind.i64.wrap (IntKind.u64.wrap (0 - u)) = -u := by
  rw [u64_def, i64_def]
  split <;> omega
structure NP where
  big : Bool
  u : Int
  i : Int
def NP.inv (g : Bool) (d : List UInt8) (ok : Bool) (r : Int × Int) (a : NP) : Prop := 0 ≤ a.i ∧ a.i ≤ d.length ∧ 0 ≤ a.u ∧ a.u < 18446744073709551616 ∧ r = npR g d ok a.big a.u a.i
theorem np_loop (g : Bool) (d : List UInt8) (hs : small d = true) (ok : Bool) (r : Int × Int) : ∀ a : NP, a.inv g d ok r → RunsR Tryd.prog (fnOf Tryd.prog 55) (pS r) (loopOf Tryd.prog 55 0) (slotsS 99 [(4, .bool g), (5, .str d), (6, .bool ok), (7, .bool a.big), (8, .int .u64 a.u), (9, I64 a.i)]) [] := by
  refine runsR_of (hK (l := []) trivial) (n := 1000) (hint := .unit) rfl (fun a : NP => a.inv g d ok r) (fun a => (d.length - a.i).toNat) (keepS 99 [4, 5, 6, 7, 8, 9]) (fun _ => loopOf Tryd.prog 55 0) (fun a => slotsS 99 [(4, .bool g), (5, .str d), (6, .bool ok), (7, .bool a.big), (8, .int .u64 a.u), (9, I64 a.i)]) (fun _ => []) (fun _ => np1_p) fun a ha => ?_
  have hl := small_iff.1 hs
  obtain ⟨big, u, i⟩ := a
  obtain ⟨h0, h1, hu0, hu1, hr⟩ := ha
  dsimp only at h0 h1 hu0 hu1 hr ⊢
  rw [np1]
  unfold np1_t
  by_cases hi : i < d.length
  · obtain ⟨b, hb, hbt⟩ := bt_drop h0 hi
    have hb8 := b.toNat_lt
    have hc : digs (d.drop i.toNat) = (isDig b && digs (d.drop (i + 1).toNat)) := by rw [hb]; rfl
    have hv : valF u (d.drop i.toNat) = valF (10 * u + ((b.toNat : Int) - 48)) (d.drop (i + 1).toNat) := by rw [hb]; rfl
    have hl1 : leadB g d (i + 1) = false := by unfold leadB; rw [decide_eq_false (by omega)]; rfl
    have hw8 : isDig b = true → IntKind.u8.wrap ((b.toNat : Int) - 48) = (b.toNat : Int) - 48 := fun h => by rw [isDig_iff] at h; exact u8_id (by omega) (by omega)
    -- the common end of the three ways to the last test
    have go : isDig b = true → leadB g d i = false → (Tree.node big
        (.leaf (Stop.at (loopOf Tryd.prog 55 0) 99 (slotsS 99 [(4, SV.bool g), (5, SV.str d), (6, SV.bool ok), (7, SV.bool true), (8, SV.int IntKind.u64 u), (9, I64 (IntKind.i64.wrap (i + 1)))]) []))
        (.req (true) (.node (decide (u > IntKind.u64.wrap ((IntKind.u64.wrap (18446744073709551615 - IntKind.u64.wrap (IntKind.u8.wrap ((bt d i) - 48)))).tdiv 10)))
          (.leaf (Stop.at (loopOf Tryd.prog 55 0) 99 (slotsS 99 [(4, SV.bool g), (5, SV.str d), (6, SV.bool ok), (7, SV.bool true), (8, SV.int IntKind.u64 u), (9, I64 (IntKind.i64.wrap (i + 1)))]) []))
          (.leaf (Stop.at (loopOf Tryd.prog 55 0) 99 (slotsS 99 [(4, SV.bool g), (5, SV.str d), (6, SV.bool ok), (7, SV.bool big), (8, SV.int IntKind.u64 (IntKind.u64.wrap (IntKind.u64.wrap (10 * u) + IntKind.u64.wrap (IntKind.u8.wrap ((bt d i) - 48))))), (9, I64 (IntKind.i64.wrap (i + 1)))]) []))))).holds
        (fun o => match o with
          | .done v' => v' = pS r
          | .at items' size slots' boxes' => slots'.length = size ∧ ((∃ s' : NP, s'.inv g d ok r ∧ (d.length - s'.i).toNat < (d.length - i).toNat ∧ items' = loopOf Tryd.prog 55 0 ∧ slots' = slotsS 99 [(4, .bool g), (5, .str d), (6, .bool ok), (7, .bool s'.big), (8, .int .u64 s'.u), (9, I64 s'.i)] ∧ boxes' = []) ∨ RunsR Tryd.prog (fnOf Tryd.prog 55) (pS r) items' slots' boxes')) := by
      intro hdig hlead
      have hd := isDig_iff.1 hdig
      rw [hbt, hw8 hdig, wrap64 (by omega) (by omega)]
      unfold npR at hr
      rw [hc, hdig, hlead, hv] at hr
      refine ⟨fun hbig => ⟨slotsS_len _ _, .inl ⟨⟨true, u, i + 1⟩, ⟨by dsimp only; omega, by dsimp only; omega, hu0, hu1, ?_⟩, by dsimp only; omega, rfl, rfl, rfl⟩⟩, fun hbig => ⟨rfl, fun c => ⟨slotsS_len _ _, .inl ⟨⟨true, u, i + 1⟩, ⟨by dsimp only; omega, by dsimp only; omega, hu0, hu1, ?_⟩, by dsimp only; omega, rfl, rfl, rfl⟩⟩, fun c => ⟨slotsS_len _ _, .inl ⟨⟨big, 10 * u + ((b.toNat : Int) - 48), i + 1⟩, ⟨by dsimp only; omega, by dsimp only; omega, ?_, ?_, ?_⟩, by dsimp only; omega, rfl, ?_, rfl⟩⟩⟩⟩
      · dsimp only
        unfold npR
        rw [hl1, hr, hbig]
        simp
      · have c := of_decide_eq_true c
        rw [u64_id (n := (b.toNat : Int) - 48) (by omega) (by omega), u64_id (n := 18446744073709551615 - ((b.toNat : Int) - 48)) (by omega) (by omega)] at c
        rw [tenth (by omega) (by omega)] at c
        dsimp only
        unfold npR
        rw [hl1, hr, hbig]
        by_cases hdd : digs (d.drop (i + 1).toNat) = true
        · have := valF_ge (d.drop (i + 1).toNat) (10 * u + ((b.toNat : Int) - 48)) (by omega) hdd
          have e : fin g (valF (10 * u + ((b.toNat : Int) - 48)) (d.drop (i + 1).toNat)) = (0, 3) := by
            unfold fin; rw [if_pos (by omega)]
          simp [e]
        · have hdd : digs (d.drop (i + 1).toNat) = false := by simpa using hdd
          simp [hdd]
      · dsimp only; omega
      · have c := of_decide_eq_false c
        rw [u64_id (n := (b.toNat : Int) - 48) (by omega) (by omega), u64_id (n := 18446744073709551615 - ((b.toNat : Int) - 48)) (by omega) (by omega)] at c
        rw [tenth (by omega) (by omega)] at c
        dsimp only; omega
      · dsimp only
        unfold npR
        rw [hl1, hr]
        simp
      · have c := of_decide_eq_false c
        rw [u64_id (n := (b.toNat : Int) - 48) (by omega) (by omega), u64_id (n := 18446744073709551615 - ((b.toNat : Int) - 48)) (by omega) (by omega)] at c
        rw [tenth (by omega) (by omega)] at c
        rw [u64_id (n := (b.toNat : Int) - 48) (by omega) (by omega), u64_id (n := 10 * u) (by omega) (by omega), u64_id (by omega) (by omega)]
    have nd : isDig b = false → r = (0, 5) := fun h => by rw [hr]; unfold npR; rw [hc, h]; simp
    have ld : leadB g d i = true → r = (0, 5) := fun h => by rw [hr]; unfold npR; rw [h]; simp
    have ndig : ∀ x : Bool, (x = true → isDig b = false) → isDig b = true → x = false := fun x h1 h2 => by
      cases x with
      | false => rfl
      | true => rw [h1 rfl] at h2; cases h2
    refine ⟨fun _ => ⟨by simp; omega, fun c => ?_, fun c => ⟨fun c2 => ?_, fun c2 => ?_⟩⟩, fun c => absurd hi (of_decide_eq_false c)⟩
    · have c := of_decide_eq_true c
      rw [nd (by rcases Bool.eq_false_or_eq_true (isDig b) with e | e
                 · rw [isDig_iff] at e; omega
                 · exact e)]; rfl
    · have c2 := of_decide_eq_true c2
      rw [nd (by rcases Bool.eq_false_or_eq_true (isDig b) with e | e
                 · rw [isDig_iff] at e; omega
                 · exact e)]; rfl
    · have c := of_decide_eq_false c
      have c2 := of_decide_eq_false c2
      have hdig : isDig b = true := by rw [isDig_iff]; omega
      refine ⟨fun c3 => ⟨fun c4 => ⟨fun c5 => ?_, fun c5 => ⟨fun c6 => ?_, fun c6 => ?_⟩⟩, fun c4 => ?_⟩, fun c3 => ?_⟩
      · have c4 : i = 0 := by simpa using c4
        subst c4
        rw [ld (by unfold leadB; rw [c3, c5]; rfl)]; rfl
      · have c4 : i = 0 := by simpa using c4
        subst c4
        have c6 := of_decide_eq_true c6
        rw [ld (by unfold leadB; rw [c3, decide_eq_true c6]; simp)]; rfl
      · have c6 := of_decide_eq_false c6
        refine go hdig ?_
        have e1 : decide (1 < (d.length : Int)) = false := decide_eq_false (by omega)
        unfold leadB; rw [c5, e1]; simp
      · refine go hdig ?_
        unfold leadB; rw [decide_eq_false (by simpa using c4)]; rfl
      · refine go hdig ?_
        unfold leadB
        by_cases e : i = 0
        · subst e; rw [c3]; simp
        · rw [decide_eq_false e]; rfl
  · have hn : d.drop i.toNat = [] := List.drop_eq_nil_of_le (by omega)
    have hlead : ok = true → leadB g d i = false := fun _ => by
      unfold leadB
      by_cases e : i = 0
      · have : d = [] := List.eq_nil_of_length_eq_zero (by omega)
        rw [this]; simp; intro _ hh; exact absurd hh (by decide)
      · rw [decide_eq_false e]; rfl
    refine ⟨fun c => absurd (of_decide_eq_true c) hi, fun _ => ⟨fun c => ?_, fun c => ?_⟩⟩
    · have c : ok = false := by simpa using c
      rw [hr]; unfold npR; rw [c]; rfl
    · have c : ok = true := by simpa using c
      have hr : r = if big then (0, 3) else fin g u := by
        rw [hr]; unfold npR; rw [hn, hlead c, c]; simp [digs, valF]
      refine ⟨fun c2 => by rw [hr, c2]; rfl, fun c2 => ?_⟩
      rw [c2] at hr
      have hr : r = fin g u := hr
      unfold fin at hr
      refine ⟨fun c3 => ?_, fun c3 => ?_⟩
      · rw [if_pos (of_decide_eq_true c3)] at hr; rw [hr]; rfl
      · have c3 := of_decide_eq_false c3
        rw [if_neg c3] at hr
        refine ⟨fun c4 => ?_, fun c4 => ?_⟩
        · have c4 : u = 9223372036854775808 := by simpa using c4
          rw [if_pos c4] at hr
          refine ⟨fun c5 => ?_, fun c5 => ⟨fun c6 => ?_, fun c6 => ?_⟩⟩
          · have c5 : g = false := by simpa using c5
            rw [c5] at hr; rw [hr]; rfl
          · rw [c6] at hr
            rw [wneg hu0 (by omega), c4, hr]; rfl
          · rw [c6] at c5; cases c5
        · have c4 : ¬ u = 9223372036854775808 := by simpa using c4
          rw [if_neg c4] at hr
          refine ⟨fun c6 => ?_, fun c6 => ?_⟩
          · rw [c6] at hr
            rw [wneg hu0 (by omega), hr]; rfl
          · rw [c6] at hr
            rw [wrap64 (by omega) (by omega), hr]; rfl
/-- The first digit (the last of the list) is none, but for 0. -/
theorem rd_last : ∀ (k : Nat) (u : Int), 0 < u → u < 10 ^ k → ∃ d, (rd k u).getLast? = some d ∧ d ≠ 48
  | 0, u, h0, hk => by simp at hk; omega
  | k + 1, u, h0, hk => by
    unfold rd
    rw [Int.pow_succ] at hk
    split
    · rename_i h
      obtain ⟨d, h1, h2⟩ := rd_last k (u / 10) (by omega) (by omega)
      refine ⟨d, ?_, h2⟩
      rw [List.getLast?_cons, h1]; rfl
    · exact ⟨48 + u % 10, rfl, by omega⟩
theorem toB_toNat {d : Int} (h : 48 ≤ d ∧ d ≤ 57) : ((UInt8.ofNat d.toNat).toNat : Int) = d := by
  rw [UInt8.toNat_ofNat']; omega
theorem digs_toB {l : List Int} (h : ∀ d ∈ l, 48 ≤ d ∧ d ≤ 57) : digs (toB l) = true := by
  simp only [digs, toB, List.all_eq_true]
  intro b hb
  obtain ⟨d, hd, rfl⟩ := List.mem_map.1 hb
  rw [isDig_iff, toB_toNat (h d hd)]
  exact h d hd
theorem val_toB : ∀ {l : List Int}, (∀ d ∈ l, 48 ≤ d ∧ d ≤ 57) → val (toB l.reverse) = dv l
  | [], _ => rfl
  | d :: l, h => by
    have ih := val_toB (l := l) fun x hx => h x (List.mem_cons_of_mem _ hx)
    have e : toB (d :: l).reverse = toB l.reverse ++ [UInt8.ofNat d.toNat] := by simp [toB]
    rw [e]
    unfold val valF at ih ⊢
    rw [List.foldl_append, ih]
    simp only [List.foldl_cons, List.foldl_nil]
    rw [toB_toNat (h d List.mem_cons_self), dv]
    omega
theorem size_pos {n : Int} (h0 : 0 ≤ n) (h1 : n ≤ 9223372036854775807) : size n = n := by
  unfold size
  rw [if_neg (by omega), u64_id h0 (by omega)]
theorem fmt_pos {n : Int} (h0 : 0 ≤ n) (h1 : n ≤ 9223372036854775807) : fmt n = toB (rd 20 n).reverse := by
  unfold fmt backs
  rw [size_pos h0 h1, if_neg (by omega), List.append_nil]
theorem p20 : (10 : Int) ^ 20 = 100000000000000000000 := by decide
theorem dv_nonneg : ∀ (l : List Int), (∀ d ∈ l, 48 ≤ d ∧ d ≤ 57) → 0 ≤ dv l
  | [], _ => Int.le_refl 0
  | d :: r, h => by
    have := dv_nonneg r fun x hx => h x (List.mem_cons_of_mem _ hx)
    have := h d List.mem_cons_self
    simp only [dv]; omega
theorem dv_big : ∀ (l : List Int), l ≠ [] → (∀ d ∈ l, 48 ≤ d ∧ d ≤ 57) → l.getLast? ≠ some 48 → (10 : Int) ^ (l.length - 1) ≤ dv l
  | [], h, _, _ => absurd rfl h
  | [d], _, h, hl => by
    have := h d List.mem_cons_self
    have : d ≠ 48 := fun e => hl (by rw [e]; rfl)
    simp only [dv, List.length_singleton, Nat.sub_self, Int.pow_zero]; omega
  | d :: e :: r, _, h, hl => by
    have ih := dv_big (e :: r) (by simp) (fun x hx => h x (List.mem_cons_of_mem _ hx)) (by rw [List.getLast?_cons_cons] at hl; exact hl)
    have := h d List.mem_cons_self
    have hp : (10 : Int) ^ ((d :: e :: r).length - 1) = 10 ^ ((e :: r).length - 1) * 10 := by
      rw [← Int.pow_succ]; rfl
    rw [hp, dv]; omega
theorem rd_dv : ∀ (k : Nat) (l : List Int), l ≠ [] → (∀ d ∈ l, 48 ≤ d ∧ d ≤ 57) → l.length ≤ k → (l.length = 1 ∨ l.getLast? ≠ some 48) → rd k (dv l) = l
  | 0, l, h, _, hk, _ => absurd (List.eq_nil_of_length_eq_zero (by omega)) h
  | k + 1, [], h, _, _, _ => absurd rfl h
  | k + 1, [d], _, h, _, _ => by
    have := h d List.mem_cons_self
    have hdv : dv [d] = (d - 48) + 10 * 0 := rfl
    rw [hdv]
    unfold rd
    rw [if_neg (by omega), show 48 + (d - 48 + 10 * 0) % 10 = d by omega]
  | k + 1, d :: e :: r, _, h, hk, hl => by
    have hd := h d List.mem_cons_self
    have hl : (e :: r).getLast? ≠ some 48 := by
      rcases hl with hl | hl
      · simp at hl
      · rw [List.getLast?_cons_cons] at hl; exact hl
    have hr : ∀ d ∈ e :: r, 48 ≤ d ∧ d ≤ 57 := fun x hx => h x (List.mem_cons_of_mem _ hx)
    have hb := dv_big (e :: r) (by simp) hr hl
    have hp : (0 : Int) < 10 ^ ((e :: r).length - 1) := Int.pow_pos (by decide)
    have ih := rd_dv k (e :: r) (by simp) hr (by simp only [List.length_cons] at hk ⊢; omega) (.inr hl)
    have hdv : dv (d :: e :: r) = (d - 48) + 10 * dv (e :: r) := rfl
    generalize dv (e :: r) = v at *
    rw [hdv]
    unfold rd
    rw [show (d - 48 + 10 * v) / 10 = v by omega, show 48 + (d - 48 + 10 * v) % 10 = d by omega, if_pos (by omega), ih]
theorem p19 : (10 : Int) ^ 19 = 10000000000000000000 := by decide
def lead0 (s : List UInt8) : Bool := (s.head? == some 48) && decide (1 < s.length)
theorem canon {s : List UInt8} (hne : s ≠ []) (hl0 : lead0 s = false) (hd : digs s = true) (hv : val s ≤ 9223372036854775808) : s = toB (rd 20 (val s)).reverse ∧ 0 ≤ val s := by
  have back : toB ((s.map fun b => (b.toNat : Int))) = s := by
    unfold toB
    rw [List.map_map]
    conv => rhs; rw [← List.map_id s]
    refine List.map_congr_left fun b _ => ?_
    simp
  have hl : ∀ d ∈ (s.map fun b => (b.toNat : Int)).reverse, 48 ≤ d ∧ d ≤ 57 := by
    intro d hd'
    obtain ⟨b, hb, rfl⟩ := List.mem_map.1 (List.mem_reverse.1 hd')
    simp only [digs, List.all_eq_true] at hd
    exact isDig_iff.1 (hd b hb)
  generalize hL : (s.map fun b => (b.toNat : Int)).reverse = l at *
  have hs : s = toB l.reverse := by rw [← hL, List.reverse_reverse, back]
  have hval : val s = dv l := by rw [hs, val_toB hl]
  have hlen : l.length = s.length := by rw [← hL]; simp
  have hne' : l ≠ [] := fun h => hne (List.eq_nil_of_length_eq_zero (by rw [← hlen, h]; rfl))
  have hlast : l.length = 1 ∨ l.getLast? ≠ some 48 := by
    by_cases h1 : 1 < s.length
    · right
      intro hc
      rw [← hL, List.getLast?_reverse, List.head?_map] at hc
      simp only [lead0, decide_eq_true h1, Bool.and_true, beq_eq_false_iff_ne] at hl0
      cases hh : s.head? with
      | none => rw [hh] at hc; cases hc
      | some b =>
        rw [hh] at hc hl0
        simp only [Option.map_some, Option.some.injEq] at hc
        apply hl0
        rw [Option.some.injEq]
        apply UInt8.toNat_inj.1
        have : ((48 : UInt8).toNat : Int) = 48 := rfl
        omega
    · left
      have : s.length ≠ 0 := fun h => hne (List.eq_nil_of_length_eq_zero h)
      omega
  have hn := dv_nonneg l hl
  have hk : l.length ≤ 20 := by
    by_cases hk : l.length ≤ 20
    · exact hk
    · exfalso
      have hb := dv_big l hne' hl (hlast.resolve_left (by omega))
      have hp : (10 : Int) ^ 19 ≤ 10 ^ (l.length - 1) := by
        have hq : (1 : Int) ≤ 10 ^ (l.length - 20) := by
          have : (0 : Int) < 10 ^ (l.length - 20) := Int.pow_pos (by decide)
          omega
        have e : (10 : Int) ^ (l.length - 1) = 10 ^ 19 * 10 ^ (l.length - 20) := by rw [← Int.pow_add]; congr 1; omega
        rw [e, p19]; omega
      rw [p19] at hp
      omega
  have hr := rd_dv 20 l hne' hl hk hlast
  refine ⟨?_, by omega⟩
  rw [hval, hr]
  exact hs
/-- .. and back. -/
theorem canon_of {u : Int} (h0 : 0 ≤ u) (h1 : u ≤ 9223372036854775808) (d : List UInt8) (e : d = toB (rd 20 u).reverse) : d ≠ [] ∧ lead0 d = false ∧ digs d = true ∧ val d = u ∧ (0 < u → d.head? ≠ some 48) := by
  subst e
  have hd := rd_digits 20 u h0
  have hp := p20
  have hv : val (toB (rd 20 u).reverse) = u := by rw [val_toB hd, dv_rd 20 u h0 (by omega)]
  have hz : 0 < u → (toB (rd 20 u).reverse).head? ≠ some 48 := by
    intro hu
    obtain ⟨d, h1, h2⟩ := rd_last 20 u hu (by omega)
    have hm : d ∈ rd 20 u := List.mem_of_getLast? h1
    have h3 : (toB (rd 20 u).reverse).head? = some (UInt8.ofNat d.toNat) := by
      simp only [toB, List.head?_map, List.head?_reverse, h1]; rfl
    have h4 : UInt8.ofNat d.toNat ≠ 48 := by
      intro e
      have := toB_toNat (hd d hm)
      rw [e] at this
      have e48 : ((48 : UInt8).toNat : Int) = 48 := rfl
      omega
    rw [h3]; simpa using h4
  refine ⟨?_, ?_, digs_toB fun d h => hd d (List.mem_reverse.1 h), hv, hz⟩
  · unfold rd; simp [toB]
  · by_cases h : u = 0
    · subst h; rfl
    · have := hz (by omega)
      simp [lead0, this]
theorem from_01 (s : List UInt8) : from_ s = 0 ∨ from_ s = 1 := by unfold from_; split <;> simp
def neg (s : List UInt8) : Bool := from_ s == 1
def body (s : List UInt8) : List UInt8 := s.drop (from_ s).toNat
theorem body_len (s : List UInt8) : s.length = (from_ s).toNat + (body s).length := by
  unfold body
  rw [List.length_drop]
  unfold from_
  split
  · rename_i h
    cases s with
    | nil => cases h
    | cons a l => simp; omega
  · simp
theorem fin_eq {f : Int} (hf : f = 0 ∨ f = 1) {d : List UInt8} (hd : digs d = true) : pEnd f (pAcc 0 d) = fin (f == 1) (val d) := by
  have hv : 0 ≤ val d := valF_ge d 0 (Int.le_refl 0) hd
  have e := pAcc_eq d 0 (Int.le_refl 0) (by decide) hd
  rw [show (-0 : Int) = 0 from rfl] at e
  have e : pAcc 0 d = if least ≤ -(val d) then some (-(val d)) else none := e
  rw [e]
  generalize val d = v at hv
  unfold fin
  have hl : least = -9223372036854775808 := rfl
  by_cases h : v > 9223372036854775808
  · rw [if_neg (by omega), if_pos h]; rfl
  · rw [if_pos (by omega), if_neg h]
    unfold pEnd
    dsimp only
    rcases hf with rfl | rfl
    · rw [if_neg (by decide)]
      by_cases h2 : v = 9223372036854775808
      · rw [if_pos (by omega), if_pos h2]; rfl
      · rw [if_neg (by omega), if_neg h2, Int.neg_neg]; rfl
    · rw [if_pos rfl]
      by_cases h2 : v = 9223372036854775808
      · rw [if_pos h2, h2]; rfl
      · rw [if_neg h2]; rfl
/-- The shape of a number: the program's test and the document's. -/
def shape (s : List UInt8) : Bool := !(body s == []) && (!((body s).head? == some 48 && decide (1 < s.length)) && digs (body s))
theorem parseV_eq (s : List UInt8) : parseV s = if shape s then fin (neg s) (val (body s)) else (0, 5) := by
  unfold parseV shape
  change (if body s = [] ∨ (body s).head? = some 48 ∧ 1 < s.length then (0, 5) else pRes (from_ s) (body s)) = _
  by_cases h1 : body s = []
  · rw [if_pos (.inl h1), h1]; rfl
  · have h1' : (body s == []) = false := by simpa using h1
    by_cases h2 : (body s).head? = some 48 ∧ 1 < s.length
    · rw [if_pos (.inr h2), h1', h2.1, decide_eq_true h2.2]; rfl
    · have h2' : ((body s).head? == some 48 && decide (1 < s.length)) = false := by
        rw [← Bool.not_eq_true, Bool.and_eq_true, beq_iff_eq, decide_eq_true_eq]; exact h2
      rw [if_neg (by rintro (h | h); exact h1 h; exact h2 h), h1', h2']
      unfold pRes
      by_cases hd : digs (body s) = true
      · rw [if_pos hd, fin_eq (from_01 s) hd, hd]; rfl
      · rw [if_neg hd, show digs (body s) = false by simpa using hd]; rfl
theorem bt_head {d : List UInt8} (h : d ≠ []) : (bt d 0 == 48) = (d.head? == some 48) := by
  cases d with
  | nil => exact absurd rfl h
  | cons a l =>
    rw [bt0]
    have := head48 (b := a)
    rw [Bool.eq_iff_iff, beq_iff_eq, beq_iff_eq, this]
    simp
/-- What the program's Parse comes to. -/
theorem np_eq (s : List UInt8) : npR (neg s) (body s) (decide (0 < ((body s).length : Int))) false 0 0 = parseV s := by
  rw [parseV_eq]
  unfold npR
  have hb := body_len s
  by_cases h : body s = []
  · rw [h]
    unfold shape; rw [h]; rfl
  · have h0 : (body s).length ≠ 0 := fun c => h (List.eq_nil_of_length_eq_zero c)
    have hl : leadB (neg s) (body s) 0 = ((body s).head? == some 48 && decide (1 < s.length)) := by
      unfold leadB neg
      rw [bt_head h, decide_eq_true rfl, Bool.true_and]
      congr 1
      rcases from_01 s with e | e
      · rw [e] at hb ⊢
        rw [Bool.eq_iff_iff]
        simp at hb ⊢
        omega
      · rw [e] at hb ⊢
        rw [Bool.eq_iff_iff]
        simp at hb ⊢
        omega
    have hs : (decide (0 < ((body s).length : Int)) = true ∧ digs (List.drop (Int.toNat 0) (body s)) = true ∧ leadB (neg s) (body s) 0 = false) ↔ shape s = true := by
      rw [hl]
      unfold shape
      have : List.drop (Int.toNat 0) (body s) = body s := rfl
      rw [this]
      have h' : (body s == []) = false := by simpa using h
      rw [h']
      have : 0 < ((body s).length : Int) := by omega
      rw [decide_eq_true this]
      simp only [Bool.not_false, Bool.true_and, Bool.and_eq_true, Bool.not_eq_true', true_and]
      exact And.comm
    by_cases c : shape s = true
    · rw [if_pos (hs.2 c), if_pos c]; rfl
    · rw [if_neg (fun k => c (hs.1 k)), if_neg c]
theorem fin_ok {g : Bool} {v n : Int} (hv : 0 ≤ v) (h : fin g v = (n, 0)) : v ≤ 9223372036854775808 ∧ (g = true → n = -v) ∧ (g = false → n = v ∧ v ≤ 9223372036854775807) := by
  unfold fin at h
  split at h
  · injection h with _ h; cases h
  · split at h
    · rename_i hv2
      cases g with
      | true =>
        injection h with h _
        exact ⟨by omega, (fun _ => by omega), (fun c => Bool.noConfusion c)⟩
      | false => injection h with _ h; cases h
    · cases g with
      | true =>
        injection h with h _
        exact ⟨by omega, (fun _ => by omega), (fun c => Bool.noConfusion c)⟩
      | false =>
        injection h with h _
        exact ⟨by omega, (fun c => Bool.noConfusion c), (fun _ => by omega)⟩
theorem fin_of {g : Bool} {v : Int} (h1 : v ≤ 9223372036854775807 ∨ (g = true ∧ v = 9223372036854775808)) : fin g v = ((if g then -v else v), 0) := by
  unfold fin
  rw [if_neg (by omega)]
  split
  · rename_i h
    obtain ⟨hg, _⟩ := h1.resolve_left (by omega)
    rw [hg, h]; rfl
  · cases g <;> rfl
theorem fmt_neg {n : Int} (h0 : n < 0) (h1 : -9223372036854775808 ≤ n) : fmt n = 45 :: toB (rd 20 (-n)).reverse := by
  have hs : size n = -n := by
    unfold size
    rw [if_pos h0]
    simp only [u64_def]
    omega
  unfold fmt backs
  rw [hs, if_pos h0, List.reverse_append]
  rfl
theorem from_cons {a : UInt8} {l : List UInt8} : from_ (a :: l) = if a = 45 then 1 else 0 := by
  unfold from_; simp
theorem shape_iff (s : List UInt8) : shape s = true ↔ body s ≠ [] ∧ ¬ ((body s).head? = some 48 ∧ 1 < s.length) ∧ digs (body s) = true := by
  unfold shape
  simp only [Bool.and_eq_true, Bool.not_eq_true', beq_eq_false_iff_ne, ne_eq, Bool.and_eq_false_iff, decide_eq_false_iff_not]
  constructor
  · rintro ⟨a, b, c⟩
    exact ⟨a, fun h => by rcases b with b | b; exact b h.1; exact b h.2, c⟩
  · rintro ⟨a, b, c⟩
    refine ⟨a, ?_, c⟩
    by_cases h : (body s).head? = some 48
    · right; intro h2; exact b ⟨h, h2⟩
    · left; exact h
theorem parse_canon {s : List UInt8} {n : Int} (h : parseV s = (n, 0)) : s = fmt n ∧ -9223372036854775808 ≤ n ∧ n ≤ 9223372036854775807 := by
  rw [parseV_eq] at h
  by_cases hs : shape s = true
  · rw [if_pos hs] at h
    obtain ⟨hne, hl, hd⟩ := (shape_iff s).1 hs
    have hv0 : 0 ≤ val (body s) := valF_ge _ 0 (Int.le_refl 0) hd
    obtain ⟨h1, h2, h3⟩ := fin_ok hv0 h
    have hb := body_len s
    have hlead : lead0 (body s) = false := by
      unfold lead0
      rw [← Bool.not_eq_true, Bool.and_eq_true, beq_iff_eq, decide_eq_true_eq]
      rintro ⟨a, b⟩
      exact hl ⟨a, by omega⟩
    obtain ⟨k1, k2⟩ := canon hne hlead hd h1
    rcases from_01 s with e | e
    · have hg : neg s = false := by unfold neg; rw [e]; rfl
      obtain ⟨h3, h4⟩ := h3 hg
      refine ⟨?_, by omega, by omega⟩
      have : s = body s := by unfold body; rw [e]; rfl
      rw [h3, fmt_pos hv0 h4, ← k1]; exact this
    · have hg : neg s = true := by unfold neg; rw [e]; rfl
      have h2 := h2 hg
      have h0 : (body s).length ≠ 0 := fun c => hne (List.eq_nil_of_length_eq_zero c)
      rw [e] at hb
      have h48 : (body s).head? ≠ some 48 := fun c => hl ⟨c, by simp at hb; omega⟩
      have hpos : 1 ≤ val (body s) := by
        cases hbs : body s with
        | nil => exact absurd hbs hne
        | cons a l =>
          rw [hbs] at hd h48
          simp only [digs, List.all_cons, Bool.and_eq_true] at hd
          exact val_pos hd.1 (by simpa using h48) hd.2
      refine ⟨?_, by omega, by omega⟩
      rw [fmt_neg (by omega) (by omega), show -n = val (body s) by omega, ← k1]
      cases s with
      | nil => simp [from_] at e
      | cons a l =>
        rw [from_cons] at e
        split at e
        · rename_i ha
          subst ha
          rfl
        · cases e
  · rw [if_neg hs] at h; injection h with _ h; cases h
theorem parse_fmt {n : Int} (h0 : -9223372036854775808 ≤ n) (h1 : n ≤ 9223372036854775807) : parseV (fmt n) = (n, 0) := by
  rw [parseV_eq]
  by_cases hn : n < 0
  · obtain ⟨k1, k2, k3, k4, k5⟩ := canon_of (u := -n) (by omega) (by omega) _ rfl
    have hf := fmt_neg hn h0
    have ef : from_ (fmt n) = 1 := by rw [hf, from_cons, if_pos rfl]
    have eb : body (fmt n) = toB (rd 20 (-n)).reverse := by unfold body; rw [ef, hf]; rfl
    have hs : shape (fmt n) = true := by
      rw [shape_iff, eb]
      exact ⟨k1, fun c => k5 (by omega) c.1, k3⟩
    have eg : neg (fmt n) = true := by unfold neg; rw [ef]; rfl
    rw [if_pos hs, eb, k4, eg, fin_of (by rcases Int.lt_or_le 9223372036854775807 (-n) with h | h; exact .inr ⟨rfl, by omega⟩; exact .inl h)]
    simp
  · obtain ⟨k1, k2, k3, k4, k5⟩ := canon_of (u := n) (by omega) (by omega) _ rfl
    have hf := fmt_pos (n := n) (by omega) h1
    have ef : from_ (fmt n) = 0 := by
      rw [hf]
      unfold from_
      rw [if_neg]
      intro c
      cases hx : toB (rd 20 n).reverse with
      | nil => exact k1 hx
      | cons a l =>
        rw [hx] at c k3
        simp only [digs, List.all_cons, Bool.and_eq_true] at k3
        have ha : a = 45 := by simpa using c
        have := isDig_iff.1 k3.1
        rw [ha] at this
        exact absurd this (by decide)
    have eb : body (fmt n) = toB (rd 20 n).reverse := by unfold body; rw [ef, hf]; rfl
    have hs : shape (fmt n) = true := by
      rw [shape_iff, eb, hf]
      refine ⟨k1, fun c => ?_, k3⟩
      unfold lead0 at k2
      rw [c.1, decide_eq_true c.2] at k2
      cases k2
    have eg : neg (fmt n) = false := by unfold neg; rw [ef]; rfl
    rw [if_pos hs, eb, k4, eg, fin_of (.inl h1)]
    rfl
theorem s_np (s : List UInt8) (hs : small s = true) : SCall Tryd.prog 55 [.str s] (pS (parseV s)) := by
  refine scallR_loops rfl rfl (by kernel_rfl) (runsR_seg (hK (l := []) trivial) (n := 1000) (hint := .unit) (keep := keepS 99 [4, 5, 6, 7, 8, 9]) (p := np0_p) (boxes := []) rfl ?_)
  have e := np0 s
  unfold startS codeS at e
  erw [e]
  unfold np0_t
  have go : ∀ g d, neg s = g → body s = d → ∀ ok : Bool, ok = decide (0 < (d.length : Int)) → RunsR Tryd.prog (fnOf Tryd.prog 55) (pS (parseV s)) (loopOf Tryd.prog 55 0) (slotsS 99 [(4, SV.bool g), (5, SV.str d), (6, SV.bool ok), (7, SV.bool false), (8, SV.int IntKind.u64 0), (9, I64 0)]) [] := by
    intro g d hg hd ok hok
    have hb := body_len s
    have hd' : small d = true := small_le (s := s) (by rw [← hd]; omega) hs
    refine np_loop g d hd' ok (parseV s) ⟨false, 0, 0⟩ ⟨Int.le_refl 0, by dsimp only; omega, Int.le_refl 0, by decide, ?_⟩
    rw [← np_eq s, hg, hd, hok]
  cases s with
  | nil =>
    simp only [Tree.holds]
    refine ⟨fun h => (by cases h), fun _ => ⟨slotsS_len _ _, go false [] rfl rfl _ rfl⟩⟩
  | cons b l =>
    simp only [Tree.holds]
    refine ⟨fun h => ⟨h, fun c => ⟨by simp; omega, ?_⟩, fun c => ?_⟩, fun h => ?_⟩
    · have hb : b = 45 := head45.1 (by rw [← bt0 (b := b) (l := l)]; exact beq_iff_eq.1 c)
      rw [c]
      refine ⟨slotsS_len _ _, go true l ?_ ?_ _ rfl⟩
      · unfold neg; rw [from_cons, if_pos hb]; rfl
      · unfold body; rw [from_cons, if_pos hb]; rfl
    · have hb : ¬ b = 45 := fun h => by
        have := head45.2 h
        rw [← bt0 (b := b) (l := l)] at this
        rw [this] at c; cases c
      rw [c]
      refine ⟨slotsS_len _ _, go false (b :: l) ?_ ?_ _ rfl⟩
      · unfold neg; rw [from_cons, if_neg hb]; rfl
      · unfold body; rw [from_cons, if_neg hb]; rfl
    · have h := of_decide_eq_false h
      simp at h
def fNP : Fact := factT 55 fun s => .leaf (.tuple [I64 (parseV s).1, I64 (parseV s).2])
def fRP : Fact := factT 83 fun s => .leaf (.tuple [I64 (parseV s).1, I64 (parseV s).2])
theorem o_np : fNP.ok Tryd.prog := factT_ok s_np
theorem o_rp : fRP.ok Tryd.prog := factT_ok s_parse
end Go.Proofs.YtlhkgeoahblffaaDoor
set_option linter.unusedSimpArgs false
set_option linter.unusedVariables false
set_option maxRecDepth 100000
namespace Go.Proofs.YtlhkgeoahblffaaDoor
open Go.Sx
/-- What the parser panics with: the line and the error. -/
def prob (k e : Int) : SV := .raw (.iface 62 (.agg (Array.mk [.int .i64 k, .int .i64 e])))
def nx0_p : Plan := .all
noncomputable def nx0_t (s : List UInt8) (k : Int) : Tree StopX :=
   .leaf (StopX.at (loopOf Tryd.prog 54 0) 41 (slotsS 41 [(0, SV.ptr 0 0)]) [some (Box.cells [SV.str s, I64 k])])
theorem nx0 (s : List UInt8) (k : Int) : segX (Env.ofB Tryd.prog (sumOf [fCut, fFields]) (wrOf []) (pnOf []) (bxOf []) (rdOf []) (rdOf []) (rdOf []) (rdOf [])) 1000 (fnOf Tryd.prog 54) 1  (keepS 41 [0]) (codeS Tryd.prog 54) nx0_p (startS Tryd.prog 54 [.ptr 0 0]) [some (.cells [.str s, I64 k])] = nx0_t s k := by kernel_rfl
def nx1_p : Plan := .fork (.fork (.all) (.all)) (.all)
noncomputable def nx1_t (s : List UInt8) (k : Int) : Tree StopX :=
   .node (!(s == []))
 (.req (true) (.req (small s) (.req (true) (.req (small (lineOf s)) (.node (decide (((flds (lineOf s)).length : Int) > 0))
      (.leaf (StopX.fin (Fin.ret (SV.list Ty.str (flds (lineOf s))) [some (Box.cells [SV.str (restOf s), I64 (IntKind.i64.wrap (k + 1))])])))
      (.leaf (StopX.at (loopOf Tryd.prog 54 0) 41 (slotsS 41 [(0, SV.ptr 0 0)]) [some (Box.cells [SV.str (restOf s), I64 (IntKind.i64.wrap (k + 1))])])))))))
 (.leaf (StopX.fin (Fin.pan (prob k 6) [some (Box.cells [SV.str s, I64 k])])))
theorem nx1 (s : List UInt8) (k : Int) : segX (Env.ofB Tryd.prog (sumOf [fCut, fFields]) (wrOf []) (pnOf []) (bxOf []) (rdOf []) (rdOf []) (rdOf []) (rdOf [])) 1000 (fnOf Tryd.prog 54) 1  (keepS 41 [0]) (loopOf Tryd.prog 54 0) nx1_p (slotsS 41 [(0, .ptr 0 0)]) [some (.cells [.str s, I64 k])] = nx1_t s k := by kernel_rfl
def nxb0_p : Plan := .all
noncomputable def nxb0_t (s : List UInt8) (k : Int) : Tree StopX :=
   .leaf (StopX.at (loopOf Tryd.prog 54 0) 41 (slotsS 41 [(0, SV.ptr 0 0)]) [some (Box.cells [SV.str s, I64 k]), some (Box.cells [I64 0, I64 0, I64 0])])
theorem nxb0 (s : List UInt8) (k : Int) : segX (Env.ofB Tryd.prog (sumOf [fCut, fFields]) (wrOf []) (pnOf []) (bxOf []) (rdOf []) (rdOf []) (rdOf []) (rdOf [])) 1000 (fnOf Tryd.prog 54) 2  (keepS 41 [0]) (codeS Tryd.prog 54) nxb0_p (startS Tryd.prog 54 [.ptr 0 0]) [some (.cells [.str s, I64 k]), some (.cells [I64 0, I64 0, I64 0])] = nxb0_t s k := by kernel_rfl
def nxb1_p : Plan := .fork (.fork (.all) (.all)) (.all)
noncomputable def nxb1_t (s : List UInt8) (k : Int) : Tree StopX :=
   .node (!(s == []))
 (.req (true) (.req (small s) (.req (true) (.req (small (lineOf s)) (.node (decide (((flds (lineOf s)).length : Int) > 0))
      (.leaf (StopX.fin (Fin.ret (SV.list Ty.str (flds (lineOf s))) [some (Box.cells [SV.str (restOf s), I64 (IntKind.i64.wrap (k + 1))]), some (Box.cells [I64 0, I64 0, I64 0])])))
      (.leaf (StopX.at (loopOf Tryd.prog 54 0) 41 (slotsS 41 [(0, SV.ptr 0 0)]) [some (Box.cells [SV.str (restOf s), I64 (IntKind.i64.wrap (k + 1))]), some (Box.cells [I64 0, I64 0, I64 0])])))))))
 (.leaf (StopX.fin (Fin.pan (prob k 6) [some (Box.cells [SV.str s, I64 k]), some (Box.cells [I64 0, I64 0, I64 0])])))
theorem nxb1 (s : List UInt8) (k : Int) : segX (Env.ofB Tryd.prog (sumOf [fCut, fFields]) (wrOf []) (pnOf []) (bxOf []) (rdOf []) (rdOf []) (rdOf []) (rdOf [])) 1000 (fnOf Tryd.prog 54) 2  (keepS 41 [0]) (loopOf Tryd.prog 54 0) nxb1_p (slotsS 41 [(0, .ptr 0 0)]) [some (.cells [.str s, I64 k]), some (.cells [I64 0, I64 0, I64 0])] = nxb1_t s k := by kernel_rfl
def en0_p : Plan := .all
noncomputable def en0_t (s : List UInt8) (k : Int) : Tree StopX :=
   .leaf (StopX.at (loopOf Tryd.prog 37 0) 36 (slotsS 36 [(0, SV.ptr 0 0)]) [some (Box.cells [SV.str s, I64 k])])
theorem en0 (s : List UInt8) (k : Int) : segX (Env.ofB Tryd.prog (sumOf [fCut, fTrim]) (wrOf []) (pnOf []) (bxOf []) (rdOf []) (rdOf []) (rdOf []) (rdOf [])) 1000 (fnOf Tryd.prog 37) 1  (keepS 36 [0]) (codeS Tryd.prog 37) en0_p (startS Tryd.prog 37 [.ptr 0 0]) [some (.cells [.str s, I64 k])] = en0_t s k := by kernel_rfl
def en1_p : Plan := .fork (.fork (.all) (.all)) (.all)
noncomputable def en1_t (s : List UInt8) (k : Int) : Tree StopX :=
   .node (!(s == []))
 (.req (true) (.req (small s) (.req (true) (.req (small (lineOf s)) (.node (!(Lib.trimS (lineOf s) [32, 9] == []))
      (.leaf (StopX.fin (Fin.pan (prob (IntKind.i64.wrap (k + 1)) 5) [some (Box.cells [SV.str (restOf s), I64 (IntKind.i64.wrap (k + 1))])])))
      (.leaf (StopX.at (loopOf Tryd.prog 37 0) 36 (slotsS 36 [(0, SV.ptr 0 0)]) [some (Box.cells [SV.str (restOf s), I64 (IntKind.i64.wrap (k + 1))])])))))))
 (.leaf (StopX.fin (Fin.ret (SV.tuple []) [some (Box.cells [SV.str s, I64 k])])))
theorem en1 (s : List UInt8) (k : Int) : segX (Env.ofB Tryd.prog (sumOf [fCut, fTrim]) (wrOf []) (pnOf []) (bxOf []) (rdOf []) (rdOf []) (rdOf []) (rdOf [])) 1000 (fnOf Tryd.prog 37) 1  (keepS 36 [0]) (loopOf Tryd.prog 37 0) en1_p (slotsS 36 [(0, .ptr 0 0)]) [some (.cells [.str s, I64 k])] = en1_t s k := by kernel_rfl
end Go.Proofs.YtlhkgeoahblffaaDoor
set_option linter.unusedSimpArgs false
set_option linter.unusedVariables false
namespace Go.Sx
open Go.RowKit

theorem xcall_mem {P : Program} {f : FuncId} {args : List SV} {r : Fin} {boxes : List (Option Box)} (hf : fnOk P f args = true) (h : RunsX P (fnOf P f) [] boxes.length r (codeS P f) (startS P f args) boxes) (hl : r.boxes.length = boxes.length)
    {m m' : Mem} (hcn : m.next = boxes.length) (hcg : ∀ k, k < boxes.length → m.get k = (boxes[k]?).join) (hn' : m'.next = m.next) (hg' : ∀ k, k < boxes.length → m'.get k = (r.boxes[k]?).join) (hg2 : ∀ k, boxes.length ≤ k → m'.get k = m.get k) : XCall P f args m (r.ex m') := by
  have all : ∀ {w0 : World} {R0 : Nat → Prop} {ρ : Rho} {w : World}, MRel w0 R0 ρ w m → (∀ k, m.get k = (boxes[k]?).join) ∧ ∀ k, m'.get k = (r.boxes[k]?).join := fun {w0 R0 ρ w} hm => by
    have out : ∀ k, boxes.length ≤ k → m.get k = none := fun k hk => by
      cases hx : m.get k with
      | none => rfl
      | some B => have := hm.lt k B hx; omega
    refine ⟨fun k => ?_, fun k => ?_⟩
    · by_cases hk : k < boxes.length
      · exact hcg k hk
      · rw [out k (by omega), List.getElem?_eq_none (by omega)]; rfl
    · by_cases hk : k < boxes.length
      · exact hg' k hk
      · rw [hg2 k (by omega), out k (by omega), List.getElem?_eq_none (by omega)]; rfl
  cases r with
  | ret v bs =>
    intro w0 R0 ρ w vs hm hvs
    exact (xcall_full hf h rfl hcn (all hm).1 (hn'.trans hcn) (all hm).2 : XCall P f args m ((Fin.ret v bs).ex m')) w0 R0 ρ w vs hm hvs
  | pan v bs =>
    intro w0 R0 ρ w vs hm hvs
    exact (xcall_full hf h rfl hcn (all hm).1 (hn'.trans hcn) (all hm).2 : XCall P f args m ((Fin.pan v bs).ex m')) w0 R0 ρ w vs hm hvs

def Fin.isPan : Fin → Bool
  | .ret _ _ => false
  | .pan _ _ => true

theorem bcall_flat {P : Program} {f : FuncId} {rest : List SV} {r : Fin} {cs0 cs1 : List SV} (hf : fnOk P f (.ptr 0 0 :: rest) = true) (h : RunsX P (fnOf P f) [] 1 r (codeS P f) (startS P f (.ptr 0 0 :: rest)) [some (.cells cs0)]) (hr : r.boxes = [some (.cells cs1)])
    (hd : dataL rest = true) (fl0 : flatL cs0 = true) (fl1 : flatL cs1 = true) (flv : flatA r.val = true) : BCall P f rest (.cells cs0) (r.isPan, r.val, .cells cs1) := by
  intro m m' id hB hm'
  have key := xcall_flat (args := .ptr id 0 :: rest) hf h hr hB fl0 fl1 flv hm'.2 hm'.1 fun w0 R0 ρ w vs mc hm hn hg hvs => by
    obtain ⟨u, us, rfl, ⟨h1, h2⟩, h3⟩ := hvs
    refine ⟨u, us, rfl, ⟨Nat.zero_lt_one, h2⟩, RepL.data (fun b hb => ?_) rest us hd h3⟩
    rcases hb with hb | ⟨k1, k2, k3⟩
    · exact .inl hb
    · refine .inr ⟨k1, k2, fun k B hk hs => ?_⟩
      rw [hg k] at hk
      split at hk
      · injection hk with hk; subst hk; exact k3 id _ hB trivial
      · cases hk
  cases r with
  | ret v bs => exact key
  | pan v bs => exact key

/-- The items where such a segment stops first. -/
noncomputable def stopIt : Tree StopX → List Item
  | .leaf x => match x with
    | .at items _ _ _ => items
    | _ => []
  | .node _ t f => match stopIt t with
    | [] => stopIt f
    | l => l
  | .req _ t => stopIt t
  | .fail _ => []
/-- The operations of the region that these items begin with. -/
def headOps : List Item → Array Oper
  | .code (.region _ ops _) :: _ => ops
  | _ => #[]

/-- What is known of fewer slots serves where more is known. -/
theorem runsX_top {P : Program} {fn : Func} {ds : List Deferred} {np : Nat} {r : Fin} {items : List Item} {slots slots' : List SV} {boxes : List (Option Box)} (h : RunsX P fn ds np r items slots boxes) (hl : slots'.length = slots.length) (ht : ∀ i : Nat, slots.getD i .undef = .top ∨ slots.getD i .undef = slots'.getD i .undef) : RunsX P fn ds np r items slots' boxes := by
  intro fr m hc w0 R0 ρ w a hs b cs
  obtain ⟨fr2, m2, hc2⟩ := Canon.of (slots := slots) (boxes := boxes)
  have hcm : Canon slots boxes fr2 m := ⟨hc2.size, hc2.get, hc.next, hc.box⟩
  refine h fr2 m hcm w0 R0 ρ w a ⟨hs.1, ⟨?_, fun t => ?_⟩, hs.2.2⟩ b cs
  · rw [hc2.size, ← hl, ← hc.size]; exact hs.2.1.1
  · rw [hc2.get]
    rcases ht t with e | e
    · rw [e]; trivial
    · rw [e, ← hc.get]; exact hs.2.1.2 t
end Go.Sx
set_option linter.unusedSimpArgs false
set_option linter.unusedVariables false
set_option maxRecDepth 100000
namespace Go.Proofs.YtlhkgeoahblffaaDoor
open Go.Sx

abbrev wr64 (k : Int) : Int := IntKind.i64.wrap k

theorem cut_len (s : List UInt8) (h : s ≠ []) : (restOf s).length < s.length ∧ (lineOf s).length ≤ s.length := by
  have hp : 0 < s.length := List.length_pos_iff.2 h
  unfold restOf lineOf Lib.cut
  split
  · rename_i hi
    refine ⟨?_, ?_⟩
    · show (s.drop _).length < _
      rw [List.length_drop]
      simp; omega
    · show (s.take _).length ≤ _
      rw [List.length_take]; omega
  · exact ⟨hp, Nat.le_refl _⟩
theorem small_rest {s : List UInt8} (hs : small s = true) (h : s ≠ []) : small (restOf s) = true := small_le (Nat.le_of_lt (cut_len s h).1) hs
theorem small_line {s : List UInt8} (hs : small s = true) (h : s ≠ []) : small (lineOf s) = true := small_le (cut_len s h).2 hs

def nx : Nat → List UInt8 → Int → Option (List (List UInt8)) × List UInt8 × Int
  | 0, s, k => (none, s, k)
  | n + 1, s, k => if s = [] then (none, s, k) else if 0 < (flds (lineOf s)).length then (some (flds (lineOf s)), restOf s, wr64 (k + 1)) else nx n (restOf s) (wr64 (k + 1))
def nxt (s : List UInt8) (k : Int) := nx (s.length + 1) s k
theorem nx_len : ∀ (n : Nat) (s : List UInt8) (k : Int), (nx n s k).2.1.length ≤ s.length
  | 0, s, k => Nat.le_refl _
  | n + 1, s, k => by
    unfold nx
    split
    · exact Nat.le_refl _
    · rename_i h
      have := (cut_len s h).1
      split
      · exact Nat.le_of_lt this
      · exact Nat.le_trans (nx_len n _ _) (Nat.le_of_lt this)

def finN (r : Option (List (List UInt8)) × List UInt8 × Int) (ex : List (Option Box)) : Fin := match r.1 with
  | some l => .ret (.list .str l) (some (.cells [.str r.2.1, I64 r.2.2]) :: ex)
  | none => .pan (prob r.2.2 6) (some (.cells [.str r.2.1, I64 r.2.2]) :: ex)

theorem hB {l : List Fact} {k : List WFact} {j : List PFact} {i : List BFact} (ty ls rd cu : List Nat) (hl : allOk Tryd.prog l) (hk : ∀ x ∈ k, x.ok Tryd.prog) (hj : ∀ x ∈ j, x.ok Tryd.prog) (hi : ∀ x ∈ i, x.ok Tryd.prog) : Known Tryd.prog (Env.ofB Tryd.prog (sumOf l) (wrOf k) (pnOf j) (bxOf i) (rdOf ty) (rdOf ls) (rdOf rd) (rdOf cu)) := known_ofB mix hl.all hk hj hi _ _ _ _
theorem noneOk {β : Type} {p : β → Prop} : ∀ x ∈ ([] : List β), p x := fun _ h => by cases h

theorem next_loop : ∀ (n : Nat) (s : List UInt8) (k : Int), s.length < n → small s = true → RunsX Tryd.prog (fnOf Tryd.prog 54) [] 1 (finN (nx n s k) []) (loopOf Tryd.prog 54 0) (slotsS 41 [(0, .ptr 0 0)]) [some (.cells [.str s, I64 k])]
  | 0, s, k, h, _ => absurd h (Nat.not_lt_zero _)
  | n + 1, s, k, h, hs => by
    refine runsX_seg (hB (l := [fCut, fFields]) [] [] [] [] ⟨o_cut, o_fields, trivial⟩ noneOk noneOk noneOk) (n := 1000) (keep := keepS 41 [0]) (p := nx1_p) (Nat.le_refl 1) ?_
    erw [nx1 s k]
    unfold nx1_t nx
    simp only [Tree.holds, Bool.not_eq_true', beq_eq_false_iff_ne, Bool.not_eq_false', beq_iff_eq, decide_eq_true_eq, decide_eq_false_iff_not]
    refine ⟨fun h1 => ⟨trivial, hs, trivial, small_line hs h1, fun h2 => ?_, fun h2 => ?_⟩, fun h1 => ?_⟩
    · rw [if_neg h1, if_pos (by omega)]; rfl
    · rw [if_neg h1, if_neg (by omega)]
      exact ⟨slotsS_len _ _, next_loop n _ _ (by have := (cut_len s h1).1; omega) (small_rest hs h1)⟩
    · rw [if_pos h1]; rfl
theorem next_runs (s : List UInt8) (k : Int) (hs : small s = true) : RunsX Tryd.prog (fnOf Tryd.prog 54) [] 1 (finN (nxt s k) []) (codeS Tryd.prog 54) (startS Tryd.prog 54 [.ptr 0 0]) [some (.cells [.str s, I64 k])] := by
  refine runsX_seg (hB (l := [fCut, fFields]) [] [] [] [] ⟨o_cut, o_fields, trivial⟩ noneOk noneOk noneOk) (n := 1000) (keep := keepS 41 [0]) (p := nx0_p) (Nat.le_refl 1) ?_
  erw [nx0 s k]
  exact ⟨slotsS_len _ _, next_loop _ s k (Nat.lt_succ_self _) hs⟩

theorem nextb_loop : ∀ (n : Nat) (s : List UInt8) (k : Int), s.length < n → small s = true → RunsX Tryd.prog (fnOf Tryd.prog 54) [] 2 (finN (nx n s k) [some (.cells [I64 0, I64 0, I64 0])]) (loopOf Tryd.prog 54 0) (slotsS 41 [(0, .ptr 0 0)]) [some (.cells [.str s, I64 k]), some (.cells [I64 0, I64 0, I64 0])]
  | 0, s, k, h, _ => absurd h (Nat.not_lt_zero _)
  | n + 1, s, k, h, hs => by
    refine runsX_seg (hB (l := [fCut, fFields]) [] [] [] [] ⟨o_cut, o_fields, trivial⟩ noneOk noneOk noneOk) (n := 1000) (keep := keepS 41 [0]) (p := nxb1_p) (Nat.le_refl 2) ?_
    erw [nxb1 s k]
    unfold nxb1_t nx
    simp only [Tree.holds, Bool.not_eq_true', beq_eq_false_iff_ne, Bool.not_eq_false', beq_iff_eq, decide_eq_true_eq, decide_eq_false_iff_not]
    refine ⟨fun h1 => ⟨trivial, hs, trivial, small_line hs h1, fun h2 => ?_, fun h2 => ?_⟩, fun h1 => ?_⟩
    · rw [if_neg h1, if_pos (by omega)]; rfl
    · rw [if_neg h1, if_neg (by omega)]
      exact ⟨slotsS_len _ _, nextb_loop n _ _ (by have := (cut_len s h1).1; omega) (small_rest hs h1)⟩
    · rw [if_pos h1]; rfl
theorem nextb_runs (s : List UInt8) (k : Int) (hs : small s = true) : RunsX Tryd.prog (fnOf Tryd.prog 54) [] 2 (finN (nxt s k) [some (.cells [I64 0, I64 0, I64 0])]) (codeS Tryd.prog 54) (startS Tryd.prog 54 [.ptr 0 0]) [some (.cells [.str s, I64 k]), some (.cells [I64 0, I64 0, I64 0])] := by
  refine runsX_seg (hB (l := [fCut, fFields]) [] [] [] [] ⟨o_cut, o_fields, trivial⟩ noneOk noneOk noneOk) (n := 1000) (keep := keepS 41 [0]) (p := nxb0_p) (Nat.le_refl 2) ?_
  erw [nxb0 s k]
  exact ⟨slotsS_len _ _, nextb_loop _ s k (Nat.lt_succ_self _) hs⟩

/-! ### The end -/

def en : Nat → List UInt8 → Int → Bool × List UInt8 × Int
  | 0, s, k => (true, s, k)
  | n + 1, s, k => if s = [] then (true, s, k) else if Lib.trimS (lineOf s) [32, 9] = [] then en n (restOf s) (wr64 (k + 1)) else (false, restOf s, wr64 (k + 1))
def ent (s : List UInt8) (k : Int) := en (s.length + 1) s k
def finE (r : Bool × List UInt8 × Int) : Fin := match r.1 with
  | true => .ret (.tuple []) [some (.cells [.str r.2.1, I64 r.2.2])]
  | false => .pan (prob r.2.2 5) [some (.cells [.str r.2.1, I64 r.2.2])]
theorem end_loop : ∀ (n : Nat) (s : List UInt8) (k : Int), s.length < n → small s = true → RunsX Tryd.prog (fnOf Tryd.prog 37) [] 1 (finE (en n s k)) (loopOf Tryd.prog 37 0) (slotsS 36 [(0, .ptr 0 0)]) [some (.cells [.str s, I64 k])]
  | 0, s, k, h, _ => absurd h (Nat.not_lt_zero _)
  | n + 1, s, k, h, hs => by
    refine runsX_seg (hB (l := [fCut, fTrim]) [] [] [] [] ⟨o_cut, o_trim, trivial⟩ noneOk noneOk noneOk) (n := 1000) (keep := keepS 36 [0]) (p := en1_p) (Nat.le_refl 1) ?_
    erw [en1 s k]
    unfold en1_t en
    simp only [Tree.holds, Bool.not_eq_true', beq_eq_false_iff_ne, Bool.not_eq_false', beq_iff_eq, decide_eq_true_eq, decide_eq_false_iff_not]
    refine ⟨fun h1 => ⟨trivial, hs, trivial, small_line hs h1, fun h2 => ?_, fun h2 => ?_⟩, fun h1 => ?_⟩
    · rw [if_neg h1, if_neg h2]; rfl
    · rw [if_neg h1, if_pos h2]
      exact ⟨slotsS_len _ _, end_loop n _ _ (by have := (cut_len s h1).1; omega) (small_rest hs h1)⟩
    · rw [if_pos h1]; rfl
theorem end_runs (s : List UInt8) (k : Int) (hs : small s = true) : RunsX Tryd.prog (fnOf Tryd.prog 37) [] 1 (finE (ent s k)) (codeS Tryd.prog 37) (startS Tryd.prog 37 [.ptr 0 0]) [some (.cells [.str s, I64 k])] := by
  refine runsX_seg (hB (l := [fCut, fTrim]) [] [] [] [] ⟨o_cut, o_trim, trivial⟩ noneOk noneOk noneOk) (n := 1000) (keep := keepS 36 [0]) (p := en0_p) (Nat.le_refl 1) ?_
  erw [en0 s k]
  exact ⟨slotsS_len _ _, end_loop _ s k (Nat.lt_succ_self _) hs⟩

/-! ### Facts -/

def nWords (s : List UInt8) (k : Int) : List (List UInt8) := (nxt s k).1.getD []
def nOk (s : List UInt8) (k : Int) : Bool := (nxt s k).1.isSome
def nRest (s : List UInt8) (k : Int) : List UInt8 := (nxt s k).2.1
def nLine (s : List UInt8) (k : Int) : Int := (nxt s k).2.2
theorem finN_eq (s : List UInt8) (k : Int) (ex : List (Option Box)) : finN (nxt s k) ex = match nOk s k with
    | true => .ret (.list .str (nWords s k)) (some (.cells [.str (nRest s k), I64 (nLine s k)]) :: ex)
    | false => .pan (prob (nLine s k) 6) (some (.cells [.str (nRest s k), I64 (nLine s k)]) :: ex) := by
  unfold finN nOk nWords nRest nLine
  cases (nxt s k).1 <;> rfl

noncomputable def nTree (s : List UInt8) (k : Int) (m : Mem) : Tree Ex := .req (small s) (.node (nOk s k)
  (m.set 0 (some (.cells [.str (nRest s k), I64 (nLine s k)])) fun m' => .leaf (.ok (.list .str (nWords s k)) m'))
  (m.set 0 (some (.cells [.str (nRest s k), I64 (nLine s k)])) fun m' => .leaf (.pan (prob (nLine s k) 6) m')))
noncomputable def fNext : PFact := ⟨54, fun args m => match args with
  | [.ptr id off] => match Nat.beq id 0 && Nat.beq off 0 with
    | true => match m.get 0 with
      | some (.cells [.str s, .int .i64 k]) => match m.next with
        | 1 => some (nTree s k m)
        | 2 => match m.get 1 with
          | some (.cells [.int .i64 x, .int .i64 y, .int .i64 z]) => some (.req (decide (x = 0) && (decide (y = 0) && decide (z = 0))) (nTree s k m))
          | _ => none
        | _ => none
      | _ => none
    | false => none
  | _ => none⟩
theorem next_ok54 : fnOk Tryd.prog 54 [.ptr 0 0] = true := by kernel_rfl
theorem nTree_says (s : List UInt8) (k : Int) (ex : List (Option Box)) (m : Mem) (hb : m.get 0 = some (.cells [.str s, I64 k])) (hn : m.next = 1 + ex.length) (he : ∀ j, j < ex.length → m.get (j + 1) = (ex[j]?).join)
    (h : small s = true → RunsX Tryd.prog (fnOf Tryd.prog 54) [] (1 + ex.length) (finN (nxt s k) ex) (codeS Tryd.prog 54) (startS Tryd.prog 54 [.ptr 0 0]) (some (.cells [.str s, I64 k]) :: ex)) : (nTree s k m).says (XCall Tryd.prog 54 [.ptr 0 0] m) := by
  intro hs
  have h := h hs
  rw [finN_eq] at h
  have hlen : ∀ (B : Option Box), (B :: ex).length = 1 + ex.length := fun B => by rw [List.length_cons]; omega
  have get : ∀ j, j < (some (Box.cells [.str s, I64 k]) :: ex).length → m.get j = ((some (Box.cells [.str s, I64 k]) :: ex)[j]?).join := fun j hj => by
    cases j with
    | zero => rw [hb]; rfl
    | succ j => rw [he j (by simpa using hj)]; rfl
  have get' : ∀ (B : Box) (m' : Mem), MSet m 0 (some B) m' → (∀ j, j < (some (Box.cells [.str s, I64 k]) :: ex).length → m'.get j = ((some B :: ex)[j]?).join) ∧ ∀ j, (some (Box.cells [.str s, I64 k]) :: ex).length ≤ j → m'.get j = m.get j := fun B m' hm => by
    refine ⟨fun j hj => ?_, fun j hj => ?_⟩
    · cases j with
      | zero => rw [hm.1 0]; rfl
      | succ j => rw [hm.1 (j + 1), if_neg (by omega), he j (by simpa using hj)]; rfl
    · rw [hm.1 j, if_neg (by rw [hlen] at hj; omega)]
  refine ⟨fun h1 => set_saysB fun m' hm => ?_, fun h1 => set_saysB fun m' hm => ?_⟩
  · rw [h1] at h
    obtain ⟨g1, g2⟩ := get' _ m' hm
    exact xcall_mem (r := Fin.ret (.list .str (nWords s k)) (some (.cells [.str (nRest s k), I64 (nLine s k)]) :: ex)) (boxes := some (.cells [.str s, I64 k]) :: ex) next_ok54 (by rw [hlen]; exact h) rfl (by rw [hlen]; exact hn) get hm.2 g1 g2
  · rw [h1] at h
    obtain ⟨g1, g2⟩ := get' _ m' hm
    exact xcall_mem (r := Fin.pan (prob (nLine s k) 6) (some (.cells [.str (nRest s k), I64 (nLine s k)]) :: ex)) (boxes := some (.cells [.str s, I64 k]) :: ex) next_ok54 (by rw [hlen]; exact h) rfl (by rw [hlen]; exact hn) get hm.2 g1 g2
theorem o_next : fNext.ok Tryd.prog := fun args m t ht => by
  simp only [fNext] at ht
  split at ht
  · split at ht
    · rename_i id off hid
      rw [Bool.and_eq_true] at hid
      have h1 := Nat.eq_of_beq_eq_true hid.1
      have h2 := Nat.eq_of_beq_eq_true hid.2
      subst h1 h2
      split at ht
      · rename_i s k hb
        split at ht
        · rename_i hn
          injection ht with ht; subst ht
          exact nTree_says s k [] m hb hn (fun j hj => by cases hj) (next_runs s k)
        · rename_i hn
          split at ht
          · rename_i x y z hx
            injection ht with ht; subst ht
            intro h0
            simp only [Bool.and_eq_true, decide_eq_true_eq] at h0
            obtain ⟨rfl, rfl, rfl⟩ := h0
            exact nTree_says s k [some (.cells [I64 0, I64 0, I64 0])] m hb hn (fun j hj => by
              have : j = 0 := by simpa using hj
              subst this; exact hx) (nextb_runs s k)
          · cases ht
        · cases ht
      · cases ht
    · cases ht
  · cases ht

theorem end_ok37 : fnOk Tryd.prog 37 [.ptr 0 0] = true := by kernel_rfl
def eOk (s : List UInt8) (k : Int) : Bool := (ent s k).1
def eRest (s : List UInt8) (k : Int) : List UInt8 := (ent s k).2.1
def eLine (s : List UInt8) (k : Int) : Int := (ent s k).2.2
def fEnd : BFact := ⟨37, fun args B => match args, B with
  | [], .cells [.str s, .int .i64 k] => some (.req (small s) (.node (eOk s k) (.leaf (false, .tuple [], .cells [.str (eRest s k), I64 (eLine s k)])) (.leaf (true, prob (eLine s k) 5, .cells [.str (eRest s k), I64 (eLine s k)]))))
  | _, _ => none⟩
theorem o_end : fEnd.ok Tryd.prog := fun args B t ht => by
  simp only [fEnd] at ht
  split at ht
  · rename_i s k
    injection ht with ht; subst ht
    intro hs
    have h := end_runs s k hs
    unfold finE at h
    refine ⟨fun h1 => ?_, fun h1 => ?_⟩
    · unfold eOk at h1
      rw [h1] at h
      exact bcall_flat end_ok37 h rfl rfl rfl rfl rfl
    · unfold eOk at h1
      rw [h1] at h
      exact bcall_flat end_ok37 h rfl rfl rfl rfl rfl
  · cases ht
end Go.Proofs.YtlhkgeoahblffaaDoor
set_option linter.unusedSimpArgs false
set_option linter.unusedVariables false
set_option maxRecDepth 100000
namespace Go.Proofs.YtlhkgeoahblffaaDoor
open Go.Sx
/-- A word by its place. -/
def nthW (l : List (List UInt8)) (i : Nat) : List UInt8 := l.getD i Ty.str.dflt
def vertexB : List UInt8 := [118, 101, 114, 116, 101, 120]
def wd0_p : Plan := .fork (.all) (.all)
noncomputable def wd0_t (s : List UInt8) (k : Int) (l : List (List UInt8)) : Tree StopX :=
   .req (small s) (.node (nOk s k)
  (.leaf (StopX.at (loopOf Tryd.prog 35 0) 34 (slotsS 34 [(0, SV.ptr 0 0), (5, SV.list Ty.str (nWords s k)), (10, SV.list Ty.str l), (11, I64 (l.length : Int)), (12, I64 0)]) [some (Box.cells [SV.str (nRest s k), I64 (nLine s k)])]))
  (.leaf (StopX.fin (Fin.pan (prob (nLine s k) 6) [some (Box.cells [SV.str (nRest s k), I64 (nLine s k)])]))))
theorem wd0 (s : List UInt8) (k : Int) (l : List (List UInt8)) : segX (Env.ofB Tryd.prog (sumOf []) (wrOf []) (pnOf [fNext]) (bxOf []) (rdOf []) (rdOf []) (rdOf []) (rdOf [])) 1000 (fnOf Tryd.prog 35) 1  (keepS 34 [0,5,10,11,12]) (codeS Tryd.prog 35) wd0_p (startS Tryd.prog 35 [.ptr 0 0, .list .str l]) [some (.cells [.str s, I64 k])] = wd0_t s k l := by kernel_rfl
def wd1_p : Plan := .fork (.fork (.lit (.lit (.lit (.lit (.lit (.fork (.all) (.all))))))) (.lit (.lit (.lit (.lit (.lit (.lit (.all)))))))) (.all)
noncomputable def wd1_t (s : List UInt8) (k : Int) (l v : List (List UInt8)) (i : Int) : Tree StopX :=
   .node (decide (i < (l.length : Int)))
 (.req (decide (0 ≤ i) && decide (i < (l.length : Int))) (.node ((v.length : Int) == 1)
   (.req (decide (0 < (v.length : Int))) (.node (nthW v 0 == nthW l i.toNat)
     (.leaf (StopX.fin (Fin.ret (SV.str (nthW l i.toNat)) [some (Box.cells [SV.str s, I64 k])])))
     (.leaf (StopX.at (loopOf Tryd.prog 35 0) 34 (slotsS 34 [(0, SV.ptr 0 0), (5, SV.list Ty.str v), (10, SV.list Ty.str l), (11, I64 (l.length : Int)), (12, I64 (IntKind.i64.wrap (i + 1)))]) [some (Box.cells [SV.str s, I64 k])]))))
   (.leaf (StopX.at (loopOf Tryd.prog 35 0) 34 (slotsS 34 [(0, SV.ptr 0 0), (5, SV.list Ty.str v), (10, SV.list Ty.str l), (11, I64 (l.length : Int)), (12, I64 (IntKind.i64.wrap (i + 1)))]) [some (Box.cells [SV.str s, I64 k])]))))
 (.leaf (StopX.fin (Fin.pan (prob k 5) [some (Box.cells [SV.str s, I64 k])])))
theorem wd1 (s : List UInt8) (k : Int) (l v : List (List UInt8)) (i : Int) : segX (Env.ofB Tryd.prog (sumOf []) (wrOf []) (pnOf [fNext]) (bxOf []) (rdOf []) (rdOf []) (rdOf []) (rdOf [])) 1000 (fnOf Tryd.prog 35) 1  (keepS 34 [0,5,10,11,12]) (loopOf Tryd.prog 35 0) wd1_p (slotsS 34 [(0, .ptr 0 0), (5, .list .str v), (10, .list .str l), (11, I64 (l.length : Int)), (12, I64 i)]) [some (.cells [.str s, I64 k])] = wd1_t s k l v i := by kernel_rfl
def vx0_p : Plan := .fork (.fork (.lit (.lit (.lit (.lit (.lit (.all)))))) (.lit (.lit (.lit (.lit (.fork (.all) (.all))))))) (.all)
noncomputable def vx0_t (s : List UInt8) (k : Int) : Tree StopX :=
   .req (true) (.req (small s) (.node (nOk s k)
   (.node (((nWords s k).length : Int) != 4)
    (.leaf (StopX.fin (Fin.pan (prob (nLine s k) 5) [some (Box.cells [SV.str (nRest s k), I64 (nLine s k)])])))
    (.req (decide (0 < ((nWords s k).length : Int))) (.node (!(nthW (nWords s k) 0 == vertexB))
      (.leaf (StopX.fin (Fin.pan (prob (nLine s k) 5) [some (Box.cells [SV.str (nRest s k), I64 (nLine s k)])])))
      (.leaf (StopX.at (loopOf Tryd.prog 36 0) 78 (slotsS 78 [(0, SV.ptr 0 0), (2, SV.ptr 1 0), (3, SV.list Ty.str (nWords s k)), (4, SV.ptr 2 0), (5, SV.bool false), (26, I64 0)]) [some (Box.cells [SV.str (nRest s k), I64 (nLine s k)]), some (Box.cells [I64 0, I64 0, I64 0]), some (Box.cells [I64 0, I64 0, I64 0])])))))
   (.leaf (StopX.fin (Fin.pan (prob (nLine s k) 6) [some (Box.cells [SV.str (nRest s k), I64 (nLine s k)])])))))
theorem vx0 (s : List UInt8) (k : Int) : segX (Env.ofB Tryd.prog (sumOf [fNP]) (wrOf []) (pnOf [fNext]) (bxOf []) (rdOf []) (rdOf []) (rdOf []) (rdOf [])) 1000 (fnOf Tryd.prog 36) 1  (keepS 78 [0,2,3,4,5,26]) (codeS Tryd.prog 36) vx0_p (startS Tryd.prog 36 [.ptr 0 0]) [some (.cells [.str s, I64 k])] = vx0_t s k := by kernel_rfl
def vx1_p : Plan := .lit (.fork (.all) (.fork (.lit (.lit (.lit (.lit (.lit (.lit (.lit (.lit (.all))))))))) (.lit (.lit (.fork (.lit (.lit (.lit (.lit (.lit (.all)))))) (.lit (.lit (.fork (.lit (.lit (.all))) (.lit (.lit (.all)))))))))))
noncomputable def vx1_t (s : List UInt8) (k : Int) (v : List (List UInt8)) (o : Bool) : Tree StopX :=
   .req (decide (1 < (v.length : Int))) (.req (small (nthW v 1)) (.node ((parseV (nthW v 1)).snd == 5)
   (.leaf (StopX.fin (Fin.pan (prob k (parseV (nthW v 1)).2) [some (Box.cells [SV.str s, I64 k])])))
   (.node (o)
    (.req (true) (.leaf (StopX.at (loopOf Tryd.prog 36 0) 78 (slotsS 78 [(0, SV.ptr 0 0), (2, SV.ptr 1 0), (3, SV.list Ty.str v), (4, SV.ptr 2 0), (5, SV.bool true), (26, I64 1)]) [some (Box.cells [SV.str s, I64 k]), some (Box.cells [I64 0, I64 0, I64 0]), some (Box.cells [I64 (parseV (nthW v 1)).fst, I64 0, I64 0])])))
    (.node ((parseV (nthW v 1)).snd != 0)
     (.req (true) (.leaf (StopX.at (loopOf Tryd.prog 36 0) 78 (slotsS 78 [(0, SV.ptr 0 0), (2, SV.ptr 1 0), (3, SV.list Ty.str v), (4, SV.ptr 2 0), (5, SV.bool true), (26, I64 1)]) [some (Box.cells [SV.str s, I64 k]), some (Box.cells [I64 0, I64 0, I64 0]), some (Box.cells [I64 (parseV (nthW v 1)).fst, I64 0, I64 0])])))
     (.node (decide ((parseV (nthW v 1)).fst < -65536))
      (.req (true) (.leaf (StopX.at (loopOf Tryd.prog 36 0) 78 (slotsS 78 [(0, SV.ptr 0 0), (2, SV.ptr 1 0), (3, SV.list Ty.str v), (4, SV.ptr 2 0), (5, SV.bool true), (26, I64 1)]) [some (Box.cells [SV.str s, I64 k]), some (Box.cells [I64 0, I64 0, I64 0]), some (Box.cells [I64 (parseV (nthW v 1)).fst, I64 0, I64 0])])))
      (.req (true) (.leaf (StopX.at (loopOf Tryd.prog 36 0) 78 (slotsS 78 [(0, SV.ptr 0 0), (2, SV.ptr 1 0), (3, SV.list Ty.str v), (4, SV.ptr 2 0), (5, SV.bool (decide ((parseV (nthW v 1)).fst > 65536))), (26, I64 1)]) [some (Box.cells [SV.str s, I64 k]), some (Box.cells [I64 0, I64 0, I64 0]), some (Box.cells [I64 (parseV (nthW v 1)).fst, I64 0, I64 0])]))))))))
theorem vx1 (s : List UInt8) (k : Int) (v : List (List UInt8)) (o : Bool) : segX (Env.ofB Tryd.prog (sumOf [fNP]) (wrOf []) (pnOf [fNext]) (bxOf []) (rdOf []) (rdOf []) (rdOf []) (rdOf [])) 1000 (fnOf Tryd.prog 36) 1  (keepS 78 [0,2,3,4,5,26]) (loopOf Tryd.prog 36 0) vx1_p (slotsS 78 [(0, .ptr 0 0), (2, .ptr 1 0), (3, .list .str v), (4, .ptr 2 0), (5, .bool o), (26, I64 0)]) [some (.cells [.str s, I64 k]), some (.cells [I64 0, I64 0, I64 0]), some (.cells [I64 0, I64 0, I64 0])] = vx1_t s k v o := by kernel_rfl
def vx2_p : Plan := .lit (.fork (.all) (.fork (.lit (.lit (.lit (.lit (.lit (.lit (.lit (.lit (.all))))))))) (.lit (.lit (.fork (.lit (.lit (.lit (.lit (.lit (.all)))))) (.lit (.lit (.fork (.lit (.lit (.all))) (.lit (.lit (.all)))))))))))
noncomputable def vx2_t (s : List UInt8) (k : Int) (v : List (List UInt8)) (o : Bool) (x : Int) : Tree StopX :=
   .req (decide (2 < (v.length : Int))) (.req (small (nthW v 2)) (.node ((parseV (nthW v 2)).snd == 5)
   (.leaf (StopX.fin (Fin.pan (prob k (parseV (nthW v 2)).2) [some (Box.cells [SV.str s, I64 k])])))
   (.node (o)
    (.req (true) (.leaf (StopX.at (loopOf Tryd.prog 36 0) 78 (slotsS 78 [(0, SV.ptr 0 0), (2, SV.ptr 1 0), (3, SV.list Ty.str v), (4, SV.ptr 2 0), (5, SV.bool true), (26, I64 2)]) [some (Box.cells [SV.str s, I64 k]), some (Box.cells [I64 0, I64 0, I64 0]), some (Box.cells [I64 x, I64 (parseV (nthW v 2)).fst, I64 0])])))
    (.node ((parseV (nthW v 2)).snd != 0)
     (.req (true) (.leaf (StopX.at (loopOf Tryd.prog 36 0) 78 (slotsS 78 [(0, SV.ptr 0 0), (2, SV.ptr 1 0), (3, SV.list Ty.str v), (4, SV.ptr 2 0), (5, SV.bool true), (26, I64 2)]) [some (Box.cells [SV.str s, I64 k]), some (Box.cells [I64 0, I64 0, I64 0]), some (Box.cells [I64 x, I64 (parseV (nthW v 2)).fst, I64 0])])))
     (.node (decide ((parseV (nthW v 2)).fst < -65536))
      (.req (true) (.leaf (StopX.at (loopOf Tryd.prog 36 0) 78 (slotsS 78 [(0, SV.ptr 0 0), (2, SV.ptr 1 0), (3, SV.list Ty.str v), (4, SV.ptr 2 0), (5, SV.bool true), (26, I64 2)]) [some (Box.cells [SV.str s, I64 k]), some (Box.cells [I64 0, I64 0, I64 0]), some (Box.cells [I64 x, I64 (parseV (nthW v 2)).fst, I64 0])])))
      (.req (true) (.leaf (StopX.at (loopOf Tryd.prog 36 0) 78 (slotsS 78 [(0, SV.ptr 0 0), (2, SV.ptr 1 0), (3, SV.list Ty.str v), (4, SV.ptr 2 0), (5, SV.bool (decide ((parseV (nthW v 2)).fst > 65536))), (26, I64 2)]) [some (Box.cells [SV.str s, I64 k]), some (Box.cells [I64 0, I64 0, I64 0]), some (Box.cells [I64 x, I64 (parseV (nthW v 2)).fst, I64 0])]))))))))
theorem vx2 (s : List UInt8) (k : Int) (v : List (List UInt8)) (o : Bool) (x : Int) : segX (Env.ofB Tryd.prog (sumOf [fNP]) (wrOf []) (pnOf [fNext]) (bxOf []) (rdOf []) (rdOf []) (rdOf []) (rdOf [])) 1000 (fnOf Tryd.prog 36) 1  (keepS 78 [0,2,3,4,5,26]) (loopOf Tryd.prog 36 0) vx2_p (slotsS 78 [(0, .ptr 0 0), (2, .ptr 1 0), (3, .list .str v), (4, .ptr 2 0), (5, .bool o), (26, I64 1)]) [some (.cells [.str s, I64 k]), some (.cells [I64 0, I64 0, I64 0]), some (.cells [I64 x, I64 0, I64 0])] = vx2_t s k v o x := by kernel_rfl
def vx3_p : Plan := .lit (.fork (.all) (.fork (.lit (.lit (.lit (.lit (.lit (.lit (.lit (.lit (.all))))))))) (.lit (.lit (.fork (.lit (.lit (.lit (.lit (.lit (.all)))))) (.lit (.lit (.fork (.lit (.lit (.all))) (.lit (.lit (.all)))))))))))
noncomputable def vx3_t (s : List UInt8) (k : Int) (v : List (List UInt8)) (o : Bool) (x y : Int) : Tree StopX :=
   .req (decide (3 < (v.length : Int))) (.req (small (nthW v 3)) (.node ((parseV (nthW v 3)).snd == 5)
   (.leaf (StopX.fin (Fin.pan (prob k (parseV (nthW v 3)).2) [some (Box.cells [SV.str s, I64 k])])))
   (.node (o)
    (.req (true) (.leaf (StopX.at (loopOf Tryd.prog 36 0) 78 (slotsS 78 [(0, SV.ptr 0 0), (2, SV.ptr 1 0), (3, SV.list Ty.str v), (4, SV.ptr 2 0), (5, SV.bool true), (26, I64 3)]) [some (Box.cells [SV.str s, I64 k]), some (Box.cells [I64 0, I64 0, I64 0]), some (Box.cells [I64 x, I64 y, I64 (parseV (nthW v 3)).fst])])))
    (.node ((parseV (nthW v 3)).snd != 0)
     (.req (true) (.leaf (StopX.at (loopOf Tryd.prog 36 0) 78 (slotsS 78 [(0, SV.ptr 0 0), (2, SV.ptr 1 0), (3, SV.list Ty.str v), (4, SV.ptr 2 0), (5, SV.bool true), (26, I64 3)]) [some (Box.cells [SV.str s, I64 k]), some (Box.cells [I64 0, I64 0, I64 0]), some (Box.cells [I64 x, I64 y, I64 (parseV (nthW v 3)).fst])])))
     (.node (decide ((parseV (nthW v 3)).fst < -65536))
      (.req (true) (.leaf (StopX.at (loopOf Tryd.prog 36 0) 78 (slotsS 78 [(0, SV.ptr 0 0), (2, SV.ptr 1 0), (3, SV.list Ty.str v), (4, SV.ptr 2 0), (5, SV.bool true), (26, I64 3)]) [some (Box.cells [SV.str s, I64 k]), some (Box.cells [I64 0, I64 0, I64 0]), some (Box.cells [I64 x, I64 y, I64 (parseV (nthW v 3)).fst])])))
      (.req (true) (.leaf (StopX.at (loopOf Tryd.prog 36 0) 78 (slotsS 78 [(0, SV.ptr 0 0), (2, SV.ptr 1 0), (3, SV.list Ty.str v), (4, SV.ptr 2 0), (5, SV.bool (decide ((parseV (nthW v 3)).fst > 65536))), (26, I64 3)]) [some (Box.cells [SV.str s, I64 k]), some (Box.cells [I64 0, I64 0, I64 0]), some (Box.cells [I64 x, I64 y, I64 (parseV (nthW v 3)).fst])]))))))))
theorem vx3 (s : List UInt8) (k : Int) (v : List (List UInt8)) (o : Bool) (x y : Int) : segX (Env.ofB Tryd.prog (sumOf [fNP]) (wrOf []) (pnOf [fNext]) (bxOf []) (rdOf []) (rdOf []) (rdOf []) (rdOf [])) 1000 (fnOf Tryd.prog 36) 1  (keepS 78 [0,2,3,4,5,26]) (loopOf Tryd.prog 36 0) vx3_p (slotsS 78 [(0, .ptr 0 0), (2, .ptr 1 0), (3, .list .str v), (4, .ptr 2 0), (5, .bool o), (26, I64 2)]) [some (.cells [.str s, I64 k]), some (.cells [I64 0, I64 0, I64 0]), some (.cells [I64 x, I64 y, I64 0])] = vx3_t s k v o x y := by kernel_rfl
def vx4_p : Plan := .lit (.fork (.all) (.all))
noncomputable def vx4_t (s : List UInt8) (k : Int) (v : List (List UInt8)) (o : Bool) (x y z : Int) : Tree StopX :=
   .node (o)
 (.leaf (StopX.fin (Fin.pan (prob k 8) [some (Box.cells [SV.str s, I64 k])])))
 (.req (true) (.req (true) (.req (true) (.leaf (StopX.fin (Fin.ret (SV.agg [I64 x, I64 y, I64 z]) [some (Box.cells [SV.str s, I64 k])]))))))
theorem vx4 (s : List UInt8) (k : Int) (v : List (List UInt8)) (o : Bool) (x y z : Int) : segX (Env.ofB Tryd.prog (sumOf [fNP]) (wrOf []) (pnOf [fNext]) (bxOf []) (rdOf []) (rdOf []) (rdOf []) (rdOf [])) 1000 (fnOf Tryd.prog 36) 1  (keepS 78 [0,2,3,4,5,26]) (loopOf Tryd.prog 36 0) vx4_p (slotsS 78 [(0, .ptr 0 0), (2, .ptr 1 0), (3, .list .str v), (4, .ptr 2 0), (5, .bool o), (26, I64 3)]) [some (.cells [.str s, I64 k]), some (.cells [I64 0, I64 0, I64 0]), some (.cells [I64 x, I64 y, I64 z])] = vx4_t s k v o x y z := by kernel_rfl
end Go.Proofs.YtlhkgeoahblffaaDoor
