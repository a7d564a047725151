/-
  G2: the segments of the small functions. Written by gen.py.
-/
import Derived.Test.YtibpodgdondakaaG1
set_option linter.unusedSimpArgs false
set_option linter.unusedVariables false
set_option maxRecDepth 100000
namespace Go.Proofs.Ytibpodgdondakaa
open Go.Sx
def xor0_p : Plan := .all
noncomputable def xor0_t (s : List UInt8) : Tree Stop :=
   .leaf (Stop.at (loopOf Try.prog 48 0) 18 (slotsS 18 [(0, SV.str s), (3, SV.int IntKind.u8 0), (6, I64 (↑s.length : Int)), (7, I64 0)]) [])
theorem xor0 (s : List UInt8) : segR (Env.of Try.prog (sumOf [])) 1000 (fnOf Try.prog 48) .unit (keepS 18 [0, 3, 6, 7]) (codeS Try.prog 48) xor0_p (startS Try.prog 48 [.str s]) [] = xor0_t s := by kernel_rfl
def xor1_p : Plan := .fork (.all) (.all)
noncomputable def xor1_t (s : List UInt8) (x k i : Int) : Tree Stop :=
   .node (decide (i < k))
 (.req (decide (0 ≤ i) && decide (i < (↑s.length : Int))) (.leaf (Stop.at (loopOf Try.prog 48 0) 18 (slotsS 18 [(0, SV.str s), (3, SV.int IntKind.u8 (IntKind.u8.wrap ↑(BitVec.ofInt 8 x ^^^ BitVec.ofInt 8 (bt s i)).toNat)), (6, I64 k), (7, I64 (IntKind.i64.wrap (i + 1)))]) [])))
 (.leaf (Stop.done (I64 (IntKind.i64.wrap x))))
theorem xor1 (s : List UInt8) (x k i : Int) : segR (Env.of Try.prog (sumOf [])) 1000 (fnOf Try.prog 48) .unit (keepS 18 [0, 3, 6, 7]) (loopOf Try.prog 48 0) xor1_p (slotsS 18 [(0, .str s), (3, .int .u8 x), (6, I64 k), (7, I64 i)]) [] = xor1_t s x k i := by kernel_rfl
def xorR0_p : Plan := .all
noncomputable def xorR0_t (s : List UInt8) : Tree Stop :=
   .leaf (Stop.at (loopOf Try.prog 52 0) 18 (slotsS 18 [(0, SV.str s), (3, I64 0), (4, I64 0)]) [])
theorem xorR0 (s : List UInt8) : segR (Env.of Try.prog (sumOf [])) 1000 (fnOf Try.prog 52) .unit (keepS 18 [0, 3, 4]) (codeS Try.prog 52) xorR0_p (startS Try.prog 52 [.str s]) [] = xorR0_t s := by kernel_rfl
def xorR1_p : Plan := .fork (.all) (.all)
noncomputable def xorR1_t (s : List UInt8) (x i : Int) : Tree Stop :=
   .node (decide (i < (↑s.length : Int)))
 (.req (decide (0 ≤ i) && decide (i < (↑s.length : Int))) (.leaf (Stop.at (loopOf Try.prog 52 0) 18 (slotsS 18 [(0, SV.str s), (3, I64 (IntKind.i64.wrap ↑(BitVec.ofInt 64 x ^^^ BitVec.ofInt 64 (IntKind.i64.wrap (bt s i))).toNat)), (4, I64 (IntKind.i64.wrap (i + 1)))]) [])))
 (.leaf (Stop.done (I64 x)))
theorem xorR1 (s : List UInt8) (x i : Int) : segR (Env.of Try.prog (sumOf [])) 1000 (fnOf Try.prog 52) .unit (keepS 18 [0, 3, 4]) (loopOf Try.prog 52 0) xorR1_p (slotsS 18 [(0, .str s), (3, I64 x), (4, I64 i)]) [] = xorR1_t s x i := by kernel_rfl
def plain0_p : Plan := .all
noncomputable def plain0_t (s : List UInt8) : Tree Stop :=
   .leaf (Stop.at (loopOf Try.prog 37 0) 26 (slotsS 26 [(0, SV.str s), (5, I64 (↑s.length : Int)), (6, I64 0)]) [])
theorem plain0 (s : List UInt8) : segR (Env.of Try.prog (sumOf [])) 1000 (fnOf Try.prog 37) .unit (keepS 26 [0, 5, 6]) (codeS Try.prog 37) plain0_p (startS Try.prog 37 [.str s]) [] = plain0_t s := by kernel_rfl
def plain1_p : Plan := .fork (.fork (.lit (.lit (.lit (.lit (.lit (.lit (.lit (.lit (.lit (.lit (.all))))))))))) (.lit (.lit (.lit (.lit (.fork (.lit (.lit (.lit (.lit (.lit (.all)))))) (.lit (.lit (.lit (.lit (.fork (.all) (.all)))))))))))) (.all)
noncomputable def plain1_t (s : List UInt8) (k i : Int) : Tree Stop :=
   .node (decide (i < k))
 (.req (decide (0 ≤ i) && decide (i < (↑s.length : Int))) (.node (decide ((bt s i) < 32))
   (.leaf (Stop.done (SV.bool false)))
   (.req (decide (0 ≤ i) && decide (i < (↑s.length : Int))) (.node (decide ((bt s i) > 126))
     (.leaf (Stop.done (SV.bool false)))
     (.req (decide (0 ≤ i) && decide (i < (↑s.length : Int))) (.node ((bt s i) == 42)
       (.leaf (Stop.done (SV.bool false)))
       (.leaf (Stop.at (loopOf Try.prog 37 0) 26 (slotsS 26 [(0, SV.str s), (5, I64 k), (6, I64 (IntKind.i64.wrap (i + 1)))]) []))))))))
 (.leaf (Stop.done (SV.bool true)))
theorem plain1 (s : List UInt8) (k i : Int) : segR (Env.of Try.prog (sumOf [])) 1000 (fnOf Try.prog 37) .unit (keepS 26 [0, 5, 6]) (loopOf Try.prog 37 0) plain1_p (slotsS 26 [(0, .str s), (5, I64 k), (6, I64 i)]) [] = plain1_t s k i := by kernel_rfl
def plainR0_p : Plan := .all
noncomputable def plainR0_t (s : List UInt8) : Tree Stop :=
   .leaf (Stop.at (loopOf Try.prog 40 0) 26 (slotsS 26 [(0, SV.str s), (3, I64 0)]) [])
theorem plainR0 (s : List UInt8) : segR (Env.of Try.prog (sumOf [])) 1000 (fnOf Try.prog 40) .unit (keepS 26 [0, 3]) (codeS Try.prog 40) plainR0_p (startS Try.prog 40 [.str s]) [] = plainR0_t s := by kernel_rfl
def plainR1_p : Plan := .fork (.fork (.lit (.lit (.lit (.lit (.lit (.lit (.lit (.lit (.lit (.lit (.all))))))))))) (.lit (.lit (.lit (.lit (.fork (.lit (.lit (.lit (.lit (.lit (.all)))))) (.lit (.lit (.lit (.lit (.fork (.all) (.all)))))))))))) (.all)
noncomputable def plainR1_t (s : List UInt8) (i : Int) : Tree Stop :=
   .node (decide (i < (↑s.length : Int)))
 (.req (decide (0 ≤ i) && decide (i < (↑s.length : Int))) (.node (decide ((bt s i) < 32))
   (.leaf (Stop.done (SV.bool false)))
   (.req (decide (0 ≤ i) && decide (i < (↑s.length : Int))) (.node (decide ((bt s i) > 126))
     (.leaf (Stop.done (SV.bool false)))
     (.req (decide (0 ≤ i) && decide (i < (↑s.length : Int))) (.node ((bt s i) == 42)
       (.leaf (Stop.done (SV.bool false)))
       (.leaf (Stop.at (loopOf Try.prog 40 0) 26 (slotsS 26 [(0, SV.str s), (3, I64 (IntKind.i64.wrap (i + 1)))]) []))))))))
 (.leaf (Stop.done (SV.bool true)))
theorem plainR1 (s : List UInt8) (i : Int) : segR (Env.of Try.prog (sumOf [])) 1000 (fnOf Try.prog 40) .unit (keepS 26 [0, 3]) (loopOf Try.prog 40 0) plainR1_p (slotsS 26 [(0, .str s), (3, I64 i)]) [] = plainR1_t s i := by kernel_rfl
def find0_p : Plan := .all
noncomputable def find0_t (s : List UInt8) (c : Int) : Tree Stop :=
   .leaf (Stop.at (loopOf Try.prog 50 0) 18 (slotsS 18 [(0, SV.str s), (1, SV.int IntKind.u8 c), (5, I64 0)]) [])
theorem find0 (s : List UInt8) (c : Int) : segR (Env.of Try.prog (sumOf [])) 1000 (fnOf Try.prog 50) .unit (keepS 18 [0, 1, 5]) (codeS Try.prog 50) find0_p (startS Try.prog 50 [.str s, .int .u8 c]) [] = find0_t s c := by kernel_rfl
def find1_p : Plan := .fork (.fork (.all) (.all)) (.all)
noncomputable def find1_t (s : List UInt8) (c i : Int) : Tree Stop :=
   .node (decide (i < (↑s.length : Int)))
 (.req (decide (0 ≤ i) && decide (i < (↑s.length : Int))) (.node ((bt s i) == c)
   (.leaf (Stop.done (I64 i)))
   (.leaf (Stop.at (loopOf Try.prog 50 0) 18 (slotsS 18 [(0, SV.str s), (1, SV.int IntKind.u8 c), (5, I64 (IntKind.i64.wrap (i + 1)))]) []))))
 (.leaf (Stop.done (I64 (-1))))
theorem find1 (s : List UInt8) (c i : Int) : segR (Env.of Try.prog (sumOf [])) 1000 (fnOf Try.prog 50) .unit (keepS 18 [0, 1, 5]) (loopOf Try.prog 50 0) find1_p (slotsS 18 [(0, .str s), (1, .int .u8 c), (5, I64 i)]) [] = find1_t s c i := by kernel_rfl
def fmt0_p : Plan := .fork (.all) (.all)
noncomputable def fmt0_t (n : Int) : Tree Stop :=
   .node (decide (n < 0))
 (.req (true) (.req (true) (.leaf (Stop.at (loopOf Try.prog 39 0) 58 (slotsS 58 [(0, I64 n), (3, SV.int IntKind.u64 (IntKind.u64.wrap ((IntKind.u64.wrap (0 - IntKind.u64.wrap n)).tdiv 10))), (4, SV.arr 0 0 1), (5, SV.undef), (6, SV.undef)]) [some (Box.cells [SV.int IntKind.u8 (IntKind.u8.wrap (IntKind.u64.wrap (48 + (IntKind.u64.wrap (0 - IntKind.u64.wrap n)).tmod 10)))])]))))
 (.req (true) (.req (true) (.leaf (Stop.at (loopOf Try.prog 39 0) 58 (slotsS 58 [(0, I64 n), (3, SV.int IntKind.u64 (IntKind.u64.wrap ((IntKind.u64.wrap n).tdiv 10))), (4, SV.arr 0 0 1), (5, SV.undef), (6, SV.undef)]) [some (Box.cells [SV.int IntKind.u8 (IntKind.u8.wrap (IntKind.u64.wrap (48 + (IntKind.u64.wrap n).tmod 10)))])]))))
theorem fmt0 (n : Int) : segR (Env.of Try.prog (sumOf [])) 1000 (fnOf Try.prog 39) .unit (keepS 58 [0,3,4,5,6]) (codeS Try.prog 39) fmt0_p (startS Try.prog 39 [I64 n]) [] = fmt0_t n := by kernel_rfl
def fmt1a_p : Plan := .fork (.lit (.all)) (.fork (.lit (.all)) (.all))
noncomputable def fmt1a_t (n u d : Int) : Tree Stop :=
   .node (decide (u > 0))
 (.req (true) (.req (decide (([d].length + [IntKind.u8.wrap (IntKind.u64.wrap (48 + u.tmod 10))].length) * 1 ≤ 140737488355328)) (.req (true) (.leaf (Stop.at (loopOf Try.prog 39 0) 58 (slotsS 58 [(0, I64 n), (3, SV.int IntKind.u64 (IntKind.u64.wrap (u.tdiv 10))), (4, SV.row 0), (5, SV.undef), (6, SV.undef)]) [some (Box.rows (Ty.int IntKind.u8) ([d] ++ [IntKind.u8.wrap (IntKind.u64.wrap (48 + u.tmod 10))]))])))))
 (.node (decide (n < 0))
  (.req (decide (([d].length + 1) * 1 ≤ 140737488355328)) (.leaf (Stop.at (loopOf Try.prog 39 1) 58 (slotsS 58 [(0, I64 n), (3, SV.int IntKind.u64 u), (4, SV.row 0), (5, I64 0), (6, I64 (IntKind.i64.wrap (↑([d] ++ [45]).length - 1)))]) [some (Box.rows (Ty.int IntKind.u8) ([d] ++ [45]))])))
  (.leaf (Stop.at (loopOf Try.prog 39 1) 58 (slotsS 58 [(0, I64 n), (3, SV.int IntKind.u64 u), (4, SV.arr 0 0 1), (5, I64 0), (6, I64 0)]) [some (Box.cells [SV.int IntKind.u8 d])])))
theorem fmt1a (n u d : Int) : segR (Env.of Try.prog (sumOf [])) 1000 (fnOf Try.prog 39) .unit (keepS 58 [0,3,4,5,6]) (loopOf Try.prog 39 0) fmt1a_p (slotsS 58 [(0, I64 n), (3, .int .u64 u), (4, .arr 0 0 1), (5, .undef), (6, .undef)]) [some (.cells [.int .u8 d])] = fmt1a_t n u d := by kernel_rfl
def fmt1_p : Plan := .fork (.all) (.fork (.all) (.all))
noncomputable def fmt1_t (n u : Int) (l : List Int) : Tree Stop :=
   .node (decide (u > 0))
 (.req (true) (.req (decide ((l.length + [IntKind.u8.wrap (IntKind.u64.wrap (48 + u.tmod 10))].length) * 1 ≤ 140737488355328)) (.req (true) (.leaf (Stop.at (loopOf Try.prog 39 0) 58 (slotsS 58 [(0, I64 n), (3, SV.int IntKind.u64 (IntKind.u64.wrap (u.tdiv 10))), (4, SV.row 0), (5, SV.undef), (6, SV.undef)]) [some (Box.rows (Ty.int IntKind.u8) (l ++ [IntKind.u8.wrap (IntKind.u64.wrap (48 + u.tmod 10))]))])))))
 (.node (decide (n < 0))
  (.req (decide ((l.length + 1) * 1 ≤ 140737488355328)) (.leaf (Stop.at (loopOf Try.prog 39 1) 58 (slotsS 58 [(0, I64 n), (3, SV.int IntKind.u64 u), (4, SV.row 0), (5, I64 0), (6, I64 (IntKind.i64.wrap (↑(l ++ [45]).length - 1)))]) [some (Box.rows (Ty.int IntKind.u8) (l ++ [45]))])))
  (.leaf (Stop.at (loopOf Try.prog 39 1) 58 (slotsS 58 [(0, I64 n), (3, SV.int IntKind.u64 u), (4, SV.row 0), (5, I64 0), (6, I64 (IntKind.i64.wrap (↑l.length - 1)))]) [some (Box.rows (Ty.int IntKind.u8) l)])))
theorem fmt1 (n u : Int) (l : List Int) : segR (Env.of Try.prog (sumOf [])) 1000 (fnOf Try.prog 39) .unit (keepS 58 [0,3,4,5,6]) (loopOf Try.prog 39 0) fmt1_p (slotsS 58 [(0, I64 n), (3, .int .u64 u), (4, .row 0), (5, .undef), (6, .undef)]) [some (.rows (.int .u8) l)] = fmt1_t n u l := by kernel_rfl
def fmt2_p : Plan := .fork (.all) (.all)
noncomputable def fmt2_t (n u : Int) (l : List Int) (i k : Int) : Tree Stop :=
   .node (decide (i < k))
 (.req (decide (0 ≤ k) && decide (k < ↑l.length)) (.req (decide (k.toNat < l.length)) (.req (decide (0 ≤ i) && decide (i < ↑l.length)) (.req (decide (i.toNat < l.length)) (.req (decide (0 ≤ i) && decide (i < ↑l.length)) (.req (decide (i.toNat < l.length)) (.req (decide (0 ≤ k) && decide (k < ↑(l.set i.toNat (l.getD k.toNat 0)).length)) (.req (decide (k.toNat < (l.set i.toNat (l.getD k.toNat 0)).length)) (.leaf (Stop.at (loopOf Try.prog 39 1) 58 (slotsS 58 [(0, I64 n), (3, SV.int IntKind.u64 u), (4, SV.row 0), (5, I64 (IntKind.i64.wrap (i + 1))), (6, I64 (IntKind.i64.wrap (k - 1)))]) [some (Box.rows (Ty.int IntKind.u8) ((l.set i.toNat (l.getD k.toNat 0)).set k.toNat (l.getD i.toNat 0)))]))))))))))
 (.leaf (Stop.done (SV.str (List.map (fun n => UInt8.ofNat (Int.toNat n)) l))))
theorem fmt2 (n u : Int) (l : List Int) (i k : Int) : segR (Env.of Try.prog (sumOf [])) 1000 (fnOf Try.prog 39) .unit (keepS 58 [0,3,4,5,6]) (loopOf Try.prog 39 1) fmt2_p (slotsS 58 [(0, I64 n), (3, .int .u64 u), (4, .row 0), (5, I64 i), (6, I64 k)]) [some (.rows (.int .u8) l)] = fmt2_t n u l i k := by kernel_rfl
def fmt2a_p : Plan := .lit (.all)
noncomputable def fmt2a_t (n u d : Int) : Tree Stop :=
   .leaf (Stop.done (SV.str (List.map (fun n => UInt8.ofNat (Int.toNat n)) [d])))
theorem fmt2a (n u d : Int) : segR (Env.of Try.prog (sumOf [])) 1000 (fnOf Try.prog 39) .unit (keepS 58 [0,3,4,5,6]) (loopOf Try.prog 39 1) fmt2a_p (slotsS 58 [(0, I64 n), (3, .int .u64 u), (4, .arr 0 0 1), (5, I64 0), (6, I64 0)]) [some (.cells [.int .u8 d])] = fmt2a_t n u d := by kernel_rfl
def fmtR0_p : Plan := .fork (.all) (.all)
noncomputable def fmtR0_t (n : Int) : Tree Stop :=
   .node (decide (n < 0))
 (.leaf (Stop.at (loopOf Try.prog 42 0) 26 (slotsS 26 [(0, I64 n), (3, SV.str []), (4, SV.int IntKind.u64 (IntKind.u64.wrap (0 - IntKind.u64.wrap n))), (5, SV.bool true)]) []))
 (.leaf (Stop.at (loopOf Try.prog 42 0) 26 (slotsS 26 [(0, I64 n), (3, SV.str []), (4, SV.int IntKind.u64 (IntKind.u64.wrap n)), (5, SV.bool true)]) []))
theorem fmtR0 (n : Int) : segR (Env.of Try.prog (sumOf [])) 1000 (fnOf Try.prog 42) .unit (keepS 26 [0, 3, 4, 5]) (codeS Try.prog 42) fmtR0_p (startS Try.prog 42 [I64 n]) [] = fmtR0_t n := by kernel_rfl
def fmtR1_p : Plan := .fork (.all) (.fork (.all) (.all))
noncomputable def fmtR1_t (n : Int) (s : List UInt8) (u : Int) (b : Bool) : Tree Stop :=
   .node (b)
 (.req (true) (.req (decide ((((List.map (fun n => UInt8.ofNat (Int.toNat n)) [IntKind.u8.wrap (IntKind.u64.wrap (48 + u.tmod 10))]).length + s.length : Nat) : Int) ≤ (9223372036854775807 : Int))) (.req (true) (.leaf (Stop.at (loopOf Try.prog 42 0) 26 (slotsS 26 [(0, I64 n), (3, SV.str (List.map (fun n => UInt8.ofNat (Int.toNat n)) [IntKind.u8.wrap (IntKind.u64.wrap (48 + u.tmod 10))] ++ s)), (4, SV.int IntKind.u64 (IntKind.u64.wrap (u.tdiv 10))), (5, SV.bool (decide (IntKind.u64.wrap (u.tdiv 10) > 0)))]) [])))))
 (.node (decide (n < 0))
  (.req (decide (((1 + s.length : Nat) : Int) ≤ (9223372036854775807 : Int))) (.leaf (Stop.done (SV.str ([45] ++ s)))))
  (.leaf (Stop.done (SV.str s))))
theorem fmtR1 (n : Int) (s : List UInt8) (u : Int) (b : Bool) : segR (Env.of Try.prog (sumOf [])) 1000 (fnOf Try.prog 42) .unit (keepS 26 [0, 3, 4, 5]) (loopOf Try.prog 42 0) fmtR1_p (slotsS 26 [(0, I64 n), (3, .str s), (4, .int .u64 u), (5, .bool b)]) [] = fmtR1_t n s u b := by kernel_rfl
def num0_p : Plan := .fork (.lit (.lit (.lit (.lit (.lit (.lit (.all))))))) (.lit (.lit (.lit (.fork (.lit (.lit (.lit (.lit (.lit (.fork (.all) (.all))))))) (.lit (.lit (.lit (.lit (.lit (.lit (.all)))))))))))
noncomputable def num0_t (s : List UInt8) (M : Int) : Tree Stop :=
   .node (s == [])
 (.leaf (Stop.done (SV.tuple [I64 0, SV.bool false])))
 (.req (true && decide (0 < (↑s.length : Int))) (.node ((bt s 0) == 48)
   (.node (decide ((↑s.length : Int) > 1))
    (.leaf (Stop.done (SV.tuple [I64 0, SV.bool false])))
    (.leaf (Stop.at (loopOf Try.prog 47 0) 42 (slotsS 42 [(0, SV.str s), (1, I64 M), (6, I64 0), (22, SV.ptr 0 0)]) [some (Box.iter s 0)])))
   (.leaf (Stop.at (loopOf Try.prog 47 0) 42 (slotsS 42 [(0, SV.str s), (1, I64 M), (6, I64 0), (22, SV.ptr 0 0)]) [some (Box.iter s 0)]))))
theorem num0 (s : List UInt8) (M : Int) : segR (Env.of Try.prog (sumOf [])) 1000 (fnOf Try.prog 47) .unit (keepS 42 [0,1,6,22]) (codeS Try.prog 47) num0_p (startS Try.prog 47 [.str s, I64 M]) [] = num0_t s M := by kernel_rfl
def num1_p : Plan := .fork (.lit (.fork (.lit (.lit (.lit (.all)))) (.lit (.lit (.fork (.all) (.fork (.all) (.all))))))) (.lit (.all))
noncomputable def num1_t (s : List UInt8) (M n : Int) (p : Nat) : Tree Stop :=
   .node (decide (p < s.length))
 (.node (decide ((rn s p) < 48))
  (.leaf (Stop.done (SV.tuple [I64 0, SV.bool false])))
  (.node (decide ((rn s p) > 57))
   (.leaf (Stop.done (SV.tuple [I64 0, SV.bool false])))
   (.node (decide (IntKind.i64.wrap (IntKind.i64.wrap (10 * n) + IntKind.i64.wrap (IntKind.i32.wrap ((rn s p) - 48))) > M))
    (.leaf (Stop.done (SV.tuple [I64 0, SV.bool false])))
    (.leaf (Stop.at (loopOf Try.prog 47 0) 42 (slotsS 42 [(0, SV.str s), (1, I64 M), (6, I64 (IntKind.i64.wrap (IntKind.i64.wrap (10 * n) + IntKind.i64.wrap (IntKind.i32.wrap ((rn s p) - 48))))), (22, SV.ptr 0 0)]) [some (Box.iter s (p + (Utf8.decode (ByteArray.mk (Array.mk s)) p).snd))])))))
 (.leaf (Stop.done (SV.tuple [I64 n, SV.bool true])))
theorem num1 (s : List UInt8) (M n : Int) (p : Nat) : segR (Env.of Try.prog (sumOf [])) 1000 (fnOf Try.prog 47) .unit (keepS 42 [0,1,6,22]) (loopOf Try.prog 47 0) num1_p (slotsS 42 [(0, .str s), (1, I64 M), (6, I64 n), (22, .ptr 0 0)]) [some (.iter s p)] = num1_t s M n p := by kernel_rfl
end Go.Proofs.Ytibpodgdondakaa
