/-
  GB1: the bytes of numbers: segments. Written by gen.py.
  B2: the bytes of numbers: contracts and facts.
  GB3: the segments of Pack and Unpack, and the reference's. Written by gen.py.
  B4: Pack, Unpack and the reference's: contracts.
  B5: Unpack and the reference's: contracts; the law of the bytes.
  B6: the laws of the bytes; the example of the bytes.
  GC1: the laws StlPacks, StlUnpacks, StlBytes: contracts. Written by gen.py.
  C2: the law StlBytes: contract.
-/
import Derived.Test.YtlhkgeoahblffaaDoorZA10
import Derived.Test.YtlhkgeoahblffaaDoorZB1
import Derived.Test.YtlhkgeoahblffaaDoorZA9
set_option linter.unusedSimpArgs false
set_option linter.unusedVariables false
set_option maxRecDepth 100000
namespace Go.Proofs.YtlhkgeoahblffaaDoor
open Go.Sx
def nu0_p : Plan := .all
noncomputable def nu0_t (s : List UInt8) : Tree Stop :=
   .leaf (Stop.at (loopOf Tryd.prog 68 0) 19 (slotsS 19 [(0, SV.str s), (3, SV.int IntKind.u64 0), (4, I64 0)]) [])
theorem nu0 (s : List UInt8) : segR (Env.of Tryd.prog (sumOf [])) 1000 (fnOf Tryd.prog 68) .unit (keepS 19 [0,3,4]) (codeS Tryd.prog 68) nu0_p (startS Tryd.prog 68 [.str s]) [] = nu0_t s := by kernel_rfl
def nu1_p : Plan := .fork (.all) (.all)
noncomputable def nu1_t (s : List UInt8) (u i : Int) : Tree Stop :=
   .node (decide (i < ((s.length : Nat) : Int)))
 (.req (decide (0 ≤ i) && decide (i < ((s.length : Nat) : Int))) (.leaf (Stop.at (loopOf Tryd.prog 68 0) 19 (slotsS 19 [(0, SV.str s), (3, SV.int IntKind.u64 (IntKind.u64.wrap (IntKind.u64.wrap (u * 256) + IntKind.u64.wrap ((bt s i) : Int)))), (4, I64 (IntKind.i64.wrap (i + 1)))]) [])))
 (.leaf (Stop.done (SV.int IntKind.u64 u)))
theorem nu1 (s : List UInt8) (u i : Int) : segR (Env.of Tryd.prog (sumOf [])) 1000 (fnOf Tryd.prog 68) .unit (keepS 19 [0,3,4]) (loopOf Tryd.prog 68 0) nu1_p (slotsS 19 [(0, .str s), (3, .int .u64 u), (4, I64 i)]) [] = nu1_t s u i := by kernel_rfl
/-- The number of some bytes, behind others. -/
def numW : Int → List UInt8 → Int
  | u, [] => u
  | u, b :: l => numW (IntKind.u64.wrap (IntKind.u64.wrap (u * 256) + IntKind.u64.wrap (b.toNat : Int))) l
def fNum : Fact := ⟨68, fun args => match args with
  | [.str s] => some (.req (decide ((s.length : Int) ≤ 100000)) (.leaf (.int .u64 (numW 0 s))))
  | _ => none⟩
/-- Four bytes, put together bit by bit. -/
def tkP (s : List UInt8) (a : Int) : Int := IntKind.u64.wrap (↑(BitVec.ofInt 64 (IntKind.u64.wrap (IntKind.u64.wrap (↑(BitVec.ofInt 64 (IntKind.u64.wrap (IntKind.u64.wrap (↑(BitVec.ofInt 64 (IntKind.u64.wrap (IntKind.u64.wrap (↑(BitVec.ofInt 64 0 ||| BitVec.ofInt 64 (IntKind.u64.wrap (↑(s.getD (IntKind.i64.wrap (a + 0)).toNat 0).toNat : Int))).toNat : Int) * 256)) ||| BitVec.ofInt 64 (IntKind.u64.wrap (↑(s.getD (IntKind.i64.wrap (a + 1)).toNat 0).toNat : Int))).toNat : Int) * 256)) ||| BitVec.ofInt 64 (IntKind.u64.wrap (↑(s.getD (IntKind.i64.wrap (a + 2)).toNat 0).toNat : Int))).toNat : Int) * 256)) ||| BitVec.ofInt 64 (IntKind.u64.wrap (↑(s.getD (IntKind.i64.wrap (a + 3)).toNat 0).toNat : Int))).toNat : Int)
def u4_p : Plan := .lit (.lit (.lit (.lit (.fork (.lit (.lit (.lit (.lit (.lit (.lit (.all))))))) (.lit (.lit (.lit (.lit (.lit (.lit (.lit (.lit (.lit (.lit (.lit (.fork (.all) (.go (.lit (.go (.lit (.go (.lit (.go (.lit (.go (.lit (.all)))))))))))))))))))))))))))
noncomputable def u4_t (n : Int) : Tree Stop :=
   .node (decide (n < 0))
 (.leaf (Stop.done (SV.tuple [SV.str [], I64 3])))
 (.req (true) (.node (!decide (IntKind.u64.wrap n < 4294967296))
   (.leaf (Stop.done (SV.tuple [SV.str [], I64 3])))
   (.req (true) (.req (true) (.req (decide ((0 + [IntKind.u8.wrap ((IntKind.u64.wrap n).fdiv 16777216)].length) * 1 ≤ 140737488355328)) (.req (true) (.req (decide (([IntKind.u8.wrap ((IntKind.u64.wrap n).fdiv 16777216)].length + [IntKind.u8.wrap ((IntKind.u64.wrap n).fdiv 65536)].length) * 1 ≤ 140737488355328)) (.req (true) (.req (decide ((([IntKind.u8.wrap ((IntKind.u64.wrap n).fdiv 16777216)] ++ [IntKind.u8.wrap ((IntKind.u64.wrap n).fdiv 65536)]).length + [IntKind.u8.wrap ((IntKind.u64.wrap n).fdiv 256)].length) * 1 ≤ 140737488355328)) (.req (true) (.req (decide ((([IntKind.u8.wrap ((IntKind.u64.wrap n).fdiv 16777216)] ++ [IntKind.u8.wrap ((IntKind.u64.wrap n).fdiv 65536)] ++ [IntKind.u8.wrap ((IntKind.u64.wrap n).fdiv 256)]).length + [IntKind.u8.wrap ((IntKind.u64.wrap n).fdiv 1)].length) * 1 ≤ 140737488355328)) (.leaf (Stop.done (SV.tuple [SV.str (List.map (fun n => UInt8.ofNat (Int.toNat n)) ([IntKind.u8.wrap ((IntKind.u64.wrap n).fdiv 16777216)] ++ [IntKind.u8.wrap ((IntKind.u64.wrap n).fdiv 65536)] ++ [IntKind.u8.wrap ((IntKind.u64.wrap n).fdiv 256)] ++ [IntKind.u8.wrap ((IntKind.u64.wrap n).fdiv 1)])), I64 0]))))))))))))))
theorem u4 (n : Int) : segR (Env.of Tryd.prog (sumOf [])) 1000 (fnOf Tryd.prog 42) .unit (keepS 25 []) (codeS Tryd.prog 42) u4_p (startS Tryd.prog 42 [I64 n, I64 4]) [] = u4_t n := by kernel_rfl
def i4_p : Plan := .lit (.lit (.lit (.lit (.lit (.lit (.lit (.lit (.lit (.fork (.lit (.lit (.lit (.lit (.lit (.lit (.all))))))) (.lit (.lit (.lit (.lit (.lit (.fork (.all) (.go (.lit (.go (.lit (.go (.lit (.go (.lit (.go (.lit (.all))))))))))))))))))))))))))
noncomputable def i4_t (n : Int) : Tree Stop :=
   .req (true) (.node (decide (n < -2147483648))
  (.leaf (Stop.done (SV.tuple [SV.str [], I64 3])))
  (.node (decide (n ≥ 2147483648))
   (.leaf (Stop.done (SV.tuple [SV.str [], I64 3])))
   (.req (true) (.req (true) (.req (decide ((0 + [IntKind.u8.wrap ((IntKind.u64.wrap n).fdiv 16777216)].length) * 1 ≤ 140737488355328)) (.req (true) (.req (decide (([IntKind.u8.wrap ((IntKind.u64.wrap n).fdiv 16777216)].length + [IntKind.u8.wrap ((IntKind.u64.wrap n).fdiv 65536)].length) * 1 ≤ 140737488355328)) (.req (true) (.req (decide ((([IntKind.u8.wrap ((IntKind.u64.wrap n).fdiv 16777216)] ++ [IntKind.u8.wrap ((IntKind.u64.wrap n).fdiv 65536)]).length + [IntKind.u8.wrap ((IntKind.u64.wrap n).fdiv 256)].length) * 1 ≤ 140737488355328)) (.req (true) (.req (decide ((([IntKind.u8.wrap ((IntKind.u64.wrap n).fdiv 16777216)] ++ [IntKind.u8.wrap ((IntKind.u64.wrap n).fdiv 65536)] ++ [IntKind.u8.wrap ((IntKind.u64.wrap n).fdiv 256)]).length + [IntKind.u8.wrap ((IntKind.u64.wrap n).fdiv 1)].length) * 1 ≤ 140737488355328)) (.leaf (Stop.done (SV.tuple [SV.str (List.map (fun n => UInt8.ofNat (Int.toNat n)) ([IntKind.u8.wrap ((IntKind.u64.wrap n).fdiv 16777216)] ++ [IntKind.u8.wrap ((IntKind.u64.wrap n).fdiv 65536)] ++ [IntKind.u8.wrap ((IntKind.u64.wrap n).fdiv 256)] ++ [IntKind.u8.wrap ((IntKind.u64.wrap n).fdiv 1)])), I64 0]))))))))))))))
theorem i4 (n : Int) : segR (Env.of Tryd.prog (sumOf [])) 1000 (fnOf Tryd.prog 43) .unit (keepS 32 []) (codeS Tryd.prog 43) i4_p (startS Tryd.prog 43 [I64 n, I64 4]) [] = i4_t n := by kernel_rfl
def uR4_p : Plan := .lit (.lit (.lit (.lit (.fork (.lit (.lit (.lit (.lit (.lit (.all)))))) (.lit (.lit (.lit (.lit (.lit (.lit (.lit (.lit (.lit (.lit (.lit (.fork (.all) (.go (.lit (.go (.lit (.go (.lit (.go (.lit (.go (.lit (.all)))))))))))))))))))))))))))
noncomputable def uR4_t (n : Int) : Tree Stop :=
   .node (decide (n < 0))
 (.leaf (Stop.done (SV.tuple [SV.str [], I64 3])))
 (.req (true) (.node (decide (n ≥ 4294967296))
   (.leaf (Stop.done (SV.tuple [SV.str [], I64 3])))
   (.req (true) (.req (true) (.req (true) (.req (true) (.req (true) (.req (true) (.req (decide (2 < (↑((List.replicate 4 0).set 3 (IntKind.u8.wrap ((IntKind.u64.wrap n).tmod 256))).length : Int))) (.req (decide (2 < ((List.replicate 4 0).set 3 (IntKind.u8.wrap ((IntKind.u64.wrap n).tmod 256))).length)) (.req (true) (.req (true) (.req (decide (1 < (↑(((List.replicate 4 0).set 3 (IntKind.u8.wrap ((IntKind.u64.wrap n).tmod 256))).set 2 (IntKind.u8.wrap ((IntKind.u64.wrap ((IntKind.u64.wrap n).tdiv 256)).tmod 256))).length : Int))) (.req (decide (1 < (((List.replicate 4 0).set 3 (IntKind.u8.wrap ((IntKind.u64.wrap n).tmod 256))).set 2 (IntKind.u8.wrap ((IntKind.u64.wrap ((IntKind.u64.wrap n).tdiv 256)).tmod 256))).length)) (.req (true) (.req (true) (.req (decide (0 < (↑((((List.replicate 4 0).set 3 (IntKind.u8.wrap ((IntKind.u64.wrap n).tmod 256))).set 2 (IntKind.u8.wrap ((IntKind.u64.wrap ((IntKind.u64.wrap n).tdiv 256)).tmod 256))).set 1 (IntKind.u8.wrap ((IntKind.u64.wrap ((IntKind.u64.wrap ((IntKind.u64.wrap n).tdiv 256)).tdiv 256)).tmod 256))).length : Int))) (.req (decide (0 < ((((List.replicate 4 0).set 3 (IntKind.u8.wrap ((IntKind.u64.wrap n).tmod 256))).set 2 (IntKind.u8.wrap ((IntKind.u64.wrap ((IntKind.u64.wrap n).tdiv 256)).tmod 256))).set 1 (IntKind.u8.wrap ((IntKind.u64.wrap ((IntKind.u64.wrap ((IntKind.u64.wrap n).tdiv 256)).tdiv 256)).tmod 256))).length)) (.req (true) (.leaf (Stop.done (SV.tuple [SV.str (List.map (fun n => UInt8.ofNat (Int.toNat n)) (((((List.replicate 4 0).set 3 (IntKind.u8.wrap ((IntKind.u64.wrap n).tmod 256))).set 2 (IntKind.u8.wrap ((IntKind.u64.wrap ((IntKind.u64.wrap n).tdiv 256)).tmod 256))).set 1 (IntKind.u8.wrap ((IntKind.u64.wrap ((IntKind.u64.wrap ((IntKind.u64.wrap n).tdiv 256)).tdiv 256)).tmod 256))).set 0 (IntKind.u8.wrap ((IntKind.u64.wrap ((IntKind.u64.wrap ((IntKind.u64.wrap ((IntKind.u64.wrap n).tdiv 256)).tdiv 256)).tdiv 256)).tmod 256)))), I64 0]))))))))))))))))))))))
theorem uR4 (n : Int) : segR (Env.of Tryd.prog (sumOf [])) 1000 (fnOf Tryd.prog 44) .unit (keepS 27 []) (codeS Tryd.prog 44) uR4_p (startS Tryd.prog 44 [I64 n, I64 4]) [] = uR4_t n := by kernel_rfl
def co4_p : Plan := .lit (.lit (.lit (.lit (.lit (.lit (.lit (.lit (.lit (.lit (.lit (.lit (.lit (.fork (.lit (.lit (.lit (.lit (.lit (.lit (.lit (.lit (.lit (.lit (.all))))))))))) (.lit (.lit (.lit (.lit (.lit (.lit (.lit (.lit (.lit (.fork (.all) (.go (.lit (.go (.lit (.go (.lit (.go (.lit (.go (.lit (.all))))))))))))))))))))))))))))))))))
noncomputable def co4_t (n : Int) : Tree Stop :=
   .req (true) (.node (decide (n < -2147483648))
  (.leaf (Stop.done (SV.str [])))
  (.req (true) (.node (decide (n ≥ 2147483648))
    (.leaf (Stop.done (SV.str [])))
    (.req (true) (.req (true) (.req (true) (.req (true) (.req (true) (.req (true) (.req (decide (2 < (↑((List.replicate 4 0).set 3 (IntKind.u8.wrap ((IntKind.u64.wrap n).tmod 256))).length : Int))) (.req (decide (2 < ((List.replicate 4 0).set 3 (IntKind.u8.wrap ((IntKind.u64.wrap n).tmod 256))).length)) (.req (true) (.req (true) (.req (decide (1 < (↑(((List.replicate 4 0).set 3 (IntKind.u8.wrap ((IntKind.u64.wrap n).tmod 256))).set 2 (IntKind.u8.wrap ((IntKind.u64.wrap ((IntKind.u64.wrap n).tdiv 256)).tmod 256))).length : Int))) (.req (decide (1 < (((List.replicate 4 0).set 3 (IntKind.u8.wrap ((IntKind.u64.wrap n).tmod 256))).set 2 (IntKind.u8.wrap ((IntKind.u64.wrap ((IntKind.u64.wrap n).tdiv 256)).tmod 256))).length)) (.req (true) (.req (true) (.req (decide (0 < (↑((((List.replicate 4 0).set 3 (IntKind.u8.wrap ((IntKind.u64.wrap n).tmod 256))).set 2 (IntKind.u8.wrap ((IntKind.u64.wrap ((IntKind.u64.wrap n).tdiv 256)).tmod 256))).set 1 (IntKind.u8.wrap ((IntKind.u64.wrap ((IntKind.u64.wrap ((IntKind.u64.wrap n).tdiv 256)).tdiv 256)).tmod 256))).length : Int))) (.req (decide (0 < ((((List.replicate 4 0).set 3 (IntKind.u8.wrap ((IntKind.u64.wrap n).tmod 256))).set 2 (IntKind.u8.wrap ((IntKind.u64.wrap ((IntKind.u64.wrap n).tdiv 256)).tmod 256))).set 1 (IntKind.u8.wrap ((IntKind.u64.wrap ((IntKind.u64.wrap ((IntKind.u64.wrap n).tdiv 256)).tdiv 256)).tmod 256))).length)) (.req (true) (.leaf (Stop.done (SV.str (List.map (fun n => UInt8.ofNat (Int.toNat n)) (((((List.replicate 4 0).set 3 (IntKind.u8.wrap ((IntKind.u64.wrap n).tmod 256))).set 2 (IntKind.u8.wrap ((IntKind.u64.wrap ((IntKind.u64.wrap n).tdiv 256)).tmod 256))).set 1 (IntKind.u8.wrap ((IntKind.u64.wrap ((IntKind.u64.wrap ((IntKind.u64.wrap n).tdiv 256)).tdiv 256)).tmod 256))).set 0 (IntKind.u8.wrap ((IntKind.u64.wrap ((IntKind.u64.wrap ((IntKind.u64.wrap ((IntKind.u64.wrap n).tdiv 256)).tdiv 256)).tdiv 256)).tmod 256)))))))))))))))))))))))))))
theorem co4 (n : Int) : segR (Env.of Tryd.prog (sumOf [])) 1000 (fnOf Tryd.prog 45) .unit (keepS 11 []) (codeS Tryd.prog 45) co4_p (startS Tryd.prog 45 [I64 n]) [] = co4_t n := by kernel_rfl
def tu_p : Plan := .fork (.lit (.lit (.lit (.lit (.lit (.lit (.lit (.lit (.lit (.lit (.all))))))))))) (.lit (.lit (.lit (.lit (.fork (.lit (.lit (.lit (.lit (.lit (.all)))))) (.lit (.lit (.lit (.lit (.lit (.lit (.lit (.fork (.lit (.all)) (.go (.lit (.go (.lit (.go (.lit (.go (.lit (.go (.lit (.lit (.fork (.all) (.all))))))))))))))))))))))))))
noncomputable def tu_t (s : List UInt8) (a : Int) : Tree Stop :=
   .node (decide (a < 0))
 (.leaf (Stop.done (SV.tuple [I64 0, I64 0, I64 1])))
 (.node (decide (a > ((s.length : Nat) : Int)))
  (.leaf (Stop.done (SV.tuple [I64 0, I64 0, I64 1])))
  (.node (decide (IntKind.i64.wrap (((s.length : Nat) : Int) - a) < 4))
   (.leaf (Stop.done (SV.tuple [I64 0, I64 0, I64 6])))
   (.req (true) (.req (decide (0 ≤ IntKind.i64.wrap (a + 0)) && decide (IntKind.i64.wrap (a + 0) < ((s.length : Nat) : Int))) (.req (true) (.req (decide (0 ≤ IntKind.i64.wrap (a + 1)) && decide (IntKind.i64.wrap (a + 1) < ((s.length : Nat) : Int))) (.req (true) (.req (decide (0 ≤ IntKind.i64.wrap (a + 2)) && decide (IntKind.i64.wrap (a + 2) < ((s.length : Nat) : Int))) (.req (true) (.req (decide (0 ≤ IntKind.i64.wrap (a + 3)) && decide (IntKind.i64.wrap (a + 3) < ((s.length : Nat) : Int))) (.node (decide (tkP s a ≥ 9223372036854775808))
            (.leaf (Stop.done (SV.tuple [I64 0, I64 0, I64 3])))
            (.leaf (Stop.done (SV.tuple [I64 (IntKind.i64.wrap (tkP s a)), I64 (IntKind.i64.wrap (a + 4)), I64 0]))))))))))))))
theorem tu (s : List UInt8) (a : Int) : segR (Env.of Tryd.prog (sumOf [])) 1000 (fnOf Tryd.prog 46) .unit (keepS 30 []) (codeS Tryd.prog 46) tu_p (startS Tryd.prog 46 [.str s, I64 a, I64 4]) [] = tu_t s a := by kernel_rfl
def ti_p : Plan := .fork (.lit (.lit (.lit (.lit (.lit (.lit (.lit (.lit (.lit (.lit (.all))))))))))) (.lit (.lit (.lit (.lit (.fork (.lit (.lit (.lit (.lit (.lit (.all)))))) (.lit (.lit (.lit (.lit (.lit (.lit (.lit (.fork (.lit (.all)) (.go (.lit (.go (.lit (.go (.lit (.go (.lit (.go (.lit (.lit (.all)))))))))))))))))))))))))
noncomputable def ti_t (s : List UInt8) (a : Int) : Tree Stop :=
   .node (decide (a < 0))
 (.leaf (Stop.done (SV.tuple [I64 0, I64 0, I64 1])))
 (.node (decide (a > ((s.length : Nat) : Int)))
  (.leaf (Stop.done (SV.tuple [I64 0, I64 0, I64 1])))
  (.node (decide (IntKind.i64.wrap (((s.length : Nat) : Int) - a) < 4))
   (.leaf (Stop.done (SV.tuple [I64 0, I64 0, I64 6])))
   (.req (true) (.req (decide (0 ≤ IntKind.i64.wrap (a + 0)) && decide (IntKind.i64.wrap (a + 0) < ((s.length : Nat) : Int))) (.req (true) (.req (decide (0 ≤ IntKind.i64.wrap (a + 1)) && decide (IntKind.i64.wrap (a + 1) < ((s.length : Nat) : Int))) (.req (true) (.req (decide (0 ≤ IntKind.i64.wrap (a + 2)) && decide (IntKind.i64.wrap (a + 2) < ((s.length : Nat) : Int))) (.req (true) (.req (decide (0 ≤ IntKind.i64.wrap (a + 3)) && decide (IntKind.i64.wrap (a + 3) < ((s.length : Nat) : Int))) (.req (true) (.req (true) (.leaf (Stop.done (SV.tuple [I64 ((IntKind.i64.wrap (IntKind.u64.wrap (tkP s a * 4294967296))).fdiv 4294967296), I64 (IntKind.i64.wrap (a + 4)), I64 0])))))))))))))))
theorem ti (s : List UInt8) (a : Int) : segR (Env.of Tryd.prog (sumOf [])) 1000 (fnOf Tryd.prog 47) .unit (keepS 34 []) (codeS Tryd.prog 47) ti_p (startS Tryd.prog 47 [.str s, I64 a, I64 4]) [] = ti_t s a := by kernel_rfl
def tuR_p : Plan := .fork (.lit (.lit (.lit (.lit (.lit (.lit (.lit (.lit (.lit (.lit (.all))))))))))) (.lit (.lit (.lit (.lit (.fork (.lit (.lit (.lit (.lit (.lit (.all)))))) (.lit (.lit (.lit (.lit (.lit (.lit (.lit (.fork (.lit (.all)) (.lit (.fork (.all) (.all))))))))))))))))
noncomputable def tuR_t (s : List UInt8) (a : Int) : Tree Stop :=
   .node (decide (a < 0))
 (.leaf (Stop.done (SV.tuple [I64 0, I64 0, I64 1])))
 (.node (decide (a > ((s.length : Nat) : Int)))
  (.leaf (Stop.done (SV.tuple [I64 0, I64 0, I64 1])))
  (.node (decide (IntKind.i64.wrap (((s.length : Nat) : Int) - a) < 4))
   (.leaf (Stop.done (SV.tuple [I64 0, I64 0, I64 6])))
   (.req (decide (0 ≤ IntKind.i64.wrap (a + 4)) && decide (IntKind.i64.wrap (a + 4) ≤ ((s.length : Nat) : Int)) && decide (0 ≤ a) && decide (a ≤ IntKind.i64.wrap (a + 4))) (.req (decide ((↑(List.drop a.toNat (List.take (IntKind.i64.wrap (a + 4)).toNat s)).length : Int) ≤ 100000)) (.node (decide (numW 0 (List.drop a.toNat (List.take (IntKind.i64.wrap (a + 4)).toNat s)) ≥ 9223372036854775808))
      (.leaf (Stop.done (SV.tuple [I64 0, I64 0, I64 3])))
      (.leaf (Stop.done (SV.tuple [I64 (IntKind.i64.wrap (numW 0 (List.drop a.toNat (List.take (IntKind.i64.wrap (a + 4)).toNat s)))), I64 (IntKind.i64.wrap (a + 4)), I64 0]))))))))
theorem tuR (s : List UInt8) (a : Int) : segR (Env.of Tryd.prog (sumOf [fNum])) 1000 (fnOf Tryd.prog 48) .unit (keepS 31 []) (codeS Tryd.prog 48) tuR_p (startS Tryd.prog 48 [.str s, I64 a, I64 4]) [] = tuR_t s a := by kernel_rfl
def at0_p : Plan := .fork (.lit (.lit (.lit (.lit (.lit (.lit (.lit (.lit (.lit (.lit (.lit (.lit (.lit (.all)))))))))))))) (.lit (.lit (.lit (.lit (.fork (.lit (.lit (.lit (.lit (.lit (.lit (.lit (.lit (.all))))))))) (.lit (.lit (.lit (.lit (.lit (.lit (.lit (.fork (.lit (.lit (.lit (.lit (.all))))) (.lit (.lit (.lit (.lit (.lit (.fork (.fork (.lit (.lit (.all))) (.lit (.lit (.all)))) (.fork (.lit (.lit (.all))) (.lit (.lit (.all)))))))))))))))))))))))
noncomputable def at0_t (s : List UInt8) (a : Int) : Tree Stop :=
   .node (decide (a < 0))
 (.leaf (Stop.done (SV.tuple [I64 0, SV.bool true])))
 (.node (decide (a > ((s.length : Nat) : Int)))
  (.leaf (Stop.done (SV.tuple [I64 0, SV.bool true])))
  (.node (decide (IntKind.i64.wrap (((s.length : Nat) : Int) - a) < 4))
   (.leaf (Stop.done (SV.tuple [I64 0, SV.bool true])))
   (.req (decide (0 ≤ IntKind.i64.wrap (a + 4)) && decide (IntKind.i64.wrap (a + 4) ≤ ((s.length : Nat) : Int)) && decide (0 ≤ a) && decide (a ≤ IntKind.i64.wrap (a + 4))) (.req (decide ((↑(List.drop a.toNat (List.take (IntKind.i64.wrap (a + 4)).toNat s)).length : Int) ≤ 100000)) (.req (decide (0 < (↑(List.drop a.toNat (List.take (IntKind.i64.wrap (a + 4)).toNat s)).length : Int))) (.node (decide ((↑((List.drop a.toNat (List.take (IntKind.i64.wrap (a + 4)).toNat s)).getD 0 0).toNat : Int) ≥ 128))
       (.req (true) (.node (decide (IntKind.i64.wrap (IntKind.i64.wrap (numW 0 (List.drop a.toNat (List.take (IntKind.i64.wrap (a + 4)).toNat s))) - 4294967296) ≥ -65536))
         (.leaf (Stop.done (SV.tuple [I64 (IntKind.i64.wrap (IntKind.i64.wrap (numW 0 (List.drop a.toNat (List.take (IntKind.i64.wrap (a + 4)).toNat s))) - 4294967296)), SV.bool (decide (IntKind.i64.wrap (IntKind.i64.wrap (numW 0 (List.drop a.toNat (List.take (IntKind.i64.wrap (a + 4)).toNat s))) - 4294967296) ≤ 65536))])))
         (.leaf (Stop.done (SV.tuple [I64 (IntKind.i64.wrap (IntKind.i64.wrap (numW 0 (List.drop a.toNat (List.take (IntKind.i64.wrap (a + 4)).toNat s))) - 4294967296)), SV.bool false])))))
       (.node (decide (IntKind.i64.wrap (numW 0 (List.drop a.toNat (List.take (IntKind.i64.wrap (a + 4)).toNat s))) ≥ -65536))
        (.leaf (Stop.done (SV.tuple [I64 (IntKind.i64.wrap (numW 0 (List.drop a.toNat (List.take (IntKind.i64.wrap (a + 4)).toNat s)))), SV.bool (decide (IntKind.i64.wrap (numW 0 (List.drop a.toNat (List.take (IntKind.i64.wrap (a + 4)).toNat s))) ≤ 65536))])))
        (.leaf (Stop.done (SV.tuple [I64 (IntKind.i64.wrap (numW 0 (List.drop a.toNat (List.take (IntKind.i64.wrap (a + 4)).toNat s)))), SV.bool false]))))))))))
theorem at0 (s : List UInt8) (a : Int) : segR (Env.of Tryd.prog (sumOf [fNum])) 1000 (fnOf Tryd.prog 49) .unit (keepS 23 []) (codeS Tryd.prog 49) at0_p (startS Tryd.prog 49 [.str s, I64 a]) [] = at0_t s a := by kernel_rfl
end Go.Proofs.YtlhkgeoahblffaaDoor
set_option linter.unusedSimpArgs false
set_option linter.unusedVariables false
set_option maxRecDepth 100000
namespace Go.Proofs.YtlhkgeoahblffaaDoor
open Go.Sx

abbrev w64 (x : Int) : Int := IntKind.u64.wrap x
theorem u8_def (x : Int) : IntKind.u8.wrap x = x % 256 := by
  have h2 : IntKind.wrap .u8 x = if false && decide (x % 256 ≥ 128) then x % 256 - 256 else x % 256 := rfl
  rw [h2]; simp

/-! ### number -/

theorem nu_loop (s : List UInt8) (hs : s.length ≤ 100000) : ∀ (n i : Nat) (u : Int), i + n = s.length → RunsR Tryd.prog (fnOf Tryd.prog 68) (.int .u64 (numW u (s.drop i))) (loopOf Tryd.prog 68 0) (slotsS 19 [(0, .str s), (3, .int .u64 u), (4, I64 (i : Int))]) []
  | n, i, u, hi => by
    refine runsR_seg kZ (n := 1000) (hint := .unit) (keep := keepS 19 [0,3,4]) (p := nu1_p) rfl ?_
    erw [nu1 s u (i : Int)]
    unfold nu1_t
    match n, hi with
    | 0, hi =>
      have hi : i = s.length := hi
      refine ⟨fun h => absurd (of_decide_eq_true h) (by omega), fun _ => ?_⟩
      rw [List.drop_eq_nil_of_le (by omega)]; rfl
    | n + 1, hi =>
      have hl : i < s.length := by omega
      rw [List.drop_eq_getElem_cons hl, numW, bt_at hl]
      refine ⟨fun _ => ⟨by simp; omega, slotsS_len _ _, ?_⟩, fun h => absurd (of_decide_eq_false h) (by omega)⟩
      rw [wr1 (by omega)]
      exact nu_loop s hs n (i + 1) _ (by omega)
theorem s_number (s : List UInt8) (hs : s.length ≤ 100000) : SCall Tryd.prog 68 [.str s] (.int .u64 (numW 0 s)) := by
  refine scallR_loops rfl rfl (by kernel_rfl) (runsR_seg kZ (n := 1000) (hint := .unit) (keep := keepS 19 [0,3,4]) (p := nu0_p) (boxes := []) rfl ?_)
  have e := nu0 s
  unfold startS codeS at e
  erw [e]
  exact ⟨slotsS_len _ _, nu_loop s hs s.length 0 0 (by omega)⟩
theorem o_num : fNum.ok Tryd.prog := fun args t ht => by
  simp only [fNum] at ht
  split at ht
  · injection ht with ht; subst ht
    intro h
    exact s_number _ (by have := of_decide_eq_true h; omega)
  · cases ht

/-! ### Four bytes of a number -/

def be4 (n : Int) : List UInt8 := [UInt8.ofNat (n / 16777216 % 256).toNat, UInt8.ofNat (n / 65536 % 256).toNat, UInt8.ofNat (n / 256 % 256).toNat, UInt8.ofNat (n % 256).toNat]
theorem be4_len (n : Int) : (be4 n).length = 4 := rfl
theorem fd {x k : Int} (hk : 0 ≤ k) : x.fdiv k = x / k := Int.fdiv_eq_ediv_of_nonneg x hk
theorem b3 (n : Int) : IntKind.u8.wrap ((IntKind.u64.wrap n).fdiv 16777216) = n / 16777216 % 256 := by rw [u8_def, u64_def, fd (by omega)]; omega
theorem b2 (n : Int) : IntKind.u8.wrap ((IntKind.u64.wrap n).fdiv 65536) = n / 65536 % 256 := by rw [u8_def, u64_def, fd (by omega)]; omega
theorem b1 (n : Int) : IntKind.u8.wrap ((IntKind.u64.wrap n).fdiv 256) = n / 256 % 256 := by rw [u8_def, u64_def, fd (by omega)]; omega
theorem b0 (n : Int) : IntKind.u8.wrap ((IntKind.u64.wrap n).fdiv 1) = n % 256 := by rw [u8_def, u64_def, fd (by omega)]; omega
theorem w_nonneg (n : Int) : 0 ≤ IntKind.u64.wrap n ∧ IntKind.u64.wrap n < 18446744073709551616 := by rw [u64_def]; omega
theorem tm {x : Int} (hx : 0 ≤ x) : x.tmod 256 = x % 256 := Int.tmod_eq_emod_of_nonneg hx
theorem td {x : Int} (hx : 0 ≤ x) : x.tdiv 256 = x / 256 := Int.tdiv_eq_ediv_of_nonneg hx
theorem wd_lt {x : Int} (h0 : 0 ≤ x) (h1 : x < 18446744073709551616) : 0 ≤ x / 256 ∧ x / 256 < 18446744073709551616 := by omega
theorem wd {x : Int} (h0 : 0 ≤ x) (h1 : x < 18446744073709551616) : IntKind.u64.wrap (x.tdiv 256) = x / 256 := by rw [td h0, u64_def]; omega
theorem cq0 (n : Int) : IntKind.u8.wrap ((IntKind.u64.wrap n).tmod 256) = n % 256 := by
  have h := w_nonneg n
  rw [tm h.1, u8_def, u64_def]; omega
theorem cq1 (n : Int) : IntKind.u8.wrap ((IntKind.u64.wrap ((IntKind.u64.wrap n).tdiv 256)).tmod 256) = n / 256 % 256 := by
  have h := w_nonneg n
  rw [wd h.1 h.2, tm (by omega), u8_def, u64_def]; omega
theorem cq2 (n : Int) : IntKind.u8.wrap ((IntKind.u64.wrap ((IntKind.u64.wrap ((IntKind.u64.wrap n).tdiv 256)).tdiv 256)).tmod 256) = n / 65536 % 256 := by
  have h := w_nonneg n
  have h' := wd_lt h.1 h.2
  rw [wd h.1 h.2, wd h'.1 h'.2, tm (by omega), u8_def, u64_def]; omega
theorem cq3 (n : Int) : IntKind.u8.wrap ((IntKind.u64.wrap ((IntKind.u64.wrap ((IntKind.u64.wrap ((IntKind.u64.wrap n).tdiv 256)).tdiv 256)).tdiv 256)).tmod 256) = n / 16777216 % 256 := by
  have h := w_nonneg n
  have h' := wd_lt h.1 h.2
  have h'' := wd_lt h'.1 h'.2
  rw [wd h.1 h.2, wd h'.1 h'.2, wd h''.1 h''.2, tm (by omega), u8_def, u64_def]; omega

theorem s_uint4 (n : Int) (h0 : 0 ≤ n) (h1 : n < 4294967296) : SCall Tryd.prog 42 [I64 n, I64 4] (.tuple [.str (be4 n), I64 0]) := by
  refine scallR_loops rfl rfl (by kernel_rfl) (runsR_seg kZ (n := 1000) (hint := .unit) (keep := keepS 25 []) (p := u4_p) (boxes := []) rfl ?_)
  have e := u4 n
  unfold startS codeS at e
  erw [e]
  unfold u4_t
  rw [b3, b2, b1, b0]
  have e1 : IntKind.u64.wrap n = n := u64_id h0 (by omega)
  rw [e1]
  refine ⟨fun h => absurd (of_decide_eq_true h) (by omega), fun _ => ⟨rfl, fun h => absurd h (by simp; omega), fun _ => ⟨rfl, rfl, rfl, rfl, rfl, rfl, rfl, rfl, rfl, ?_⟩⟩⟩
  rfl
theorem s_int4 (n : Int) (h0 : -2147483648 ≤ n) (h1 : n < 2147483648) : SCall Tryd.prog 43 [I64 n, I64 4] (.tuple [.str (be4 n), I64 0]) := by
  refine scallR_loops rfl rfl (by kernel_rfl) (runsR_seg kZ (n := 1000) (hint := .unit) (keep := keepS 32 []) (p := i4_p) (boxes := []) rfl ?_)
  have e := i4 n
  unfold startS codeS at e
  erw [e]
  unfold i4_t
  rw [b3, b2, b1, b0]
  refine ⟨rfl, fun h => absurd (of_decide_eq_true h) (by omega), fun _ => ⟨fun h => absurd (of_decide_eq_true h) (by omega), fun _ => ⟨rfl, rfl, rfl, rfl, rfl, rfl, rfl, rfl, rfl, ?_⟩⟩⟩
  rfl
theorem s_uintR4 (n : Int) (h0 : 0 ≤ n) (h1 : n < 4294967296) : SCall Tryd.prog 44 [I64 n, I64 4] (.tuple [.str (be4 n), I64 0]) := by
  refine scallR_loops rfl rfl (by kernel_rfl) (runsR_seg kZ (n := 1000) (hint := .unit) (keep := keepS 27 []) (p := uR4_p) (boxes := []) rfl ?_)
  have e := uR4 n
  unfold startS codeS at e
  erw [e]
  unfold uR4_t
  rw [cq3, cq2, cq1, cq0]
  refine ⟨fun h => absurd (of_decide_eq_true h) (by omega), fun _ => ⟨rfl, fun h => absurd (of_decide_eq_true h) (by omega), fun _ => ?_⟩⟩
  refine ⟨rfl, rfl, rfl, rfl, rfl, rfl, rfl, rfl, rfl, rfl, rfl, rfl, rfl, rfl, rfl, rfl, rfl, ?_⟩
  rfl
theorem s_coord (n : Int) (h0 : -2147483648 ≤ n) (h1 : n < 2147483648) : SCall Tryd.prog 45 [I64 n] (.str (be4 n)) := by
  refine scallR_loops rfl rfl (by kernel_rfl) (runsR_seg kZ (n := 1000) (hint := .unit) (keep := keepS 11 []) (p := co4_p) (boxes := []) rfl ?_)
  have e := co4 n
  unfold startS codeS at e
  erw [e]
  unfold co4_t
  rw [cq3, cq2, cq1, cq0]
  refine ⟨rfl, fun h => absurd (of_decide_eq_true h) (by omega), fun _ => ⟨rfl, fun h => absurd (of_decide_eq_true h) (by omega), fun _ => ?_⟩⟩
  refine ⟨rfl, rfl, rfl, rfl, rfl, rfl, rfl, rfl, rfl, rfl, rfl, rfl, rfl, rfl, rfl, rfl, rfl, ?_⟩
  rfl

/-! ### A number of four bytes -/

def numB (a b c d : UInt8) : Int := (((a.toNat : Int) * 256 + b.toNat) * 256 + c.toNat) * 256 + d.toNat
/-- (By cases on the text: so that the kernel stops at an unknown one.) -/
def tk (s : List UInt8) (a : Nat) : Int := match s with
  | [] => numB (([] : List UInt8).getD a 0) (([] : List UInt8).getD (a + 1) 0) (([] : List UInt8).getD (a + 2) 0) (([] : List UInt8).getD (a + 3) 0)
  | b :: l => numB ((b :: l).getD a 0) ((b :: l).getD (a + 1) 0) ((b :: l).getD (a + 2) 0) ((b :: l).getD (a + 3) 0)
theorem tk_eq (s : List UInt8) (a : Nat) : tk s a = numB (s.getD a 0) (s.getD (a + 1) 0) (s.getD (a + 2) 0) (s.getD (a + 3) 0) := by
  cases s <;> rfl
def sg (x : Int) : Int := if x < 2147483648 then x else x - 4294967296
theorem u8_lt (b : UInt8) : b.toNat < 256 := b.toNat_lt
theorem tk_range (s : List UInt8) (a : Nat) : 0 ≤ tk s a ∧ tk s a < 4294967296 := by
  have p := u8_lt (s.getD a 0); have q := u8_lt (s.getD (a + 1) 0); have r := u8_lt (s.getD (a + 2) 0); have t := u8_lt (s.getD (a + 3) 0)
  rw [tk_eq]; unfold numB; omega
theorem or256 {x b : Int} (h0 : 0 ≤ x) (h1 : x < 72057594037927936) (b0 : 0 ≤ b) (b1 : b < 256) : IntKind.u64.wrap (((BitVec.ofInt 64 (IntKind.u64.wrap (x * 256)) ||| BitVec.ofInt 64 (IntKind.u64.wrap b)).toNat : Nat) : Int) = x * 256 + b := by
  rw [u64_id (n := x * 256) (by omega) (by omega), u64_id b0 (by omega)]
  obtain ⟨m, rfl⟩ := Int.eq_ofNat_of_zero_le h0
  obtain ⟨k, rfl⟩ := Int.eq_ofNat_of_zero_le b0
  rw [BitVec.toNat_or, BitVec.toNat_ofInt, BitVec.toNat_ofInt]
  have e1 : ((m : Int) * 256 % ((2 : Nat) ^ 64 : Nat)).toNat = m <<< 8 := by
    rw [Nat.shiftLeft_eq]
    have : ((2 ^ 64 : Nat) : Int) = 18446744073709551616 := rfl
    rw [this]; omega
  have e2 : ((k : Int) % ((2 : Nat) ^ 64 : Nat)).toNat = k := by
    have : ((2 ^ 64 : Nat) : Int) = 18446744073709551616 := rfl
    rw [this]; omega
  rw [e1, e2, ← Nat.shiftLeft_add_eq_or_of_lt (show k < 2 ^ 8 by omega), Nat.shiftLeft_eq, u64_id (by omega) (by omega)]
  push_cast
  rfl
theorem or0 {b : Int} (b0 : 0 ≤ b) (b1 : b < 256) : IntKind.u64.wrap (((BitVec.ofInt 64 0 ||| BitVec.ofInt 64 (IntKind.u64.wrap b)).toNat : Nat) : Int) = b := by
  have := or256 (x := 0) (b := b) (by omega) (by omega) b0 b1
  rw [show IntKind.u64.wrap ((0 : Int) * 256) = 0 from rfl] at this
  rw [this]; omega
theorem byte_range (s : List UInt8) (i : Nat) : (0 : Int) ≤ ((s.getD i 0).toNat : Int) ∧ ((s.getD i 0).toNat : Int) < 256 := by
  have := u8_lt (s.getD i 0); omega
theorem i64s {x : Int} (h0 : -9000000000000000000 ≤ x) (h1 : x ≤ 9000000000000000000) : IntKind.i64.wrap x = x := by rw [i64_def]; split <;> omega
theorem plusN {a j : Nat} (h : a + j ≤ 200000) : (IntKind.i64.wrap ((a : Int) + (j : Int))).toNat = a + j := by rw [i64s (by omega) (by omega)]; omega
theorem tkP_eq (s : List UInt8) (a : Nat) (h : a ≤ 100000) : tkP s (a : Int) = tk s a := by
  have p := byte_range s a; have q := byte_range s (a + 1); have r := byte_range s (a + 2); have t := byte_range s (a + 3)
  rw [tk_eq]
  unfold tkP numB
  rw [show (IntKind.i64.wrap ((a : Int) + 0)).toNat = a from plusN (j := 0) (by omega), show (IntKind.i64.wrap ((a : Int) + 1)).toNat = a + 1 from plusN (j := 1) (by omega), show (IntKind.i64.wrap ((a : Int) + 2)).toNat = a + 2 from plusN (j := 2) (by omega), show (IntKind.i64.wrap ((a : Int) + 3)).toNat = a + 3 from plusN (j := 3) (by omega)]
  rw [or0 p.1 p.2, or256 (by omega) (by omega) q.1 q.2, or256 (by omega) (by omega) r.1 r.2, or256 (by omega) (by omega) t.1 t.2]
theorem sg_shift {x : Int} (h0 : 0 ≤ x) (h1 : x < 4294967296) : (IntKind.i64.wrap (IntKind.u64.wrap (x * 4294967296))).fdiv 4294967296 = sg x := by
  rw [fd (by omega), u64_id (by omega) (by omega), i64_def]
  unfold sg
  split <;> split <;> omega
theorem tk_num {s : List UInt8} {a : Nat} (h : a + 4 ≤ s.length) : numW 0 (List.drop a (List.take (a + 4) s)) = tk s a := by
  have e : List.drop a (List.take (a + 4) s) = [s.getD a 0, s.getD (a + 1) 0, s.getD (a + 2) 0, s.getD (a + 3) 0] := by
    rw [List.drop_take, show a + 4 - a = 4 by omega]
    have d : ∀ i, i < s.length → s.drop i = s.getD i 0 :: s.drop (i + 1) := fun i hi => by
      rw [List.drop_eq_getElem_cons hi, List.getD_eq_getElem?_getD, List.getElem?_eq_getElem hi]; rfl
    rw [d a (by omega), d (a + 1) (by omega), d (a + 1 + 1) (by omega), d (a + 1 + 1 + 1) (by omega)]
    rfl
  have p := byte_range s a; have q := byte_range s (a + 1); have r := byte_range s (a + 2); have t := byte_range s (a + 3)
  rw [e]
  simp only [numW, u64_def]
  rw [tk_eq]; unfold numB
  omega

def takeU (s : List UInt8) (a : Nat) : SV := if (s.length : Int) - a < 4 then .tuple [I64 0, I64 0, I64 6] else .tuple [I64 (tk s a), I64 ((a + 4 : Nat) : Int), I64 0]
def takeI (s : List UInt8) (a : Nat) : SV := if (s.length : Int) - a < 4 then .tuple [I64 0, I64 0, I64 6] else .tuple [I64 (sg (tk s a)), I64 ((a + 4 : Nat) : Int), I64 0]
theorem takeU_data (s : List UInt8) (a : Nat) : (takeU s a).data = true := by unfold takeU; split <;> rfl
theorem takeI_data (s : List UInt8) (a : Nat) : (takeI s a).data = true := by unfold takeI; split <;> rfl

section
variable {s : List UInt8} {a : Nat} (ha : a ≤ s.length) (hs : s.length ≤ 100000)
include ha hs
theorem s_takeU : SCall Tryd.prog 46 [.str s, I64 (a : Int), I64 4] (takeU s a) := by
  refine scallR_loops rfl (takeU_data s a) (by kernel_rfl) (runsR_seg kZ (n := 1000) (hint := .unit) (keep := keepS 30 []) (p := tu_p) (boxes := []) (takeU_data s a) ?_)
  have e := tu s (a : Int)
  unfold startS codeS at e
  erw [e]
  unfold tu_t takeU
  have j0 : IntKind.i64.wrap ((a : Int) + 0) = a := by rw [i64s (by omega) (by omega)]; omega
  have j1 : IntKind.i64.wrap ((a : Int) + 1) = a + 1 := i64s (by omega) (by omega)
  have j2 : IntKind.i64.wrap ((a : Int) + 2) = a + 2 := i64s (by omega) (by omega)
  have j3 : IntKind.i64.wrap ((a : Int) + 3) = a + 3 := i64s (by omega) (by omega)
  have j4 : IntKind.i64.wrap ((a : Int) + 4) = a + 4 := i64s (by omega) (by omega)
  have j5 : IntKind.i64.wrap ((s.length : Int) - (a : Int)) = (s.length : Int) - (a : Int) := i64s (by omega) (by omega)
  have n0 : ((a : Int)).toNat = a := by omega
  have ht := tkP_eq s a (by omega)
  generalize tkP s (a : Int) = x at ht ⊢
  rw [j0, j1, j2, j3, j4, j5]
  subst ht
  have hr := tk_range s a
  refine ⟨fun h => absurd (of_decide_eq_true h) (by omega), fun _ => ⟨fun h => absurd (of_decide_eq_true h) (by omega), fun _ => ⟨fun h => ?_, fun h => ?_⟩⟩⟩
  · rw [if_pos (of_decide_eq_true h)]; rfl
  · have h := of_decide_eq_false h
    rw [if_neg h]
    refine ⟨rfl, by simp; omega, rfl, by simp; omega, rfl, by simp; omega, rfl, by simp; omega, fun h => absurd (of_decide_eq_true h) (by omega), fun _ => ?_⟩
    rw [i64s (by omega) (by omega)]
    show _ = _
    rfl
theorem s_takeI : SCall Tryd.prog 47 [.str s, I64 (a : Int), I64 4] (takeI s a) := by
  refine scallR_loops rfl (takeI_data s a) (by kernel_rfl) (runsR_seg kZ (n := 1000) (hint := .unit) (keep := keepS 34 []) (p := ti_p) (boxes := []) (takeI_data s a) ?_)
  have e := ti s (a : Int)
  unfold startS codeS at e
  erw [e]
  unfold ti_t takeI
  have j0 : IntKind.i64.wrap ((a : Int) + 0) = a := by rw [i64s (by omega) (by omega)]; omega
  have j1 : IntKind.i64.wrap ((a : Int) + 1) = a + 1 := i64s (by omega) (by omega)
  have j2 : IntKind.i64.wrap ((a : Int) + 2) = a + 2 := i64s (by omega) (by omega)
  have j3 : IntKind.i64.wrap ((a : Int) + 3) = a + 3 := i64s (by omega) (by omega)
  have j4 : IntKind.i64.wrap ((a : Int) + 4) = a + 4 := i64s (by omega) (by omega)
  have j5 : IntKind.i64.wrap ((s.length : Int) - (a : Int)) = (s.length : Int) - (a : Int) := i64s (by omega) (by omega)
  have n0 : ((a : Int)).toNat = a := by omega
  have ht := tkP_eq s a (by omega)
  generalize tkP s (a : Int) = x at ht ⊢
  rw [j0, j1, j2, j3, j4, j5]
  subst ht
  have hr := tk_range s a
  refine ⟨fun h => absurd (of_decide_eq_true h) (by omega), fun _ => ⟨fun h => absurd (of_decide_eq_true h) (by omega), fun _ => ⟨fun h => ?_, fun h => ?_⟩⟩⟩
  · rw [if_pos (of_decide_eq_true h)]; rfl
  · have h := of_decide_eq_false h
    rw [if_neg h]
    refine ⟨rfl, by simp; omega, rfl, by simp; omega, rfl, by simp; omega, rfl, by simp; omega, rfl, rfl, ?_⟩
    rw [sg_shift hr.1 hr.2]
    show _ = _
    rfl
theorem s_takeUR : SCall Tryd.prog 48 [.str s, I64 (a : Int), I64 4] (takeU s a) := by
  have kN : Known Tryd.prog (Env.of Tryd.prog (sumOf [fNum])) := hK (l := [fNum]) ⟨o_num, trivial⟩
  refine scallR_loops rfl (takeU_data s a) (by kernel_rfl) (runsR_seg kN (n := 1000) (hint := .unit) (keep := keepS 31 []) (p := tuR_p) (boxes := []) (takeU_data s a) ?_)
  have e := tuR s (a : Int)
  unfold startS codeS at e
  erw [e]
  unfold tuR_t takeU
  have j4 : IntKind.i64.wrap ((a : Int) + 4) = a + 4 := i64s (by omega) (by omega)
  have j5 : IntKind.i64.wrap ((s.length : Int) - (a : Int)) = (s.length : Int) - (a : Int) := i64s (by omega) (by omega)
  have n0 : ((a : Int)).toNat = a := by omega
  have n4 : ((a : Int) + 4).toNat = a + 4 := by omega
  rw [j4, j5, n0, n4]
  have hr := tk_range s a
  refine ⟨fun h => absurd (of_decide_eq_true h) (by omega), fun _ => ⟨fun h => absurd (of_decide_eq_true h) (by omega), fun _ => ⟨fun h => ?_, fun h => ?_⟩⟩⟩
  · rw [if_pos (of_decide_eq_true h)]; rfl
  · have h := of_decide_eq_false h
    rw [if_neg h, tk_num (by omega)]
    refine ⟨by simp; omega, decide_eq_true (by simp; omega), fun h => absurd (of_decide_eq_true h) (by omega), fun _ => ?_⟩
    rw [i64s (by omega) (by omega)]
    show _ = _
    rfl
omit ha in
theorem s_at (h4 : a + 4 ≤ s.length) : SCall Tryd.prog 49 [.str s, I64 (a : Int)] (.tuple [I64 (sg (tk s a)), .bool (decide (-65536 ≤ sg (tk s a)) && decide (sg (tk s a) ≤ 65536))]) := by
  have kN : Known Tryd.prog (Env.of Tryd.prog (sumOf [fNum])) := hK (l := [fNum]) ⟨o_num, trivial⟩
  refine scallR_loops rfl rfl (by kernel_rfl) (runsR_seg kN (n := 1000) (hint := .unit) (keep := keepS 23 []) (p := at0_p) (boxes := []) rfl ?_)
  have e := at0 s (a : Int)
  unfold startS codeS at e
  erw [e]
  unfold at0_t
  have j4 : IntKind.i64.wrap ((a : Int) + 4) = a + 4 := i64s (by omega) (by omega)
  have j5 : IntKind.i64.wrap ((s.length : Int) - (a : Int)) = (s.length : Int) - (a : Int) := i64s (by omega) (by omega)
  have n0 : ((a : Int)).toNat = a := by omega
  have n4 : ((a : Int) + 4).toNat = a + 4 := by omega
  have hr := tk_range s a
  have hd : (List.drop a (List.take (a + 4) s)).getD 0 0 = s.getD a 0 := by
    rw [List.getD_eq_getElem?_getD, List.getElem?_drop, List.getElem?_take, if_pos (by omega), List.getD_eq_getElem?_getD]; simp
  rw [j4, j5, n0, n4, tk_num h4, hd, i64s (x := tk s a) (by omega) (by omega), i64s (x := tk s a - 4294967296) (by omega) (by omega)]
  have p := byte_range s a; have q := byte_range s (a + 1); have r := byte_range s (a + 2); have t := byte_range s (a + 3)
  have hb : ((s.getD a 0).toNat : Int) ≥ 128 ↔ ¬ tk s a < 2147483648 := by rw [tk_eq]; unfold numB; omega
  refine ⟨fun h => absurd (of_decide_eq_true h) (by omega), fun _ => ⟨fun h => absurd (of_decide_eq_true h) (by omega), fun _ => ⟨fun h => absurd (of_decide_eq_true h) (by omega), fun h => ?_⟩⟩⟩
  refine ⟨by simp; omega, decide_eq_true (by simp; omega), decide_eq_true (by simp; omega), fun h => ⟨rfl, fun h1 => ?_, fun h1 => ?_⟩, fun h => ⟨fun h1 => ?_, fun h1 => ?_⟩⟩
  · have h := hb.1 (of_decide_eq_true h)
    have h1 := of_decide_eq_true h1
    unfold sg
    rw [if_neg h, decide_eq_true (show -65536 ≤ tk s a - 4294967296 by omega)]; rfl
  · have h := hb.1 (of_decide_eq_true h)
    have h1 := of_decide_eq_false h1
    unfold sg
    rw [if_neg h, decide_eq_false (show ¬ -65536 ≤ tk s a - 4294967296 by omega)]; rfl
  · have h := of_decide_eq_false h
    have h : tk s a < 2147483648 := by
      rcases Int.lt_or_le (tk s a) 2147483648 with h' | h'
      · exact h'
      · exact absurd (hb.2 (by omega)) h
    have h1 := of_decide_eq_true h1
    unfold sg
    rw [if_pos h, decide_eq_true (show -65536 ≤ tk s a by omega)]; rfl
  · have h1 := of_decide_eq_false h1
    omega
end

/-! ### Facts -/

def fUint4 (f : FuncId) : Fact := ⟨f, fun args => match args with
  | [.int .i64 n, .int .i64 k] => match k == 4 with
    | true => some (.req (decide (0 ≤ n) && decide (n < 4294967296)) (.leaf (.tuple [.str (be4 n), I64 0])))
    | false => none
  | _ => none⟩
theorem o_uint4 : (fUint4 42).ok Tryd.prog := fun args t ht => by
  simp only [fUint4] at ht
  split at ht
  · split at ht
    · rename_i hk
      have hk := beq_iff_eq.1 hk
      subst hk
      injection ht with ht; subst ht
      intro h
      simp only [Bool.and_eq_true, decide_eq_true_eq] at h
      exact s_uint4 _ h.1 h.2
    · cases ht
  · cases ht
theorem o_uintR4 : (fUint4 44).ok Tryd.prog := fun args t ht => by
  simp only [fUint4] at ht
  split at ht
  · split at ht
    · rename_i hk
      have hk := beq_iff_eq.1 hk
      subst hk
      injection ht with ht; subst ht
      intro h
      simp only [Bool.and_eq_true, decide_eq_true_eq] at h
      exact s_uintR4 _ h.1 h.2
    · cases ht
  · cases ht
def fInt4 : Fact := ⟨43, fun args => match args with
  | [.int .i64 n, .int .i64 k] => match k == 4 with
    | true => some (.req (decide (-2147483648 ≤ n) && decide (n < 2147483648)) (.leaf (.tuple [.str (be4 n), I64 0])))
    | false => none
  | _ => none⟩
theorem o_int4 : fInt4.ok Tryd.prog := fun args t ht => by
  simp only [fInt4] at ht
  split at ht
  · split at ht
    · rename_i hk
      have hk := beq_iff_eq.1 hk
      subst hk
      injection ht with ht; subst ht
      intro h
      simp only [Bool.and_eq_true, decide_eq_true_eq] at h
      exact s_int4 _ h.1 h.2
    · cases ht
  · cases ht
def fCoord : Fact := ⟨45, fun args => match args with
  | [.int .i64 n] => some (.req (decide (-2147483648 ≤ n) && decide (n < 2147483648)) (.leaf (.str (be4 n))))
  | _ => none⟩
theorem o_coord : fCoord.ok Tryd.prog := fun args t ht => by
  simp only [fCoord] at ht
  split at ht
  · injection ht with ht; subst ht
    intro h
    simp only [Bool.and_eq_true, decide_eq_true_eq] at h
    exact s_coord _ h.1 h.2
  · cases ht
def takeR (s : List UInt8) (a k : Int) : Bool := decide (k = 4) && (decide (0 ≤ a) && (decide (a ≤ (s.length : Int)) && decide ((s.length : Int) ≤ 100000)))
def fTakeU (f : FuncId) : Fact := ⟨f, fun args => match args with
  | [.str s, .int .i64 a, .int .i64 k] => some (.req (takeR s a k) (.node (decide ((s.length : Int) - a < 4)) (.leaf (.tuple [I64 0, I64 0, I64 6])) (.leaf (.tuple [I64 (tk s a.toNat), I64 (a + 4), I64 0]))))
  | _ => none⟩
def fTakeI : Fact := ⟨47, fun args => match args with
  | [.str s, .int .i64 a, .int .i64 k] => some (.req (takeR s a k) (.node (decide ((s.length : Int) - a < 4)) (.leaf (.tuple [I64 0, I64 0, I64 6])) (.leaf (.tuple [I64 (sg (tk s a.toNat)), I64 (a + 4), I64 0]))))
  | _ => none⟩
theorem takeR_iff {s : List UInt8} {a k : Int} (h : takeR s a k = true) : k = 4 ∧ ∃ b : Nat, a = b ∧ b ≤ s.length ∧ s.length ≤ 100000 := by
  unfold takeR at h
  simp only [Bool.and_eq_true, decide_eq_true_eq] at h
  exact ⟨h.1, a.toNat, by omega, by omega, by omega⟩
theorem o_takeU : (fTakeU 46).ok Tryd.prog := fun args t ht => by
  simp only [fTakeU] at ht
  split at ht
  · injection ht with ht; subst ht
    intro h
    obtain ⟨rfl, b, rfl, h1, h2⟩ := takeR_iff h
    have := s_takeU h1 h2
    unfold takeU at this
    refine ⟨fun h => ?_, fun h => ?_⟩
    · rw [if_pos (of_decide_eq_true h)] at this; exact this
    · rw [if_neg (of_decide_eq_false h)] at this; exact this
  · cases ht
theorem o_takeUR : (fTakeU 48).ok Tryd.prog := fun args t ht => by
  simp only [fTakeU] at ht
  split at ht
  · injection ht with ht; subst ht
    intro h
    obtain ⟨rfl, b, rfl, h1, h2⟩ := takeR_iff h
    have := s_takeUR h1 h2
    unfold takeU at this
    refine ⟨fun h => ?_, fun h => ?_⟩
    · rw [if_pos (of_decide_eq_true h)] at this; exact this
    · rw [if_neg (of_decide_eq_false h)] at this; exact this
  · cases ht
theorem o_takeI : fTakeI.ok Tryd.prog := fun args t ht => by
  simp only [fTakeI] at ht
  split at ht
  · injection ht with ht; subst ht
    intro h
    obtain ⟨rfl, b, rfl, h1, h2⟩ := takeR_iff h
    have := s_takeI h1 h2
    unfold takeI at this
    refine ⟨fun h => ?_, fun h => ?_⟩
    · rw [if_pos (of_decide_eq_true h)] at this; exact this
    · rw [if_neg (of_decide_eq_false h)] at this; exact this
  · cases ht
def fAt : Fact := ⟨49, fun args => match args with
  | [.str s, .int .i64 a] => some (.req (decide (0 ≤ a) && (decide (a + 4 ≤ (s.length : Int)) && decide ((s.length : Int) ≤ 100000))) (.leaf (.tuple [I64 (sg (tk s a.toNat)), .bool (decide (-65536 ≤ sg (tk s a.toNat)) && decide (sg (tk s a.toNat) ≤ 65536))])))
  | _ => none⟩
theorem o_at : fAt.ok Tryd.prog := fun args t ht => by
  simp only [fAt] at ht
  split at ht
  · rename_i s a
    injection ht with ht; subst ht
    intro h
    simp only [Bool.and_eq_true, decide_eq_true_eq] at h
    have := s_at (s := s) (a := a.toNat) (by omega) (by omega)
    rw [show ((a.toNat : Nat) : Int) = a by omega] at this
    exact this
  · cases ht
end Go.Proofs.YtlhkgeoahblffaaDoor
set_option linter.unusedSimpArgs false
set_option linter.unusedVariables false
set_option maxRecDepth 100000
namespace Go.Proofs.YtlhkgeoahblffaaDoor
open Go.Sx
/-- Where there are four bytes. -/
def fTakeIx : Fact := ⟨47, fun args => match args with
  | [.str s, .int .i64 a, .int .i64 k] => some (.req (takeR s a k && decide (a + 4 ≤ (s.length : Int))) (.leaf (.tuple [I64 (sg (tk s a.toNat)), I64 (a + 4), I64 0])))
  | _ => none⟩
theorem o_takeIx : fTakeIx.ok Tryd.prog := fun args t ht => by
  simp only [fTakeIx] at ht
  split at ht
  · rename_i s a k
    injection ht with ht; subst ht
    intro h
    rw [Bool.and_eq_true, decide_eq_true_eq] at h
    have h0 : (fTakeI.s [.str s, .int .i64 a, .int .i64 k]) = some _ := rfl
    have h1 := o_takeI _ _ h0 h.1
    exact h1.2 (decide_eq_false (by omega))
  · cases ht
def pk0_p : Plan := .fork (.all) (.fork (.all) (.all))
noncomputable def pk0_t (us ts : List (Int × Int × Int)) : Tree Stop :=
   .node (chk us ts != 0)
 (.leaf (Stop.done (SV.tuple [SV.str [], I64 (chk us ts)])))
 (.node (decide (((ts.length : Int) : Int) > 1365))
  (.leaf (Stop.done (SV.tuple [SV.str [], I64 2])))
  (.req (decide (0 ≤ ((ts.length : Int) : Int)) && decide (((ts.length : Int) : Int) < 4294967296)) (.req (decide ((ub (be4 ((ts.length : Int) : Int))).length * 1 ≤ 140737488355328)) (.leaf (Stop.at (loopOf Tryd.prog 24 0) 79 (slotsS 79 [(1, SV.ptr 0 0), (5, SV.ptr 1 0), (39, I64 ((ts.length : Int) : Int)), (40, I64 0), (54, SV.undef), (55, SV.undef)]) [some (Box.cells [SV.list v3 us, SV.list v3 ts]), some (Box.obj 51 [SV.ptr 1 0, SV.row 2]), some (Box.rows (Ty.int IntKind.u8) (ub (be4 ((ts.length : Int) : Int))))])))))
theorem pk0 (us ts : List (Int × Int × Int)) : segR (Env.ofB Tryd.prog (sumOf [fCheck, fCorners, fUint4 42, fInt4]) (wrOf [wCopy, wStr]) (pnOf []) (bxOf []) (rdOf [51]) (rdOf [28]) (rdOf []) (rdOf [])) 1000 (fnOf Tryd.prog 24) .unit (keepS 79 [1,5,39,40,54,55]) (codeS Tryd.prog 24) pk0_p (startS Tryd.prog 24 [.agg [.list v3 us, .list v3 ts]]) [] = pk0_t us ts := by kernel_rfl
def pk1_p : Plan := .fork (.fork (.all) (.all)) (.all)
noncomputable def pk1_t (us ts : List (Int × Int × Int)) (l : List Int) (i : Int) : Tree Stop :=
   .node (decide (i < ((ts.length : Int) : Int)))
 (.node (noTri us ts i)
  (.leaf (Stop.at (loopOf Tryd.prog 24 1) 79 (slotsS 79 [(1, SV.ptr 0 0), (5, SV.ptr 1 0), (39, I64 ((ts.length : Int) : Int)), (40, I64 i), (54, SV.agg [I64 0, I64 0, I64 0, I64 0, I64 0, I64 0, I64 0, I64 0, I64 0]), (55, I64 0)]) [some (Box.cells [SV.list v3 us, SV.list v3 ts]), some (Box.obj 51 [SV.ptr 1 0, SV.row 2]), some (Box.rows (Ty.int IntKind.u8) l)]))
  (.leaf (Stop.at (loopOf Tryd.prog 24 1) 79 (slotsS 79 [(1, SV.ptr 0 0), (5, SV.ptr 1 0), (39, I64 ((ts.length : Int) : Int)), (40, I64 i), (54, SV.agg [I64 (nth3 us (nth3 ts i).fst).fst, I64 (nth3 us (nth3 ts i).fst).snd.fst, I64 (nth3 us (nth3 ts i).fst).snd.snd, I64 (nth3 us (nth3 ts i).snd.fst).fst, I64 (nth3 us (nth3 ts i).snd.fst).snd.fst, I64 (nth3 us (nth3 ts i).snd.fst).snd.snd, I64 (nth3 us (nth3 ts i).snd.snd).fst, I64 (nth3 us (nth3 ts i).snd.snd).snd.fst, I64 (nth3 us (nth3 ts i).snd.snd).snd.snd]), (55, I64 0)]) [some (Box.cells [SV.list v3 us, SV.list v3 ts]), some (Box.obj 51 [SV.ptr 1 0, SV.row 2]), some (Box.rows (Ty.int IntKind.u8) l)])))
 (.req (okU l) (.req (decide (0 < l.length)) (.req (decide ((↑l.length : Int) ≤ (9223372036854775807 : Int))) (.leaf (Stop.done (SV.tuple [SV.str (ofU l), I64 0]))))))
theorem pk1 (us ts : List (Int × Int × Int)) (l : List Int) (i : Int) : segR (Env.ofB Tryd.prog (sumOf [fCheck, fCorners, fUint4 42, fInt4]) (wrOf [wCopy, wStr]) (pnOf []) (bxOf []) (rdOf [51]) (rdOf [28]) (rdOf []) (rdOf [])) 1000 (fnOf Tryd.prog 24) .unit (keepS 79 [1,5,39,40,54,55]) (loopOf Tryd.prog 24 0) pk1_p (slotsS 79 [(1, .ptr 0 0), (5, .ptr 1 0), (39, I64 (ts.length : Int)), (40, I64 i), (54, .undef), (55, .undef)]) [some (.cells [.list v3 us, .list v3 ts]), some (.obj 51 [.ptr 1 0, .row 2]), some (.rows (.int .u8) l)] = pk1_t us ts l i := by kernel_rfl
def pk1b_p : Plan := .fork (.fork (.all) (.all)) (.all)
noncomputable def pk1b_t (us ts : List (Int × Int × Int)) (l : List Int) (i a b c d e f g h k : Int) : Tree Stop :=
   .node (decide (i < ((ts.length : Int) : Int)))
 (.node (noTri us ts i)
  (.leaf (Stop.at (loopOf Tryd.prog 24 1) 79 (slotsS 79 [(1, SV.ptr 0 0), (5, SV.ptr 1 0), (39, I64 ((ts.length : Int) : Int)), (40, I64 i), (54, SV.agg [I64 0, I64 0, I64 0, I64 0, I64 0, I64 0, I64 0, I64 0, I64 0]), (55, I64 0)]) [some (Box.cells [SV.list v3 us, SV.list v3 ts]), some (Box.obj 51 [SV.ptr 1 0, SV.row 2]), some (Box.rows (Ty.int IntKind.u8) l)]))
  (.leaf (Stop.at (loopOf Tryd.prog 24 1) 79 (slotsS 79 [(1, SV.ptr 0 0), (5, SV.ptr 1 0), (39, I64 ((ts.length : Int) : Int)), (40, I64 i), (54, SV.agg [I64 (nth3 us (nth3 ts i).fst).fst, I64 (nth3 us (nth3 ts i).fst).snd.fst, I64 (nth3 us (nth3 ts i).fst).snd.snd, I64 (nth3 us (nth3 ts i).snd.fst).fst, I64 (nth3 us (nth3 ts i).snd.fst).snd.fst, I64 (nth3 us (nth3 ts i).snd.fst).snd.snd, I64 (nth3 us (nth3 ts i).snd.snd).fst, I64 (nth3 us (nth3 ts i).snd.snd).snd.fst, I64 (nth3 us (nth3 ts i).snd.snd).snd.snd]), (55, I64 0)]) [some (Box.cells [SV.list v3 us, SV.list v3 ts]), some (Box.obj 51 [SV.ptr 1 0, SV.row 2]), some (Box.rows (Ty.int IntKind.u8) l)])))
 (.req (okU l) (.req (decide (0 < l.length)) (.req (decide ((↑l.length : Int) ≤ (9223372036854775807 : Int))) (.leaf (Stop.done (SV.tuple [SV.str (ofU l), I64 0]))))))
theorem pk1b (us ts : List (Int × Int × Int)) (l : List Int) (i a b c d e f g h k : Int) : segR (Env.ofB Tryd.prog (sumOf [fCheck, fCorners, fUint4 42, fInt4]) (wrOf [wCopy, wStr]) (pnOf []) (bxOf []) (rdOf [51]) (rdOf [28]) (rdOf []) (rdOf [])) 1000 (fnOf Tryd.prog 24) .unit (keepS 79 [1,5,39,40,54,55]) (loopOf Tryd.prog 24 0) pk1b_p (slotsS 79 [(1, .ptr 0 0), (5, .ptr 1 0), (39, I64 (ts.length : Int)), (40, I64 i), (54, .agg [I64 a, I64 b, I64 c, I64 d, I64 e, I64 f, I64 g, I64 h, I64 k]), (55, I64 3)]) [some (.cells [.list v3 us, .list v3 ts]), some (.obj 51 [.ptr 1 0, .row 2]), some (.rows (.int .u8) l)] = pk1b_t us ts l i a b c d e f g h k := by kernel_rfl
def pk20_p : Plan := .lit (.go (.lit (.go (.lit (.go (.lit (.go (.lit (.all)))))))))
noncomputable def pk20_t (us ts : List (Int × Int × Int)) (l : List Int) (i a b c d e f g h k : Int) : Tree Stop :=
   .req (true) (.req (true) (.req (decide (-2147483648 ≤ a) && decide (a < 2147483648)) (.req (decide ((l.length + (ub (be4 a)).length) * 1 ≤ 140737488355328)) (.req (true) (.req (decide (-2147483648 ≤ b) && decide (b < 2147483648)) (.req (decide (((l ++ ub (be4 a)).length + (ub (be4 b)).length) * 1 ≤ 140737488355328)) (.req (true) (.req (decide (-2147483648 ≤ c) && decide (c < 2147483648)) (.req (decide (((l ++ ub (be4 a) ++ ub (be4 b)).length + (ub (be4 c)).length) * 1 ≤ 140737488355328)) (.leaf (Stop.at (loopOf Tryd.prog 24 1) 79 (slotsS 79 [(1, SV.ptr 0 0), (5, SV.ptr 1 0), (39, I64 ((ts.length : Int) : Int)), (40, I64 i), (54, SV.agg [I64 a, I64 b, I64 c, I64 d, I64 e, I64 f, I64 g, I64 h, I64 k]), (55, I64 1)]) [some (Box.cells [SV.list v3 us, SV.list v3 ts]), some (Box.obj 51 [SV.ptr 1 0, SV.row 2]), some (Box.rows (Ty.int IntKind.u8) (l ++ ub (be4 a) ++ ub (be4 b) ++ ub (be4 c)))])))))))))))
theorem pk20 (us ts : List (Int × Int × Int)) (l : List Int) (i a b c d e f g h k : Int) : segR (Env.ofB Tryd.prog (sumOf [fCheck, fCorners, fUint4 42, fInt4]) (wrOf [wCopy, wStr]) (pnOf []) (bxOf []) (rdOf [51]) (rdOf [28]) (rdOf []) (rdOf [])) 1000 (fnOf Tryd.prog 24) .unit (keepS 79 [1,5,39,40,54,55]) (loopOf Tryd.prog 24 1) pk20_p (slotsS 79 [(1, .ptr 0 0), (5, .ptr 1 0), (39, I64 (ts.length : Int)), (40, I64 i), (54, .agg [I64 a, I64 b, I64 c, I64 d, I64 e, I64 f, I64 g, I64 h, I64 k]), (55, I64 0)]) [some (.cells [.list v3 us, .list v3 ts]), some (.obj 51 [.ptr 1 0, .row 2]), some (.rows (.int .u8) l)] = pk20_t us ts l i a b c d e f g h k := by kernel_rfl
def pk21_p : Plan := .lit (.go (.lit (.go (.lit (.go (.lit (.go (.lit (.all)))))))))
noncomputable def pk21_t (us ts : List (Int × Int × Int)) (l : List Int) (i a b c d e f g h k : Int) : Tree Stop :=
   .req (true) (.req (true) (.req (decide (-2147483648 ≤ d) && decide (d < 2147483648)) (.req (decide ((l.length + (ub (be4 d)).length) * 1 ≤ 140737488355328)) (.req (true) (.req (decide (-2147483648 ≤ e) && decide (e < 2147483648)) (.req (decide (((l ++ ub (be4 d)).length + (ub (be4 e)).length) * 1 ≤ 140737488355328)) (.req (true) (.req (decide (-2147483648 ≤ f) && decide (f < 2147483648)) (.req (decide (((l ++ ub (be4 d) ++ ub (be4 e)).length + (ub (be4 f)).length) * 1 ≤ 140737488355328)) (.leaf (Stop.at (loopOf Tryd.prog 24 1) 79 (slotsS 79 [(1, SV.ptr 0 0), (5, SV.ptr 1 0), (39, I64 ((ts.length : Int) : Int)), (40, I64 i), (54, SV.agg [I64 a, I64 b, I64 c, I64 d, I64 e, I64 f, I64 g, I64 h, I64 k]), (55, I64 2)]) [some (Box.cells [SV.list v3 us, SV.list v3 ts]), some (Box.obj 51 [SV.ptr 1 0, SV.row 2]), some (Box.rows (Ty.int IntKind.u8) (l ++ ub (be4 d) ++ ub (be4 e) ++ ub (be4 f)))])))))))))))
theorem pk21 (us ts : List (Int × Int × Int)) (l : List Int) (i a b c d e f g h k : Int) : segR (Env.ofB Tryd.prog (sumOf [fCheck, fCorners, fUint4 42, fInt4]) (wrOf [wCopy, wStr]) (pnOf []) (bxOf []) (rdOf [51]) (rdOf [28]) (rdOf []) (rdOf [])) 1000 (fnOf Tryd.prog 24) .unit (keepS 79 [1,5,39,40,54,55]) (loopOf Tryd.prog 24 1) pk21_p (slotsS 79 [(1, .ptr 0 0), (5, .ptr 1 0), (39, I64 (ts.length : Int)), (40, I64 i), (54, .agg [I64 a, I64 b, I64 c, I64 d, I64 e, I64 f, I64 g, I64 h, I64 k]), (55, I64 1)]) [some (.cells [.list v3 us, .list v3 ts]), some (.obj 51 [.ptr 1 0, .row 2]), some (.rows (.int .u8) l)] = pk21_t us ts l i a b c d e f g h k := by kernel_rfl
def pk22_p : Plan := .lit (.go (.lit (.go (.lit (.go (.lit (.go (.lit (.all)))))))))
noncomputable def pk22_t (us ts : List (Int × Int × Int)) (l : List Int) (i a b c d e f g h k : Int) : Tree Stop :=
   .req (true) (.req (true) (.req (decide (-2147483648 ≤ g) && decide (g < 2147483648)) (.req (decide ((l.length + (ub (be4 g)).length) * 1 ≤ 140737488355328)) (.req (true) (.req (decide (-2147483648 ≤ h) && decide (h < 2147483648)) (.req (decide (((l ++ ub (be4 g)).length + (ub (be4 h)).length) * 1 ≤ 140737488355328)) (.req (true) (.req (decide (-2147483648 ≤ k) && decide (k < 2147483648)) (.req (decide (((l ++ ub (be4 g) ++ ub (be4 h)).length + (ub (be4 k)).length) * 1 ≤ 140737488355328)) (.leaf (Stop.at (loopOf Tryd.prog 24 1) 79 (slotsS 79 [(1, SV.ptr 0 0), (5, SV.ptr 1 0), (39, I64 ((ts.length : Int) : Int)), (40, I64 i), (54, SV.agg [I64 a, I64 b, I64 c, I64 d, I64 e, I64 f, I64 g, I64 h, I64 k]), (55, I64 3)]) [some (Box.cells [SV.list v3 us, SV.list v3 ts]), some (Box.obj 51 [SV.ptr 1 0, SV.row 2]), some (Box.rows (Ty.int IntKind.u8) (l ++ ub (be4 g) ++ ub (be4 h) ++ ub (be4 k)))])))))))))))
theorem pk22 (us ts : List (Int × Int × Int)) (l : List Int) (i a b c d e f g h k : Int) : segR (Env.ofB Tryd.prog (sumOf [fCheck, fCorners, fUint4 42, fInt4]) (wrOf [wCopy, wStr]) (pnOf []) (bxOf []) (rdOf [51]) (rdOf [28]) (rdOf []) (rdOf [])) 1000 (fnOf Tryd.prog 24) .unit (keepS 79 [1,5,39,40,54,55]) (loopOf Tryd.prog 24 1) pk22_p (slotsS 79 [(1, .ptr 0 0), (5, .ptr 1 0), (39, I64 (ts.length : Int)), (40, I64 i), (54, .agg [I64 a, I64 b, I64 c, I64 d, I64 e, I64 f, I64 g, I64 h, I64 k]), (55, I64 2)]) [some (.cells [.list v3 us, .list v3 ts]), some (.obj 51 [.ptr 1 0, .row 2]), some (.rows (.int .u8) l)] = pk22_t us ts l i a b c d e f g h k := by kernel_rfl
def pk23_p : Plan := .lit (.all)
noncomputable def pk23_t (us ts : List (Int × Int × Int)) (l : List Int) (i a b c d e f g h k : Int) : Tree Stop :=
   .leaf (Stop.at (loopOf Tryd.prog 24 0) 79 (slotsS 79 [(1, SV.ptr 0 0), (5, SV.ptr 1 0), (39, I64 ((ts.length : Int) : Int)), (40, I64 (IntKind.i64.wrap (i + 1))), (54, SV.agg [I64 a, I64 b, I64 c, I64 d, I64 e, I64 f, I64 g, I64 h, I64 k]), (55, I64 3)]) [some (Box.cells [SV.list v3 us, SV.list v3 ts]), some (Box.obj 51 [SV.ptr 1 0, SV.row 2]), some (Box.rows (Ty.int IntKind.u8) l)])
theorem pk23 (us ts : List (Int × Int × Int)) (l : List Int) (i a b c d e f g h k : Int) : segR (Env.ofB Tryd.prog (sumOf [fCheck, fCorners, fUint4 42, fInt4]) (wrOf [wCopy, wStr]) (pnOf []) (bxOf []) (rdOf [51]) (rdOf [28]) (rdOf []) (rdOf [])) 1000 (fnOf Tryd.prog 24) .unit (keepS 79 [1,5,39,40,54,55]) (loopOf Tryd.prog 24 1) pk23_p (slotsS 79 [(1, .ptr 0 0), (5, .ptr 1 0), (39, I64 (ts.length : Int)), (40, I64 i), (54, .agg [I64 a, I64 b, I64 c, I64 d, I64 e, I64 f, I64 g, I64 h, I64 k]), (55, I64 3)]) [some (.cells [.list v3 us, .list v3 ts]), some (.obj 51 [.ptr 1 0, .row 2]), some (.rows (.int .u8) l)] = pk23_t us ts l i a b c d e f g h k := by kernel_rfl
def pl0_p : Plan := .fork (.all) (.fork (.all) (.all))
noncomputable def pl0_t (us ts : List (Int × Int × Int)) : Tree Stop :=
   .node (chk us ts != 0)
 (.leaf (Stop.done (SV.tuple [SV.str [], I64 (chk us ts)])))
 (.node (decide (((ts.length : Int) : Int) > 1365))
  (.leaf (Stop.done (SV.tuple [SV.str [], I64 2])))
  (.req (decide (0 ≤ ((ts.length : Int) : Int)) && decide (((ts.length : Int) : Int) < 4294967296)) (.leaf (Stop.at (loopOf Tryd.prog 25 0) 85 (slotsS 85 [(1, SV.ptr 0 0), (5, SV.str (be4 ((ts.length : Int) : Int))), (7, I64 0), (9, SV.undef), (10, SV.undef)]) [some (Box.cells [SV.list v3 us, SV.list v3 ts])]))))
theorem pl0 (us ts : List (Int × Int × Int)) : segR (Env.of Tryd.prog (sumOf [fCheckR, fUint4 44, fCoord])) 1000 (fnOf Tryd.prog 25) .unit (keepS 85 [1,5,7,9,10]) (codeS Tryd.prog 25) pl0_p (startS Tryd.prog 25 [.agg [.list v3 us, .list v3 ts]]) [] = pl0_t us ts := by kernel_rfl
def pl1_p : Plan := .fork (.all) (.all)
noncomputable def pl1_t (us ts : List (Int × Int × Int)) (s : List UInt8) (i : Int) : Tree Stop :=
   .node (decide (i < ((ts.length : Int) : Int)))
 (.req (decide (0 ≤ i) && decide (i < ((ts.length : Int) : Int))) (.req (decide (0 ≤ (nth3 ts i).fst) && decide ((nth3 ts i).fst < ((us.length : Int) : Int))) (.req (decide (0 ≤ (nth3 ts i).snd.fst) && decide ((nth3 ts i).snd.fst < ((us.length : Int) : Int))) (.req (decide (0 ≤ (nth3 ts i).snd.snd) && decide ((nth3 ts i).snd.snd < ((us.length : Int) : Int))) (.leaf (Stop.at (loopOf Tryd.prog 25 1) 85 (slotsS 85 [(1, SV.ptr 0 0), (5, SV.str s), (7, I64 i), (9, SV.list v3 [nth3 us (nth3 ts i).fst, nth3 us (nth3 ts i).snd.fst, nth3 us (nth3 ts i).snd.snd]), (10, I64 0)]) [some (Box.cells [SV.list v3 us, SV.list v3 ts])]))))))
 (.leaf (Stop.done (SV.tuple [SV.str s, I64 0])))
theorem pl1 (us ts : List (Int × Int × Int)) (s : List UInt8) (i : Int) : segR (Env.of Tryd.prog (sumOf [fCheckR, fUint4 44, fCoord])) 1000 (fnOf Tryd.prog 25) .unit (keepS 85 [1,5,7,9,10]) (loopOf Tryd.prog 25 0) pl1_p (slotsS 85 [(1, .ptr 0 0), (5, .str s), (7, I64 i), (9, .undef), (10, .undef)]) [some (.cells [.list v3 us, .list v3 ts])] = pl1_t us ts s i := by kernel_rfl
def pl1b_p : Plan := .fork (.all) (.all)
noncomputable def pl1b_t (us ts : List (Int × Int × Int)) (s : List UInt8) (i : Int) (c : List (Int × Int × Int)) (k : Int) : Tree Stop :=
   .node (decide (i < ((ts.length : Int) : Int)))
 (.req (decide (0 ≤ i) && decide (i < ((ts.length : Int) : Int))) (.req (decide (0 ≤ (nth3 ts i).fst) && decide ((nth3 ts i).fst < ((us.length : Int) : Int))) (.req (decide (0 ≤ (nth3 ts i).snd.fst) && decide ((nth3 ts i).snd.fst < ((us.length : Int) : Int))) (.req (decide (0 ≤ (nth3 ts i).snd.snd) && decide ((nth3 ts i).snd.snd < ((us.length : Int) : Int))) (.leaf (Stop.at (loopOf Tryd.prog 25 1) 85 (slotsS 85 [(1, SV.ptr 0 0), (5, SV.str s), (7, I64 i), (9, SV.list v3 [nth3 us (nth3 ts i).fst, nth3 us (nth3 ts i).snd.fst, nth3 us (nth3 ts i).snd.snd]), (10, I64 0)]) [some (Box.cells [SV.list v3 us, SV.list v3 ts])]))))))
 (.leaf (Stop.done (SV.tuple [SV.str s, I64 0])))
theorem pl1b (us ts : List (Int × Int × Int)) (s : List UInt8) (i : Int) (c : List (Int × Int × Int)) (k : Int) : segR (Env.of Tryd.prog (sumOf [fCheckR, fUint4 44, fCoord])) 1000 (fnOf Tryd.prog 25) .unit (keepS 85 [1,5,7,9,10]) (loopOf Tryd.prog 25 0) pl1b_p (slotsS 85 [(1, .ptr 0 0), (5, .str s), (7, I64 i), (9, .list v3 c), (10, I64 k)]) [some (.cells [.list v3 us, .list v3 ts])] = pl1b_t us ts s i c k := by kernel_rfl
def pl2_p : Plan := .fork (.all) (.all)
noncomputable def pl2_t (us ts : List (Int × Int × Int)) (s : List UInt8) (i : Int) (c : List (Int × Int × Int)) (k : Int) : Tree Stop :=
   .node (decide (k < 3))
 (.req (decide (0 ≤ k) && decide (k < (↑c.length : Int))) (.req (decide (-2147483648 ≤ (nth3 c k).fst) && decide ((nth3 c k).fst < 2147483648)) (.req (decide (0 ≤ k) && decide (k < (↑c.length : Int))) (.req (decide (-2147483648 ≤ (nth3 c k).snd.fst) && decide ((nth3 c k).snd.fst < 2147483648)) (.req (decide ((((be4 (nth3 c k).fst).length + (be4 (nth3 c k).snd.fst).length : Nat) : Int) ≤ (9223372036854775807 : Int))) (.req (decide (0 ≤ k) && decide (k < (↑c.length : Int))) (.req (decide (-2147483648 ≤ (nth3 c k).snd.snd) && decide ((nth3 c k).snd.snd < 2147483648)) (.req (decide ((((be4 (nth3 c k).fst ++ be4 (nth3 c k).snd.fst).length + (be4 (nth3 c k).snd.snd).length : Nat) : Int) ≤ (9223372036854775807 : Int))) (.req (decide (((s.length + (be4 (nth3 c k).fst ++ be4 (nth3 c k).snd.fst ++ be4 (nth3 c k).snd.snd).length : Nat) : Int) ≤ (9223372036854775807 : Int))) (.leaf (Stop.at (loopOf Tryd.prog 25 1) 85 (slotsS 85 [(1, SV.ptr 0 0), (5, SV.str (s ++ (be4 (nth3 c k).fst ++ be4 (nth3 c k).snd.fst ++ be4 (nth3 c k).snd.snd))), (7, I64 i), (9, SV.list v3 c), (10, I64 (IntKind.i64.wrap (k + 1)))]) [some (Box.cells [SV.list v3 us, SV.list v3 ts])])))))))))))
 (.leaf (Stop.at (loopOf Tryd.prog 25 0) 85 (slotsS 85 [(1, SV.ptr 0 0), (5, SV.str s), (7, I64 (IntKind.i64.wrap (i + 1))), (9, SV.list v3 c), (10, I64 k)]) [some (Box.cells [SV.list v3 us, SV.list v3 ts])]))
theorem pl2 (us ts : List (Int × Int × Int)) (s : List UInt8) (i : Int) (c : List (Int × Int × Int)) (k : Int) : segR (Env.of Tryd.prog (sumOf [fCheckR, fUint4 44, fCoord])) 1000 (fnOf Tryd.prog 25) .unit (keepS 85 [1,5,7,9,10]) (loopOf Tryd.prog 25 1) pl2_p (slotsS 85 [(1, .ptr 0 0), (5, .str s), (7, I64 i), (9, .list v3 c), (10, I64 k)]) [some (.cells [.list v3 us, .list v3 ts])] = pl2_t us ts s i c k := by kernel_rfl
def up0_p : Plan := .fork (.lit (.all)) (.lit (.fork (.all) (.fork (.all) (.fork (.all) (.all)))))
noncomputable def up0_t (s : List UInt8) : Tree Stop :=
   .req (takeR s 0 4) (.node (decide (((s.length : Nat) : Int) - 0 < 4))
  (.leaf (Stop.done (SV.tuple [SV.agg [SV.list v3 [], SV.list v3 []], I64 6])))
  (.node (decide (tk s 0 > 1365))
   (.leaf (Stop.done (SV.tuple [SV.agg [SV.list v3 [], SV.list v3 []], I64 2])))
   (.node (decide (IntKind.i64.wrap (((s.length : Nat) : Int) - 4) < IntKind.i64.wrap (36 * tk s 0)))
    (.leaf (Stop.done (SV.tuple [SV.agg [SV.list v3 [], SV.list v3 []], I64 6])))
    (.node (decide (IntKind.i64.wrap (((s.length : Nat) : Int) - 4) > IntKind.i64.wrap (36 * tk s 0)))
     (.leaf (Stop.done (SV.tuple [SV.agg [SV.list v3 [], SV.list v3 []], I64 5])))
     (.leaf (Stop.at (loopOf Tryd.prog 26 0) 99 (slotsS 99 [(0, SV.str s), (2, SV.ptr 0 0), (5, I64 4), (7, SV.ptr 1 0), (45, I64 (IntKind.i64.wrap (3 * tk s 0))), (46, I64 0)]) [some (Box.cells [SV.nilS, SV.nilS]), some (Box.cells [SV.nilS, SV.nilS])]))))))
theorem up0 (s : List UInt8) : segR (Env.of Tryd.prog (sumOf [fTakeU 46, fTakeIx])) 1000 (fnOf Tryd.prog 26) v3 (keepS 99 [0,2,5,7,45,46]) (codeS Tryd.prog 26) up0_p (startS Tryd.prog 26 [.str s]) [] = up0_t s := by kernel_rfl
def up1_p : Plan := .fork (.go (.lit (.fork (.lit (.lit (.lit (.lit (.lit (.all)))))) (.lit (.lit (.lit (.lit (.fork (.all) (.go (.lit (.fork (.lit (.lit (.lit (.lit (.lit (.all)))))) (.lit (.lit (.lit (.lit (.fork (.all) (.go (.lit (.fork (.lit (.lit (.lit (.lit (.lit (.all)))))) (.lit (.lit (.lit (.lit (.fork (.all) (.go (.lit (.fork (.all) (.all)))))))))))))))))))))))))))) (.all)
noncomputable def up1_t (s : List UInt8) (us ts : List (Int × Int × Int)) (a k i : Int) : Tree Stop :=
   .node (decide (i < k))
 (.req (true) (.req (takeR s a 4 && decide (a + 4 ≤ ((s.length : Nat) : Int))) (.node (decide (sg (tk s a.toNat) < -65536))
    (.leaf (Stop.done (SV.tuple [SV.agg [SV.list v3 [], SV.list v3 []], I64 8])))
    (.node (decide (sg (tk s a.toNat) > 65536))
     (.leaf (Stop.done (SV.tuple [SV.agg [SV.list v3 [], SV.list v3 []], I64 8])))
     (.req (true) (.req (takeR s (a + 4) 4 && decide (a + 4 + 4 ≤ ((s.length : Nat) : Int))) (.node (decide (sg (tk s (a + 4).toNat) < -65536))
        (.leaf (Stop.done (SV.tuple [SV.agg [SV.list v3 [], SV.list v3 []], I64 8])))
        (.node (decide (sg (tk s (a + 4).toNat) > 65536))
         (.leaf (Stop.done (SV.tuple [SV.agg [SV.list v3 [], SV.list v3 []], I64 8])))
         (.req (true) (.req (takeR s (a + 4 + 4) 4 && decide (a + 4 + 4 + 4 ≤ ((s.length : Nat) : Int))) (.node (decide (sg (tk s (a + 4 + 4).toNat) < -65536))
            (.leaf (Stop.done (SV.tuple [SV.agg [SV.list v3 [], SV.list v3 []], I64 8])))
            (.node (decide (sg (tk s (a + 4 + 4).toNat) > 65536))
             (.leaf (Stop.done (SV.tuple [SV.agg [SV.list v3 [], SV.list v3 []], I64 8])))
             (.req (decide ((us.length + [(sg (tk s a.toNat), sg (tk s (a + 4).toNat), sg (tk s (a + 4 + 4).toNat))].length) * 24 ≤ 140737488355328)) (.req (true) (.node (i.tmod 3 == 2)
                (.req (decide ((ts.length + [(IntKind.i64.wrap (i - 2), IntKind.i64.wrap (i - 1), i)].length) * 24 ≤ 140737488355328)) (.leaf (Stop.at (loopOf Tryd.prog 26 0) 99 (slotsS 99 [(0, SV.str s), (2, SV.ptr 0 0), (5, I64 (a + 4 + 4 + 4)), (7, SV.ptr 1 0), (45, I64 k), (46, I64 (IntKind.i64.wrap (i + 1)))]) [some (Box.cells [SV.nilS, SV.nilS]), some (Box.cells [SV.row 2, SV.row 3]), some (Box.rows v3 (us ++ [(sg (tk s a.toNat), sg (tk s (a + 4).toNat), sg (tk s (a + 4 + 4).toNat))])), some (Box.rows v3 (ts ++ [(IntKind.i64.wrap (i - 2), IntKind.i64.wrap (i - 1), i)]))])))
                (.leaf (Stop.at (loopOf Tryd.prog 26 0) 99 (slotsS 99 [(0, SV.str s), (2, SV.ptr 0 0), (5, I64 (a + 4 + 4 + 4)), (7, SV.ptr 1 0), (45, I64 k), (46, I64 (IntKind.i64.wrap (i + 1)))]) [some (Box.cells [SV.nilS, SV.nilS]), some (Box.cells [SV.row 2, SV.row 3]), some (Box.rows v3 (us ++ [(sg (tk s a.toNat), sg (tk s (a + 4).toNat), sg (tk s (a + 4 + 4).toNat))])), some (Box.rows v3 ts)])))))))))))))))))
 (.leaf (Stop.done (SV.tuple [SV.agg [SV.list v3 us, SV.list v3 ts], I64 0])))
theorem up1 (s : List UInt8) (us ts : List (Int × Int × Int)) (a k i : Int) : segR (Env.of Tryd.prog (sumOf [fTakeU 46, fTakeIx])) 1000 (fnOf Tryd.prog 26) v3 (keepS 99 [0,2,5,7,45,46]) (loopOf Tryd.prog 26 0) up1_p (slotsS 99 [(0, .str s), (2, .ptr 0 0), (5, I64 a), (7, .ptr 1 0), (45, I64 k), (46, I64 i)]) [some (.cells [.nilS, .nilS]), some (.cells [.row 2, .row 3]), some (.rows v3 us), some (.rows v3 ts)] = up1_t s us ts a k i := by kernel_rfl
def ur0_p : Plan := .fork (.lit (.all)) (.lit (.fork (.all) (.fork (.all) (.fork (.all) (.all)))))
noncomputable def ur0_t (s : List UInt8) : Tree Stop :=
   .req (takeR s 0 4) (.node (decide (((s.length : Nat) : Int) - 0 < 4))
  (.leaf (Stop.done (SV.tuple [SV.agg [SV.list v3 [], SV.list v3 []], I64 6])))
  (.node (decide (tk s 0 > 1365))
   (.leaf (Stop.done (SV.tuple [SV.agg [SV.list v3 [], SV.list v3 []], I64 2])))
   (.node (decide (((s.length : Nat) : Int) < IntKind.i64.wrap (4 + IntKind.i64.wrap (36 * tk s 0))))
    (.leaf (Stop.done (SV.tuple [SV.agg [SV.list v3 [], SV.list v3 []], I64 6])))
    (.node (decide (((s.length : Nat) : Int) > IntKind.i64.wrap (4 + IntKind.i64.wrap (36 * tk s 0))))
     (.leaf (Stop.done (SV.tuple [SV.agg [SV.list v3 [], SV.list v3 []], I64 5])))
     (.leaf (Stop.at (loopOf Tryd.prog 27 0) 112 (slotsS 112 [(0, SV.str s), (2, SV.ptr 0 0), (4, I64 (tk s 0)), (7, SV.ptr 1 0), (8, I64 0), (15, SV.undef)]) [some (Box.cells [SV.nilS, SV.nilS]), some (Box.cells [SV.nilS, SV.nilS])]))))))
theorem ur0 (s : List UInt8) : segR (Env.of Tryd.prog (sumOf [fTakeU 48, fAt])) 1000 (fnOf Tryd.prog 27) v3 (keepS 112 [0,2,4,7,8,15]) (codeS Tryd.prog 27) ur0_p (startS Tryd.prog 27 [.str s]) [] = ur0_t s := by kernel_rfl
def ur1_p : Plan := .fork (.fork (.lit (.lit (.lit (.lit (.lit (.lit (.all))))))) (.lit (.lit (.fork (.lit (.lit (.lit (.all)))) (.lit (.lit (.fork (.all) (.all)))))))) (.all)
noncomputable def ur1_t (s : List UInt8) (us ts : List (Int × Int × Int)) (n i : Int) : Tree Stop :=
   .node (decide (i < IntKind.i64.wrap (3 * n)))
 (.req (decide (0 ≤ IntKind.i64.wrap (4 + IntKind.i64.wrap (12 * i))) && (decide (IntKind.i64.wrap (4 + IntKind.i64.wrap (12 * i)) + 4 ≤ ((s.length : Nat) : Int)) && decide (((s.length : Nat) : Int) ≤ 100000))) (.req (decide (0 ≤ IntKind.i64.wrap (8 + IntKind.i64.wrap (12 * i))) && (decide (IntKind.i64.wrap (8 + IntKind.i64.wrap (12 * i)) + 4 ≤ ((s.length : Nat) : Int)) && decide (((s.length : Nat) : Int) ≤ 100000))) (.req (decide (0 ≤ IntKind.i64.wrap (12 + IntKind.i64.wrap (12 * i))) && (decide (IntKind.i64.wrap (12 + IntKind.i64.wrap (12 * i)) + 4 ≤ ((s.length : Nat) : Int)) && decide (((s.length : Nat) : Int) ≤ 100000))) (.node (!(decide (-65536 ≤ sg (tk s (IntKind.i64.wrap (4 + IntKind.i64.wrap (12 * i))).toNat)) && decide (sg (tk s (IntKind.i64.wrap (4 + IntKind.i64.wrap (12 * i))).toNat) ≤ 65536)))
     (.leaf (Stop.done (SV.tuple [SV.agg [SV.list v3 [], SV.list v3 []], I64 8])))
     (.node (!(decide (-65536 ≤ sg (tk s (IntKind.i64.wrap (8 + IntKind.i64.wrap (12 * i))).toNat)) && decide (sg (tk s (IntKind.i64.wrap (8 + IntKind.i64.wrap (12 * i))).toNat) ≤ 65536)))
      (.leaf (Stop.done (SV.tuple [SV.agg [SV.list v3 [], SV.list v3 []], I64 8])))
      (.node (!(decide (-65536 ≤ sg (tk s (IntKind.i64.wrap (12 + IntKind.i64.wrap (12 * i))).toNat)) && decide (sg (tk s (IntKind.i64.wrap (12 + IntKind.i64.wrap (12 * i))).toNat) ≤ 65536)))
       (.leaf (Stop.done (SV.tuple [SV.agg [SV.list v3 [], SV.list v3 []], I64 8])))
       (.req (decide ((us.length + [(sg (tk s (IntKind.i64.wrap (4 + IntKind.i64.wrap (12 * i))).toNat), sg (tk s (IntKind.i64.wrap (8 + IntKind.i64.wrap (12 * i))).toNat), sg (tk s (IntKind.i64.wrap (12 + IntKind.i64.wrap (12 * i))).toNat))].length) * 24 ≤ 140737488355328)) (.leaf (Stop.at (loopOf Tryd.prog 27 0) 112 (slotsS 112 [(0, SV.str s), (2, SV.ptr 0 0), (4, I64 n), (7, SV.ptr 1 0), (8, I64 (IntKind.i64.wrap (i + 1))), (15, SV.undef)]) [some (Box.cells [SV.nilS, SV.nilS]), some (Box.cells [SV.row 2, SV.row 3]), some (Box.rows v3 (us ++ [(sg (tk s (IntKind.i64.wrap (4 + IntKind.i64.wrap (12 * i))).toNat), sg (tk s (IntKind.i64.wrap (8 + IntKind.i64.wrap (12 * i))).toNat), sg (tk s (IntKind.i64.wrap (12 + IntKind.i64.wrap (12 * i))).toNat))])), some (Box.rows v3 ts)])))))))))
 (.leaf (Stop.at (loopOf Tryd.prog 27 1) 112 (slotsS 112 [(0, SV.str s), (2, SV.ptr 0 0), (4, I64 n), (7, SV.ptr 1 0), (8, I64 i), (15, I64 0)]) [some (Box.cells [SV.nilS, SV.nilS]), some (Box.cells [SV.row 2, SV.row 3]), some (Box.rows v3 us), some (Box.rows v3 ts)]))
theorem ur1 (s : List UInt8) (us ts : List (Int × Int × Int)) (n i : Int) : segR (Env.of Tryd.prog (sumOf [fTakeU 48, fAt])) 1000 (fnOf Tryd.prog 27) v3 (keepS 112 [0,2,4,7,8,15]) (loopOf Tryd.prog 27 0) ur1_p (slotsS 112 [(0, .str s), (2, .ptr 0 0), (4, I64 n), (7, .ptr 1 0), (8, I64 i), (15, .undef)]) [some (.cells [.nilS, .nilS]), some (.cells [.row 2, .row 3]), some (.rows v3 us), some (.rows v3 ts)] = ur1_t s us ts n i := by kernel_rfl
def ur2_p : Plan := .fork (.all) (.all)
noncomputable def ur2_t (s : List UInt8) (us ts : List (Int × Int × Int)) (n j i : Int) : Tree Stop :=
   .node (decide (i < n))
 (.req (decide ((ts.length + [(IntKind.i64.wrap (3 * i), IntKind.i64.wrap (IntKind.i64.wrap (3 * i) + 1), IntKind.i64.wrap (IntKind.i64.wrap (3 * i) + 2))].length) * 24 ≤ 140737488355328)) (.leaf (Stop.at (loopOf Tryd.prog 27 1) 112 (slotsS 112 [(0, SV.str s), (2, SV.ptr 0 0), (4, I64 n), (7, SV.ptr 1 0), (8, I64 j), (15, I64 (IntKind.i64.wrap (i + 1)))]) [some (Box.cells [SV.nilS, SV.nilS]), some (Box.cells [SV.row 2, SV.row 3]), some (Box.rows v3 us), some (Box.rows v3 (ts ++ [(IntKind.i64.wrap (3 * i), IntKind.i64.wrap (IntKind.i64.wrap (3 * i) + 1), IntKind.i64.wrap (IntKind.i64.wrap (3 * i) + 2))]))])))
 (.leaf (Stop.done (SV.tuple [SV.agg [SV.list v3 us, SV.list v3 ts], I64 0])))
theorem ur2 (s : List UInt8) (us ts : List (Int × Int × Int)) (n j i : Int) : segR (Env.of Tryd.prog (sumOf [fTakeU 48, fAt])) 1000 (fnOf Tryd.prog 27) v3 (keepS 112 [0,2,4,7,8,15]) (loopOf Tryd.prog 27 1) ur2_p (slotsS 112 [(0, .str s), (2, .ptr 0 0), (4, I64 n), (7, .ptr 1 0), (8, I64 j), (15, I64 i)]) [some (.cells [.nilS, .nilS]), some (.cells [.row 2, .row 3]), some (.rows v3 us), some (.rows v3 ts)] = ur2_t s us ts n j i := by kernel_rfl
end Go.Proofs.YtlhkgeoahblffaaDoor
set_option linter.unusedSimpArgs false
set_option linter.unusedVariables false
set_option maxRecDepth 100000
namespace Go.Proofs.YtlhkgeoahblffaaDoor
open Go.Sx

/-! ### Pack: what it computes -/

def v12 (v : T3) : List UInt8 := be4 v.1 ++ be4 v.2.1 ++ be4 v.2.2
def tri36 (us : List T3) (t : T3) : List UInt8 := v12 (nth3 us t.1) ++ v12 (nth3 us t.2.1) ++ v12 (nth3 us t.2.2)
def body36 (us : List T3) : List T3 → List UInt8
  | [] => []
  | t :: l => tri36 us t ++ body36 us l
def packL (us ts : List T3) : List UInt8 := be4 (ts.length : Int) ++ body36 us ts
def packT (us ts : List T3) : List UInt8 × Int := if chk us ts = 0 then (if 1365 < (ts.length : Int) then ([], 2) else (packL us ts, 0)) else ([], chk us ts)
def packS (us ts : List T3) : SV := .tuple [.str (packT us ts).1, I64 (packT us ts).2]
theorem v12_len (v : T3) : (v12 v).length = 12 := rfl
theorem tri36_len (us : List T3) (t : T3) : (tri36 us t).length = 36 := rfl
theorem body36_len (us : List T3) : ∀ l : List T3, (body36 us l).length = 36 * l.length
  | [] => rfl
  | t :: l => by rw [body36, List.length_append, tri36_len, body36_len us l, List.length_cons]; omega
theorem body36_append (us : List T3) : ∀ a b : List T3, body36 us (a ++ b) = body36 us a ++ body36 us b
  | [], _ => rfl
  | t :: a, b => by rw [List.cons_append, body36, body36, body36_append us a b, List.append_assoc]
def pre36 (us ts : List T3) (i : Nat) : List UInt8 := be4 (ts.length : Int) ++ body36 us (ts.take i)
theorem pre36_step {us ts : List T3} {i : Nat} (h : i < ts.length) : pre36 us ts (i + 1) = pre36 us ts i ++ tri36 us (nth3 ts (i : Int)) := by
  unfold pre36
  rw [take3 h, body36_append, List.append_assoc]
  simp [body36]
theorem pre36_len {us ts : List T3} (h : ts.length ≤ 1365) (i : Nat) : (pre36 us ts i).length ≤ 49144 := by
  have a := body36_len us (ts.take i)
  have b : (ts.take i).length ≤ 1365 := by simp; omega
  rw [pre36, List.length_append, a, be4_len]; omega
theorem pre36_end (us ts : List T3) : pre36 us ts ts.length = packL us ts := by rw [pre36, List.take_length]; rfl

/-! ### The program's Pack -/

theorem kPk : Known Tryd.prog (Env.ofB Tryd.prog (sumOf [fCheck, fCorners, fUint4 42, fInt4]) (wrOf [wCopy, wStr]) (pnOf []) (bxOf []) (rdOf [51]) (rdOf [28]) (rdOf []) (rdOf [])) :=
  hB (l := [fCheck, fCorners, fUint4 42, fInt4]) [51] [28] [] [] ⟨o_check, o_corners, o_uint4, o_int4, trivial⟩ (fun x hx => by
    rcases List.mem_cons.1 hx with rfl | hx
    · exact wCopy_ok
    · rcases List.mem_cons.1 hx with rfl | hx
      · exact wStr_ok
      · cases hx) noneOk noneOk
abbrev RPk (us ts : List T3) (k : Nat) (i : Nat) (x y : SV) (t : List UInt8) : Prop := RunsR Tryd.prog (fnOf Tryd.prog 24) (packS us ts) (loopOf Tryd.prog 24 k) (slotsS 79 [(1, .ptr 0 0), (5, .ptr 1 0), (39, I64 (ts.length : Int)), (40, I64 (i : Int)), (54, x), (55, y)]) (bxP us ts t)
theorem pk_in3 {us ts : List T3} {i : Nat} {a b c : T3} {t : List UInt8} (hi : i ≤ 4096) (h : RPk us ts 0 (i + 1) (nine a b c) (I64 3) t) : RPk us ts 1 i (nine a b c) (I64 3) t := by
  refine runsR_seg kPk (n := 1000) (hint := .unit) (keep := keepS 79 [1,5,39,40,54,55]) (p := pk23_p) rfl ?_
  erw [pk23 us ts (ub t) i a.1 a.2.1 a.2.2 b.1 b.2.1 b.2.2 c.1 c.2.1 c.2.2]
  unfold pk23_t
  refine ⟨slotsS_len _ _, ?_⟩
  rw [wr1 (by omega)]
  exact h
theorem inR_iff {v : T3} : inR v = true ↔ (-65536 ≤ v.1 ∧ v.1 ≤ 65536) ∧ (-65536 ≤ v.2.1 ∧ v.2.1 ≤ 65536) ∧ -65536 ≤ v.2.2 ∧ v.2.2 ≤ 65536 := by
  unfold inR
  simp only [Bool.and_eq_true, decide_eq_true_eq]
  constructor
  · rintro ⟨h1, h2, h3, h4, h5, h6⟩; exact ⟨⟨h1, h2⟩, ⟨h3, h4⟩, h5, h6⟩
  · rintro ⟨⟨h1, h2⟩, ⟨h3, h4⟩, h5, h6⟩; exact ⟨h1, h2, h3, h4, h5, h6⟩
theorem pk_in2 {us ts : List T3} {i : Nat} {a b c : T3} {t : List UInt8} (ht : t.length ≤ 100000) (hc : inR c = true) (h : RPk us ts 1 i (nine a b c) (I64 3) (t ++ v12 c)) : RPk us ts 1 i (nine a b c) (I64 2) t := by
  refine runsR_seg kPk (n := 1000) (hint := .unit) (keep := keepS 79 [1,5,39,40,54,55]) (p := pk22_p) rfl ?_
  erw [pk22 us ts (ub t) i a.1 a.2.1 a.2.2 b.1 b.2.1 b.2.2 c.1 c.2.1 c.2.2]
  unfold pk22_t
  obtain ⟨h1, h2, h3⟩ := inR_iff.1 hc
  simp only [Tree.holds, decide_eq_true_eq, Bool.and_eq_true, ub_length, List.length_append, be4_len, true_and]
  refine ⟨by omega, by omega, by omega, by omega, by omega, by omega, slotsS_len _ _, ?_⟩
  rw [ub_app, ub_app, ub_app, List.append_assoc, List.append_assoc, ← List.append_assoc (be4 c.1)]
  exact h
theorem pk_in1 {us ts : List T3} {i : Nat} {a b c : T3} {t : List UInt8} (ht : t.length ≤ 100000) (hc : inR b = true) (h : RPk us ts 1 i (nine a b c) (I64 2) (t ++ v12 b)) : RPk us ts 1 i (nine a b c) (I64 1) t := by
  refine runsR_seg kPk (n := 1000) (hint := .unit) (keep := keepS 79 [1,5,39,40,54,55]) (p := pk21_p) rfl ?_
  erw [pk21 us ts (ub t) i a.1 a.2.1 a.2.2 b.1 b.2.1 b.2.2 c.1 c.2.1 c.2.2]
  unfold pk21_t
  obtain ⟨h1, h2, h3⟩ := inR_iff.1 hc
  simp only [Tree.holds, decide_eq_true_eq, Bool.and_eq_true, ub_length, List.length_append, be4_len, true_and]
  refine ⟨by omega, by omega, by omega, by omega, by omega, by omega, slotsS_len _ _, ?_⟩
  rw [ub_app, ub_app, ub_app, List.append_assoc, List.append_assoc, ← List.append_assoc (be4 b.1)]
  exact h
theorem pk_in0 {us ts : List T3} {i : Nat} {a b c : T3} {t : List UInt8} (ht : t.length ≤ 100000) (hc : inR a = true) (h : RPk us ts 1 i (nine a b c) (I64 1) (t ++ v12 a)) : RPk us ts 1 i (nine a b c) (I64 0) t := by
  refine runsR_seg kPk (n := 1000) (hint := .unit) (keep := keepS 79 [1,5,39,40,54,55]) (p := pk20_p) rfl ?_
  erw [pk20 us ts (ub t) i a.1 a.2.1 a.2.2 b.1 b.2.1 b.2.2 c.1 c.2.1 c.2.2]
  unfold pk20_t
  obtain ⟨h1, h2, h3⟩ := inR_iff.1 hc
  simp only [Tree.holds, decide_eq_true_eq, Bool.and_eq_true, ub_length, List.length_append, be4_len, true_and]
  refine ⟨by omega, by omega, by omega, by omega, by omega, by omega, slotsS_len _ _, ?_⟩
  rw [ub_app, ub_app, ub_app, List.append_assoc, List.append_assoc, ← List.append_assoc (be4 a.1)]
  exact h
theorem tri_in {us ts : List T3} (hc : chk us ts = 0) {i : Nat} (hi : i < ts.length) : inR (nth3 us (nth3 ts (i : Int)).1) = true ∧ inR (nth3 us (nth3 ts (i : Int)).2.1) = true ∧ inR (nth3 us (nth3 ts (i : Int)).2.2) = true := by
  obtain ⟨⟨a1, a2⟩, ⟨b1, b2⟩, c1, c2⟩ := chk0_tri hc (i := (i : Int)) (by omega) (by omega)
  have hv := List.all_eq_true.1 (chk0 hc).2.2.1
  exact ⟨hv _ (nth3_mem a1 a2), hv _ (nth3_mem b1 b2), hv _ (nth3_mem c1 c2)⟩
theorem pk_tri {us ts : List T3} (hc : chk us ts = 0) {i : Nat} (hi : i < ts.length) (ht : ts.length ≤ 1365) {t : List UInt8} (hl : t.length ≤ 50000) (h : RPk us ts 0 (i + 1) (nine (nth3 us (nth3 ts (i : Int)).1) (nth3 us (nth3 ts (i : Int)).2.1) (nth3 us (nth3 ts (i : Int)).2.2)) (I64 3) (t ++ tri36 us (nth3 ts (i : Int)))) :
    RPk us ts 1 i (nine (nth3 us (nth3 ts (i : Int)).1) (nth3 us (nth3 ts (i : Int)).2.1) (nth3 us (nth3 ts (i : Int)).2.2)) (I64 0) t := by
  obtain ⟨x, y, z⟩ := tri_in hc hi
  refine pk_in0 (by omega) x (pk_in1 (by rw [List.length_append, v12_len]; omega) y (pk_in2 (by rw [List.length_append, List.length_append, v12_len, v12_len]; omega) z (pk_in3 (by omega) ?_)))
  simpa [tri36, List.append_assoc] using h
theorem pk_fin {us ts : List T3} (hc : chk us ts = 0) (ht : ts.length ≤ 1365) : (Tree.req (okU (ub (pre36 us ts ts.length))) (.req (decide (0 < (ub (pre36 us ts ts.length)).length)) (.req (decide (((ub (pre36 us ts ts.length)).length : Int) ≤ (9223372036854775807 : Int))) (.leaf (Stop.done (SV.tuple [SV.str (ofU (ub (pre36 us ts ts.length))), I64 0])))))).holds fun o => match o with
      | .done v' => v' = packS us ts
      | .at items' size slots' boxes' => slots'.length = size ∧ RunsR Tryd.prog (fnOf Tryd.prog 24) (packS us ts) items' slots' boxes' := by
  have l1 := pre36_len (us := us) ht ts.length
  have l2 : 4 ≤ (pre36 us ts ts.length).length := by rw [pre36, List.length_append, be4_len]; omega
  rw [okU_ub, ofU_ub, ub_length]
  refine ⟨rfl, decide_eq_true (by omega), decide_eq_true (by omega), ?_⟩
  show _ = packS us ts
  unfold packS packT
  rw [if_pos hc, if_neg (by omega), pre36_end]
theorem pk_loop (us ts : List T3) (hc : chk us ts = 0) (ht : ts.length ≤ 1365) : ∀ (n i : Nat), i + n = ts.length → (∀ a b c, RPk us ts 0 i (nine a b c) (I64 3) (pre36 us ts i)) ∧ RPk us ts 0 i .undef .undef (pre36 us ts i)
  | n, i, hi => by
    have l1 := pre36_len (us := us) ht i
    refine ⟨fun a b c => ?_, ?_⟩
    · refine runsR_seg kPk (n := 1000) (hint := .unit) (keep := keepS 79 [1,5,39,40,54,55]) (p := pk1b_p) rfl ?_
      erw [pk1b us ts (ub (pre36 us ts i)) i a.1 a.2.1 a.2.2 b.1 b.2.1 b.2.2 c.1 c.2.1 c.2.2]
      unfold pk1b_t
      match n, hi with
      | 0, hi =>
        have hi : i = ts.length := hi
        subst hi
        exact ⟨fun h => absurd (of_decide_eq_true h) (by omega), fun _ => pk_fin hc ht⟩
      | n + 1, hi =>
        have hl : i < ts.length := by omega
        refine ⟨fun _ => ⟨fun h => absurd h (by rw [noTri_f hc hl]; simp), fun _ => ⟨slotsS_len _ _, ?_⟩⟩, fun h => absurd (of_decide_eq_false h) (by omega)⟩
        exact pk_tri hc hl ht (by omega) (by rw [← pre36_step hl]; exact (pk_loop us ts hc ht n (i + 1) (by omega)).1 _ _ _)
    · refine runsR_seg kPk (n := 1000) (hint := .unit) (keep := keepS 79 [1,5,39,40,54,55]) (p := pk1_p) rfl ?_
      erw [pk1 us ts (ub (pre36 us ts i)) i]
      unfold pk1_t
      match n, hi with
      | 0, hi =>
        have hi : i = ts.length := hi
        subst hi
        exact ⟨fun h => absurd (of_decide_eq_true h) (by omega), fun _ => pk_fin hc ht⟩
      | n + 1, hi =>
        have hl : i < ts.length := by omega
        refine ⟨fun _ => ⟨fun h => absurd h (by rw [noTri_f hc hl]; simp), fun _ => ⟨slotsS_len _ _, ?_⟩⟩, fun h => absurd (of_decide_eq_false h) (by omega)⟩
        exact pk_tri hc hl ht (by omega) (by rw [← pre36_step hl]; exact (pk_loop us ts hc ht n (i + 1) (by omega)).1 _ _ _)
theorem s_pack (us ts : List T3) : SCall Tryd.prog 24 [.agg [.list v3 us, .list v3 ts]] (packS us ts) := by
  refine scallR_loops rfl rfl (by kernel_rfl) (runsR_seg kPk (n := 1000) (hint := .unit) (keep := keepS 79 [1,5,39,40,54,55]) (p := pk0_p) (boxes := []) rfl ?_)
  have e := pk0 us ts
  unfold startS codeS at e
  erw [e]
  unfold pk0_t
  refine ⟨fun h => ?_, fun h => ⟨fun h1 => ?_, fun h1 => ?_⟩⟩
  · have h : ¬ chk us ts = 0 := by simpa using h
    show _ = packS us ts
    unfold packS packT
    rw [if_neg h]
  · have h : chk us ts = 0 := by simpa using h
    have h1 := of_decide_eq_true h1
    show _ = packS us ts
    unfold packS packT
    rw [if_pos h, if_pos (by omega)]
  · have h : chk us ts = 0 := by simpa using h
    have h1 := of_decide_eq_false h1
    have ht : ts.length ≤ 1365 := by omega
    refine ⟨by simp; omega, decide_eq_true (by rw [ub_length, be4_len]; omega), slotsS_len _ _, ?_⟩
    have := (pk_loop us ts h ht ts.length 0 (by omega)).2
    rw [show pre36 us ts 0 = be4 (ts.length : Int) by simp [pre36, body36]] at this
    exact this
def fPack : Fact := factM 24 fun us ts => .leaf (packS us ts)
theorem o_pack : fPack.ok Tryd.prog := factM_ok s_pack

/-! ### The reference's Pack -/

theorem kPl : Known Tryd.prog (Env.of Tryd.prog (sumOf [fCheckR, fUint4 44, fCoord])) := hK (l := [fCheckR, fUint4 44, fCoord]) ⟨o_checkR, o_uintR4, o_coord, trivial⟩
abbrev RPl (us ts : List T3) (k : Nat) (i : Nat) (x y : SV) (t : List UInt8) : Prop := RunsR Tryd.prog (fnOf Tryd.prog 25) (packS us ts) (loopOf Tryd.prog 25 k) (slotsS 85 [(1, .ptr 0 0), (5, .str t), (7, I64 (i : Int)), (9, x), (10, y)]) [some (.cells [.list v3 us, .list v3 ts])]
theorem pl_in {us ts : List T3} {i : Nat} (hi : i ≤ 4096) {c : List T3} (hc : c.length = 3) (hr : ∀ v ∈ c, inR v = true) : ∀ (n k : Nat) (t : List UInt8), k + n = 3 → t.length ≤ 100000 + 12 * k → RPl us ts 0 (i + 1) (.list v3 c) (I64 3) (t ++ (c.drop k).flatMap v12) → RPl us ts 1 i (.list v3 c) (I64 (k : Int)) t
  | n, k, t, hk, ht, h => by
    refine runsR_seg kPl (n := 1000) (hint := .unit) (keep := keepS 85 [1,5,7,9,10]) (p := pl2_p) rfl ?_
    erw [pl2 us ts t i c (k : Int)]
    unfold pl2_t
    match n, hk with
    | 0, hk =>
      have hk : k = 3 := hk
      subst hk
      refine ⟨fun h => absurd (of_decide_eq_true h) (by omega), fun _ => ⟨slotsS_len _ _, ?_⟩⟩
      rw [wr1 (by omega)]
      rw [List.drop_eq_nil_of_le (by omega), List.flatMap_nil, List.append_nil] at h
      exact h
    | n + 1, hk =>
      have hl : k < c.length := by omega
      obtain ⟨h1, h2, h3⟩ := inR_iff.1 (hr _ (nth3_mem (l := c) (i := (k : Int)) (by omega) (by omega)))
      simp only [Tree.holds, decide_eq_true_eq, decide_eq_false_iff_not, Bool.and_eq_true, List.length_append, be4_len]
      refine ⟨fun _ => ⟨by omega, by omega, by omega, by omega, by first | omega | exact decide_eq_true (by omega) | rfl, by omega, by omega, by first | omega | exact decide_eq_true (by omega) | rfl, by omega, slotsS_len _ _, ?_⟩, fun h => absurd h (by omega)⟩
      rw [wr1 (by omega)]
      refine pl_in hi hc hr n (k + 1) (t ++ v12 (nth3 c (k : Int))) (by omega) (by rw [List.length_append, v12_len]; omega) ?_
      rw [drop3 hl, List.flatMap_cons, ← List.append_assoc] at h
      exact h
theorem pl_tri {us ts : List T3} (hc : chk us ts = 0) {i : Nat} (hi : i < ts.length) (ht : ts.length ≤ 1365) {t : List UInt8} (hl : t.length ≤ 50000) (h : ∀ c, RPl us ts 0 (i + 1) (.list v3 c) (I64 3) (t ++ tri36 us (nth3 ts (i : Int)))) :
    RPl us ts 1 i (.list v3 [nth3 us (nth3 ts (i : Int)).1, nth3 us (nth3 ts (i : Int)).2.1, nth3 us (nth3 ts (i : Int)).2.2]) (I64 ((0 : Nat) : Int)) t := by
  obtain ⟨x, y, z⟩ := tri_in hc hi
  refine pl_in (c := [nth3 us (nth3 ts (i : Int)).1, nth3 us (nth3 ts (i : Int)).2.1, nth3 us (nth3 ts (i : Int)).2.2]) (by omega) rfl (fun v hv => ?_) 3 0 t (by omega) (by omega) ?_
  · simp only [List.mem_cons, List.not_mem_nil, or_false] at hv
    rcases hv with rfl | rfl | rfl
    · exact x
    · exact y
    · exact z
  · have := h [nth3 us (nth3 ts (i : Int)).1, nth3 us (nth3 ts (i : Int)).2.1, nth3 us (nth3 ts (i : Int)).2.2]
    have e : List.flatMap v12 (List.drop 0 [nth3 us (nth3 ts (i : Int)).1, nth3 us (nth3 ts (i : Int)).2.1, nth3 us (nth3 ts (i : Int)).2.2]) = tri36 us (nth3 ts (i : Int)) := by simp [tri36, List.append_assoc]
    rw [e]
    exact this
theorem pl_loop (us ts : List T3) (hc : chk us ts = 0) (ht : ts.length ≤ 1365) : ∀ (n i : Nat), i + n = ts.length → (∀ c, RPl us ts 0 i (.list v3 c) (I64 3) (pre36 us ts i)) ∧ RPl us ts 0 i .undef .undef (pre36 us ts i)
  | n, i, hi => by
    have l1 := pre36_len (us := us) ht i
    have done : SV.tuple [SV.str (pre36 us ts ts.length), I64 0] = packS us ts := by
      unfold packS packT
      rw [if_pos hc, if_neg (by omega), pre36_end]
    refine ⟨fun c => ?_, ?_⟩
    · refine runsR_seg kPl (n := 1000) (hint := .unit) (keep := keepS 85 [1,5,7,9,10]) (p := pl1b_p) rfl ?_
      erw [pl1b us ts (pre36 us ts i) i c 3]
      unfold pl1b_t
      match n, hi with
      | 0, hi =>
        have hi : i = ts.length := hi
        subst hi
        exact ⟨fun h => absurd (of_decide_eq_true h) (by omega), fun _ => done⟩
      | n + 1, hi =>
        have hl : i < ts.length := by omega
        obtain ⟨q1, q2, q3⟩ := chk0_tri hc (i := (i : Int)) (by omega) (by omega)
        refine ⟨fun _ => ⟨by simp; omega, by simp; omega, by simp; omega, by simp; omega, slotsS_len _ _, ?_⟩, fun h => absurd (of_decide_eq_false h) (by omega)⟩
        exact pl_tri hc hl ht (by omega) (fun c => by rw [← pre36_step hl]; exact (pl_loop us ts hc ht n (i + 1) (by omega)).1 c)
    · refine runsR_seg kPl (n := 1000) (hint := .unit) (keep := keepS 85 [1,5,7,9,10]) (p := pl1_p) rfl ?_
      erw [pl1 us ts (pre36 us ts i) i]
      unfold pl1_t
      match n, hi with
      | 0, hi =>
        have hi : i = ts.length := hi
        subst hi
        exact ⟨fun h => absurd (of_decide_eq_true h) (by omega), fun _ => done⟩
      | n + 1, hi =>
        have hl : i < ts.length := by omega
        obtain ⟨q1, q2, q3⟩ := chk0_tri hc (i := (i : Int)) (by omega) (by omega)
        refine ⟨fun _ => ⟨by simp; omega, by simp; omega, by simp; omega, by simp; omega, slotsS_len _ _, ?_⟩, fun h => absurd (of_decide_eq_false h) (by omega)⟩
        exact pl_tri hc hl ht (by omega) (fun c => by rw [← pre36_step hl]; exact (pl_loop us ts hc ht n (i + 1) (by omega)).1 c)
theorem s_packR (us ts : List T3) : SCall Tryd.prog 25 [.agg [.list v3 us, .list v3 ts]] (packS us ts) := by
  refine scallR_loops rfl rfl (by kernel_rfl) (runsR_seg kPl (n := 1000) (hint := .unit) (keep := keepS 85 [1,5,7,9,10]) (p := pl0_p) (boxes := []) rfl ?_)
  have e := pl0 us ts
  unfold startS codeS at e
  erw [e]
  unfold pl0_t
  refine ⟨fun h => ?_, fun h => ⟨fun h1 => ?_, fun h1 => ?_⟩⟩
  · have h : ¬ chk us ts = 0 := by simpa using h
    show _ = packS us ts
    unfold packS packT
    rw [if_neg h]
  · have h : chk us ts = 0 := by simpa using h
    have h1 := of_decide_eq_true h1
    show _ = packS us ts
    unfold packS packT
    rw [if_pos h, if_pos (by omega)]
  · have h : chk us ts = 0 := by simpa using h
    have h1 := of_decide_eq_false h1
    have ht : ts.length ≤ 1365 := by omega
    refine ⟨by simp; omega, slotsS_len _ _, ?_⟩
    have := (pl_loop us ts h ht ts.length 0 (by omega)).2
    rw [show pre36 us ts 0 = be4 (ts.length : Int) by simp [pre36, body36]] at this
    exact this
def fPackR : Fact := factM 25 fun us ts => .leaf (packS us ts)
theorem o_packR : fPackR.ok Tryd.prog := factM_ok s_packR
end Go.Proofs.YtlhkgeoahblffaaDoor
set_option linter.unusedSimpArgs false
set_option linter.unusedVariables false
set_option maxRecDepth 100000
namespace Go.Proofs.YtlhkgeoahblffaaDoor
open Go.Sx

/-! ### What it computes -/

/-- A vertex of the bytes, by its place in them. -/
def vt (s : List UInt8) (a : Nat) : T3 := (sg (tk s a), sg (tk s (a + 4)), sg (tk s (a + 8)))
def vsU (s : List UInt8) : Nat → Nat → List T3
  | _, 0 => []
  | a, m + 1 => vt s a :: vsU s (a + 12) m
theorem vsU_len (s : List UInt8) : ∀ m a : Nat, (vsU s a m).length = m
  | 0, _ => rfl
  | m + 1, a => by rw [vsU, List.length_cons, vsU_len s m]
theorem vsU_snoc (s : List UInt8) : ∀ m a : Nat, vsU s a (m + 1) = vsU s a m ++ [vt s (a + 12 * m)]
  | 0, a => by simp [vsU]
  | m + 1, a => by
    rw [vsU, vsU_snoc s m (a + 12)]
    conv => rhs; rw [vsU]
    rw [List.cons_append, show a + 12 + 12 * m = a + 12 * (m + 1) by omega]
def nU (s : List UInt8) : Nat := (tk s 0).toNat
/-- The vertices, the triangles and the error. -/
def unp (s : List UInt8) : List T3 × List T3 × Int :=
  if (s.length : Int) < 4 then ([], [], 6) else if tk s 0 > 1365 then ([], [], 2) else if (s.length : Int) < 4 + 36 * tk s 0 then ([], [], 6) else if (s.length : Int) > 4 + 36 * tk s 0 then ([], [], 5)
  else if (vsU s 4 (3 * nU s)).all inR = true then (vsU s 4 (3 * nU s), tsOf 0 (nU s), 0) else ([], [], 8)
def unpS (r : List T3 × List T3 × Int) : SV := .tuple [.agg [.list v3 r.1, .list v3 r.2.1], I64 r.2.2]
/-- From the vertex of number i on. -/
def fromV (s : List UInt8) (i m : Nat) : List T3 × List T3 × Int := if (vsU s (4 + 12 * i) m).all inR = true then (vsU s 4 (i + m), tsOf 0 ((i + m) / 3), 0) else ([], [], 8)
theorem fromV_step {s : List UInt8} {i m : Nat} : fromV s i (m + 1) = if inR (vt s (4 + 12 * i)) = true then fromV s (i + 1) m else ([], [], 8) := by
  unfold fromV
  rw [vsU, List.all_cons, show 4 + 12 * i + 12 = 4 + 12 * (i + 1) by omega, show i + (m + 1) = i + 1 + m by omega]
  cases inR (vt s (4 + 12 * i)) <;> rfl
theorem fromV_end {s : List UInt8} {i : Nat} : fromV s i 0 = (vsU s 4 i, tsOf 0 (i / 3), 0) := rfl

theorem kU : Known Tryd.prog (Env.of Tryd.prog (sumOf [fTakeU 46, fTakeIx])) := hK (l := [fTakeU 46, fTakeIx]) ⟨o_takeU, o_takeIx, trivial⟩
theorem kUR : Known Tryd.prog (Env.of Tryd.prog (sumOf [fTakeU 48, fAt])) := hK (l := [fTakeU 48, fAt]) ⟨o_takeUR, o_at, trivial⟩

theorem vt_in {s : List UInt8} {a : Nat} : inR (vt s a) = true ↔ (-65536 ≤ sg (tk s a) ∧ sg (tk s a) ≤ 65536) ∧ (-65536 ≤ sg (tk s (a + 4)) ∧ sg (tk s (a + 4)) ≤ 65536) ∧ -65536 ≤ sg (tk s (a + 8)) ∧ sg (tk s (a + 8)) ≤ 65536 := inR_iff
theorem vt_out {s : List UInt8} {a : Nat} (h : ¬ ((-65536 ≤ sg (tk s a) ∧ sg (tk s a) ≤ 65536) ∧ (-65536 ≤ sg (tk s (a + 4)) ∧ sg (tk s (a + 4)) ≤ 65536) ∧ -65536 ≤ sg (tk s (a + 8)) ∧ sg (tk s (a + 8)) ≤ 65536)) : ¬ inR (vt s a) = true := fun hc => h (vt_in.1 hc)
theorem takeR_ok {s : List UInt8} {a : Nat} (h : a + 4 ≤ s.length) (hs : s.length ≤ 100000) {x : Int} (hx : x = a) : (takeR s x 4 && decide (x + 4 ≤ (s.length : Int))) = true := by
  subst hx
  unfold takeR
  simp; omega

/-! ### The program's -/

abbrev bxU (us ts : List T3) : List (Option Box) := [some (.cells [.nilS, .nilS]), some (.cells [.row 2, .row 3]), some (.rows v3 us), some (.rows v3 ts)]
theorem tsOf_third {i : Nat} (h : i % 3 = 2) (hi : i ≤ 5000) : tsOf 0 (i / 3) ++ [(IntKind.i64.wrap ((i : Int) - 2), IntKind.i64.wrap ((i : Int) - 1), (i : Int))] = tsOf 0 ((i + 1) / 3) := by
  have e : (i + 1) / 3 = i / 3 + 1 := by omega
  rw [e, tsOf_snoc, tri_id (by omega), i64s (by omega) (by omega), i64s (by omega) (by omega)]
  have e1 : ((0 + 3 * (i / 3) : Nat) : Int) = (i : Int) - 2 := by omega
  have e2 : ((0 + 3 * (i / 3) + 1 : Nat) : Int) = (i : Int) - 1 := by omega
  have e3 : ((0 + 3 * (i / 3) + 2 : Nat) : Int) = (i : Int) := by omega
  rw [e1, e2, e3]
theorem up_loop (s : List UInt8) (hs : s.length ≤ 100000) : ∀ (m i : Nat), 4 + 12 * (i + m) = s.length → i + m ≤ 4200 → RunsR Tryd.prog (fnOf Tryd.prog 26) (unpS (fromV s i m)) (loopOf Tryd.prog 26 0)
    (slotsS 99 [(0, .str s), (2, .ptr 0 0), (5, I64 ((4 + 12 * i : Nat) : Int)), (7, .ptr 1 0), (45, I64 ((i + m : Nat) : Int)), (46, I64 (i : Int))]) (bxU (vsU s 4 i) (tsOf 0 (i / 3)))
  | m, i, hi, hb => by
    refine runsR_seg kU (n := 1000) (hint := v3) (keep := keepS 99 [0,2,5,7,45,46]) (p := up1_p) rfl ?_
    erw [up1 s (vsU s 4 i) (tsOf 0 (i / 3)) ((4 + 12 * i : Nat) : Int) ((i + m : Nat) : Int) (i : Int)]
    unfold up1_t
    match m, hi, hb with
    | 0, hi, hb =>
      refine ⟨fun h => absurd (of_decide_eq_true h) (by omega), fun _ => ?_⟩
      rw [fromV_end]; rfl
    | m + 1, hi, hb =>
      have n0 : (((4 + 12 * i : Nat) : Int)).toNat = 4 + 12 * i := by omega
      have n1 : (((4 + 12 * i : Nat) : Int) + 4).toNat = 4 + 12 * i + 4 := by omega
      have n2 : (((4 + 12 * i : Nat) : Int) + 4 + 4).toNat = 4 + 12 * i + 8 := by omega
      have e3 : ((4 + 12 * i : Nat) : Int) + 4 + 4 + 4 = ((4 + 12 * (i + 1) : Nat) : Int) := by omega
      rw [n0, n1, n2, e3, fromV_step, wr1 (by omega)]
      have bad := fun h => show unpS ([], [], 8) = unpS (if inR (vt s (4 + 12 * i)) = true then fromV s (i + 1) m else ([], [], 8)) by rw [if_neg (vt_out h)]
      have l1 := vsU_len s i 4
      have l2 := tsOf_len 0 (i / 3)
      refine ⟨fun _ => ⟨rfl, takeR_ok (a := 4 + 12 * i) (by omega) hs rfl, fun h => ?_, fun h1 => ⟨fun h => ?_, fun h2 => ?_⟩⟩, fun h => absurd (of_decide_eq_false h) (by omega)⟩
      · have h := of_decide_eq_true h
        exact bad (by omega)
      · have h := of_decide_eq_true h
        exact bad (by omega)
      refine ⟨rfl, takeR_ok (a := 4 + 12 * i + 4) (by omega) hs (by omega), fun h => ?_, fun h3 => ⟨fun h => ?_, fun h4 => ?_⟩⟩
      · have h := of_decide_eq_true h
        exact bad (by omega)
      · have h := of_decide_eq_true h
        exact bad (by omega)
      refine ⟨rfl, takeR_ok (a := 4 + 12 * i + 8) (by omega) hs (by omega), fun h => ?_, fun h5 => ⟨fun h => ?_, fun h6 => ?_⟩⟩
      · have h := of_decide_eq_true h
        exact bad (by omega)
      · have h := of_decide_eq_true h
        exact bad (by omega)
      have h1 := of_decide_eq_false h1; have h2 := of_decide_eq_false h2; have h3 := of_decide_eq_false h3; have h4 := of_decide_eq_false h4; have h5 := of_decide_eq_false h5; have h6 := of_decide_eq_false h6
      have hin : inR (vt s (4 + 12 * i)) = true := vt_in.2 (by omega)
      have ev : vsU s 4 i ++ [(sg (tk s (4 + 12 * i)), sg (tk s (4 + 12 * i + 4)), sg (tk s (4 + 12 * i + 8)))] = vsU s 4 (i + 1) := (vsU_snoc s i 4).symm
      have IH := up_loop s hs m (i + 1) (by omega) (by omega)
      rw [show i + 1 + m = i + (m + 1) by omega] at IH
      refine ⟨decide_eq_true (by rw [l1]; simp; omega), rfl, fun h => ?_, fun h => ?_⟩
      · have h : (i : Int).tmod 3 = 2 := beq_iff_eq.1 h
        rw [Int.tmod_eq_emod_of_nonneg (by omega)] at h
        refine ⟨decide_eq_true (by rw [l2]; simp; omega), slotsS_len _ _, ?_⟩
        rw [if_pos hin]
        have e4 := tsOf_third (i := i) (by omega) (by omega)
        rw [← ev, ← e4] at IH
        exact IH
      · have h : ¬ (i : Int).tmod 3 = 2 := beq_eq_false_iff_ne.1 h
        rw [Int.tmod_eq_emod_of_nonneg (by omega)] at h
        refine ⟨slotsS_len _ _, ?_⟩
        rw [if_pos hin]
        rw [← ev, show (i + 1) / 3 = i / 3 by omega] at IH
        exact IH

theorem unp_data (r : List T3 × List T3 × Int) : (unpS r).data = true := rfl
theorem s_unpack (s : List UInt8) (hs : s.length ≤ 100000) : SCall Tryd.prog 26 [.str s] (unpS (unp s)) := by
  refine scallR_loops rfl rfl (by kernel_rfl) (runsR_seg kU (n := 1000) (hint := v3) (keep := keepS 99 [0,2,5,7,45,46]) (p := up0_p) (boxes := []) rfl ?_)
  have e := up0 s
  unfold startS codeS at e
  erw [e]
  unfold up0_t
  have hr := tk_range s 0
  refine ⟨by unfold takeR; simp; omega, fun h => ?_, fun h => ⟨fun h1 => ?_, fun h1 => ?_⟩⟩
  · have h := of_decide_eq_true h
    show _ = unpS (unp s)
    unfold unp
    rw [if_pos (by omega)]; rfl
  · have h := of_decide_eq_false h
    have h1 := of_decide_eq_true h1
    show _ = unpS (unp s)
    unfold unp
    rw [if_neg (by omega), if_pos h1]; rfl
  · have h := of_decide_eq_false h
    have h1 := of_decide_eq_false h1
    rw [i64s (x := (s.length : Int) - 4) (by omega) (by omega), i64s (x := 36 * tk s 0) (by omega) (by omega), i64s (x := 3 * tk s 0) (by omega) (by omega)]
    refine ⟨fun h2 => ?_, fun h2 => ⟨fun h3 => ?_, fun h3 => ⟨slotsS_len _ _, ?_⟩⟩⟩
    · have h2 := of_decide_eq_true h2
      show _ = unpS (unp s)
      unfold unp
      rw [if_neg (by omega), if_neg h1, if_pos (by omega)]; rfl
    · have h2 := of_decide_eq_false h2
      have h3 := of_decide_eq_true h3
      show _ = unpS (unp s)
      unfold unp
      rw [if_neg (by omega), if_neg h1, if_neg (by omega), if_pos (by omega)]; rfl
    · have h2 := of_decide_eq_false h2
      have h3 := of_decide_eq_false h3
      have hn : ((nU s : Nat) : Int) = tk s 0 := by unfold nU; omega
      have eu : unp s = fromV s 0 (3 * nU s) := by
        unfold unp
        rw [if_neg (by omega), if_neg h1, if_neg (by omega), if_neg (by omega)]
        unfold fromV
        rw [show (0 + 3 * nU s) / 3 = nU s by omega, show 0 + 3 * nU s = 3 * nU s by omega]
      rw [eu]
      have main := up_loop s hs (3 * nU s) 0 (by omega) (by omega)
      have e3 : ((0 + 3 * nU s : Nat) : Int) = 3 * tk s 0 := by omega
      rw [e3] at main
      refine runsR_weak true [] (slots' := slotsS 99 [(0, .str s), (2, .ptr 0 0), (5, I64 4), (7, .ptr 1 0), (45, I64 (3 * tk s 0)), (46, I64 0)]) (boxes' := [some (.cells [.nilS, .nilS]), some (.cells [.row 2, .nilS]), some (.rows v3 [])])
        (slotsS_wk ⟨rfl, .same _, rfl, .same _, rfl, .same _, rfl, .same _, rfl, .same _, rfl, .same _, trivial⟩) ⟨List.not_mem_nil, .same _, List.not_mem_nil, .cells ⟨.nil rfl, .same _, trivial⟩, trivial⟩ ?_
      refine runsR_weak true [] (slots' := slotsS 99 [(0, .str s), (2, .ptr 0 0), (5, I64 4), (7, .ptr 1 0), (45, I64 (3 * tk s 0)), (46, I64 0)]) (boxes' := bxU [] [])
        (slotsS_wk ⟨rfl, .same _, rfl, .same _, rfl, .same _, rfl, .same _, rfl, .same _, rfl, .same _, trivial⟩) ⟨List.not_mem_nil, .same _, List.not_mem_nil, .cells ⟨.same _, .nil rfl, trivial⟩, List.not_mem_nil, .same _, trivial⟩ ?_
      exact main

/-! ### The reference's -/

theorem ur2_loop (s : List UInt8) (us : List T3) (j : Int) (N : Nat) (hN : N ≤ 2000) : ∀ (m i : Nat), i + m = N → RunsR Tryd.prog (fnOf Tryd.prog 27) (unpS (us, tsOf 0 N, 0)) (loopOf Tryd.prog 27 1)
    (slotsS 112 [(0, .str s), (2, .ptr 0 0), (4, I64 (N : Int)), (7, .ptr 1 0), (8, I64 j), (15, I64 (i : Int))]) (bxU us (tsOf 0 i))
  | m, i, hi => by
    refine runsR_seg kUR (n := 1000) (hint := v3) (keep := keepS 112 [0,2,4,7,8,15]) (p := ur2_p) rfl ?_
    erw [ur2 s us (tsOf 0 i) (N : Int) j (i : Int)]
    unfold ur2_t
    match m, hi with
    | 0, hi =>
      have hi : i = N := hi
      subst hi
      exact ⟨fun h => absurd (of_decide_eq_true h) (by omega), fun _ => rfl⟩
    | m + 1, hi =>
      have l2 := tsOf_len 0 i
      refine ⟨fun _ => ⟨decide_eq_true (by rw [l2]; simp; omega), slotsS_len _ _, ?_⟩, fun h => absurd (of_decide_eq_false h) (by omega)⟩
      have e : tsOf 0 i ++ [(IntKind.i64.wrap (3 * (i : Int)), IntKind.i64.wrap (IntKind.i64.wrap (3 * (i : Int)) + 1), IntKind.i64.wrap (IntKind.i64.wrap (3 * (i : Int)) + 2))] = tsOf 0 (i + 1) := by
        rw [tsOf_snoc, tri_id (by omega), i64s (x := 3 * (i : Int)) (by omega) (by omega), i64s (by omega) (by omega), i64s (by omega) (by omega)]
        have e1 : ((0 + 3 * i : Nat) : Int) = 3 * (i : Int) := by omega
        have e2 : ((0 + 3 * i + 1 : Nat) : Int) = 3 * (i : Int) + 1 := by omega
        have e3 : ((0 + 3 * i + 2 : Nat) : Int) = 3 * (i : Int) + 2 := by omega
        rw [e1, e2, e3]
      have IH := ur2_loop s us j N hN m (i + 1) (by omega)
      rw [← e] at IH
      rw [wr1 (by omega)]
      exact IH
theorem ur1_loop (s : List UInt8) (hs : s.length ≤ 100000) (N : Nat) (hN : N ≤ 1365) (hl : 4 + 36 * N = s.length) : ∀ (m i : Nat), i + m = 3 * N → RunsR Tryd.prog (fnOf Tryd.prog 27) (unpS (fromV s i m)) (loopOf Tryd.prog 27 0)
    (slotsS 112 [(0, .str s), (2, .ptr 0 0), (4, I64 (N : Int)), (7, .ptr 1 0), (8, I64 (i : Int)), (15, .undef)]) (bxU (vsU s 4 i) [])
  | m, i, hi => by
    refine runsR_seg kUR (n := 1000) (hint := v3) (keep := keepS 112 [0,2,4,7,8,15]) (p := ur1_p) rfl ?_
    erw [ur1 s (vsU s 4 i) [] (N : Int) (i : Int)]
    unfold ur1_t
    rw [i64s (x := 3 * (N : Int)) (by omega) (by omega)]
    match m, hi with
    | 0, hi =>
      have hi : i = 3 * N := hi
      refine ⟨fun h => absurd (of_decide_eq_true h) (by omega), fun _ => ⟨slotsS_len _ _, ?_⟩⟩
      rw [fromV_end, show i / 3 = N by omega]
      exact ur2_loop s _ _ N (by omega) N 0 (by omega)
    | m + 1, hi =>
      have w0 : IntKind.i64.wrap (12 * (i : Int)) = 12 * (i : Int) := i64s (by omega) (by omega)
      have w1 : IntKind.i64.wrap (4 + 12 * (i : Int)) = 4 + 12 * (i : Int) := i64s (by omega) (by omega)
      have w2 : IntKind.i64.wrap (8 + 12 * (i : Int)) = 8 + 12 * (i : Int) := i64s (by omega) (by omega)
      have w3 : IntKind.i64.wrap (12 + 12 * (i : Int)) = 12 + 12 * (i : Int) := i64s (by omega) (by omega)
      have n0 : (4 + 12 * (i : Int)).toNat = 4 + 12 * i := by omega
      have n1 : (8 + 12 * (i : Int)).toNat = 4 + 12 * i + 4 := by omega
      have n2 : (12 + 12 * (i : Int)).toNat = 4 + 12 * i + 8 := by omega
      rw [w0, w1, w2, w3, n0, n1, n2, fromV_step, wr1 (by omega)]
      have bad := fun h => show unpS ([], [], 8) = unpS (if inR (vt s (4 + 12 * i)) = true then fromV s (i + 1) m else ([], [], 8)) by rw [if_neg (vt_out h)]
      have l1 := vsU_len s i 4
      have rg : ∀ x : Int, (!(decide (-65536 ≤ x) && decide (x ≤ 65536))) = true → ¬ (-65536 ≤ x ∧ x ≤ 65536) := fun x h hc => by simp at h; omega
      have rg' : ∀ x : Int, (!(decide (-65536 ≤ x) && decide (x ≤ 65536))) = false → -65536 ≤ x ∧ x ≤ 65536 := fun x h => by simpa using h
      refine ⟨fun _ => ⟨by simp; omega, by simp; omega, by simp; omega, fun h => bad (fun hc => rg _ h hc.1), fun h1 => ⟨fun h => bad (fun hc => rg _ h hc.2.1), fun h2 => ⟨fun h => bad (fun hc => rg _ h hc.2.2), fun h3 => ⟨decide_eq_true (by rw [l1]; simp; omega), slotsS_len _ _, ?_⟩⟩⟩⟩, fun h => absurd (of_decide_eq_false h) (by omega)⟩
      have hin : inR (vt s (4 + 12 * i)) = true := vt_in.2 ⟨rg' _ h1, rg' _ h2, rg' _ h3⟩
      have ev : vsU s 4 i ++ [(sg (tk s (4 + 12 * i)), sg (tk s (4 + 12 * i + 4)), sg (tk s (4 + 12 * i + 8)))] = vsU s 4 (i + 1) := (vsU_snoc s i 4).symm
      rw [if_pos hin]
      have IH := ur1_loop s hs N hN hl m (i + 1) (by omega)
      rw [← ev] at IH
      exact IH
theorem s_unpackR (s : List UInt8) (hs : s.length ≤ 100000) : SCall Tryd.prog 27 [.str s] (unpS (unp s)) := by
  refine scallR_loops rfl rfl (by kernel_rfl) (runsR_seg kUR (n := 1000) (hint := v3) (keep := keepS 112 [0,2,4,7,8,15]) (p := ur0_p) (boxes := []) rfl ?_)
  have e := ur0 s
  unfold startS codeS at e
  erw [e]
  unfold ur0_t
  have hr := tk_range s 0
  refine ⟨by unfold takeR; simp; omega, fun h => ?_, fun h => ⟨fun h1 => ?_, fun h1 => ?_⟩⟩
  · have h := of_decide_eq_true h
    show _ = unpS (unp s)
    unfold unp
    rw [if_pos (by omega)]; rfl
  · have h := of_decide_eq_false h
    have h1 := of_decide_eq_true h1
    show _ = unpS (unp s)
    unfold unp
    rw [if_neg (by omega), if_pos h1]; rfl
  · have h := of_decide_eq_false h
    have h1 := of_decide_eq_false h1
    rw [i64s (x := 36 * tk s 0) (by omega) (by omega), i64s (x := 4 + 36 * tk s 0) (by omega) (by omega)]
    refine ⟨fun h2 => ?_, fun h2 => ⟨fun h3 => ?_, fun h3 => ⟨slotsS_len _ _, ?_⟩⟩⟩
    · have h2 := of_decide_eq_true h2
      show _ = unpS (unp s)
      unfold unp
      rw [if_neg (by omega), if_neg h1, if_pos (by omega)]; rfl
    · have h2 := of_decide_eq_false h2
      have h3 := of_decide_eq_true h3
      show _ = unpS (unp s)
      unfold unp
      rw [if_neg (by omega), if_neg h1, if_neg (by omega), if_pos (by omega)]; rfl
    · have h2 := of_decide_eq_false h2
      have h3 := of_decide_eq_false h3
      have hn : ((nU s : Nat) : Int) = tk s 0 := by unfold nU; omega
      have eu : unp s = fromV s 0 (3 * nU s) := by
        unfold unp
        rw [if_neg (by omega), if_neg h1, if_neg (by omega), if_neg (by omega)]
        unfold fromV
        rw [show (0 + 3 * nU s) / 3 = nU s by omega, show 0 + 3 * nU s = 3 * nU s by omega]
      rw [eu]
      have main := ur1_loop s hs (nU s) (by omega) (by omega) (3 * nU s) 0 (by omega)
      rw [hn] at main
      refine runsR_weak true [] (slots' := slotsS 112 [(0, .str s), (2, .ptr 0 0), (4, I64 (tk s 0)), (7, .ptr 1 0), (8, I64 0), (15, .undef)]) (boxes' := [some (.cells [.nilS, .nilS]), some (.cells [.row 2, .nilS]), some (.rows v3 [])])
        (slotsS_wk ⟨rfl, .same _, rfl, .same _, rfl, .same _, rfl, .same _, rfl, .same _, rfl, .same _, trivial⟩) ⟨List.not_mem_nil, .same _, List.not_mem_nil, .cells ⟨.nil rfl, .same _, trivial⟩, trivial⟩ ?_
      refine runsR_weak true [] (slots' := slotsS 112 [(0, .str s), (2, .ptr 0 0), (4, I64 (tk s 0)), (7, .ptr 1 0), (8, I64 0), (15, .undef)]) (boxes' := bxU [] [])
        (slotsS_wk ⟨rfl, .same _, rfl, .same _, rfl, .same _, rfl, .same _, rfl, .same _, rfl, .same _, trivial⟩) ⟨List.not_mem_nil, .same _, List.not_mem_nil, .cells ⟨.same _, .nil rfl, trivial⟩, List.not_mem_nil, .same _, trivial⟩ ?_
      exact main

def fUnpack (f : FuncId) : Fact := ⟨f, fun args => match args with
  | [.str s] => some (.req (decide ((s.length : Int) ≤ 100000)) (.leaf (.tuple [.agg [.list v3 (unp s).1, .list v3 (unp s).2.1], I64 (unp s).2.2])))
  | _ => none⟩
theorem o_unpack : (fUnpack 26).ok Tryd.prog := fun args t ht => by
  simp only [fUnpack] at ht
  split at ht
  · injection ht with ht; subst ht
    intro h
    exact s_unpack _ (by have := of_decide_eq_true h; omega)
  · cases ht
theorem o_unpackR : (fUnpack 27).ok Tryd.prog := fun args t ht => by
  simp only [fUnpack] at ht
  split at ht
  · injection ht with ht; subst ht
    intro h
    exact s_unpackR _ (by have := of_decide_eq_true h; omega)
  · cases ht
end Go.Proofs.YtlhkgeoahblffaaDoor
set_option linter.unusedSimpArgs false
set_option linter.unusedVariables false
set_option maxRecDepth 1000000
namespace Go.Proofs.YtlhkgeoahblffaaDoor
open Go.Sx

/-! ### Four bytes, there and back -/

theorem ofNat_toNat {k : Int} (h0 : 0 ≤ k) (h : k < 256) : ((UInt8.ofNat k.toNat).toNat : Int) = k := by
  rw [UInt8.toNat_ofNat']; omega
theorem getD_app (p q : List UInt8) (j : Nat) : (p ++ q).getD (p.length + j) 0 = q.getD j 0 := by
  rw [List.getD_eq_getElem?_getD, List.getElem?_append_right (by omega), List.getD_eq_getElem?_getD]; congr 2; omega
theorem getD_app_left {p : List UInt8} (q : List UInt8) {j : Nat} (h : j < p.length) : (p ++ q).getD j 0 = p.getD j 0 := by
  rw [List.getD_eq_getElem?_getD, List.getElem?_append_left h, List.getD_eq_getElem?_getD]
theorem tk_app (p q : List UInt8) (j : Nat) : tk (p ++ q) (p.length + j) = tk q j := by
  rw [tk_eq, tk_eq, getD_app, Nat.add_assoc, getD_app, Nat.add_assoc, getD_app, Nat.add_assoc, getD_app]
theorem tk_left {p : List UInt8} (q : List UInt8) {j : Nat} (h : j + 4 ≤ p.length) : tk (p ++ q) j = tk p j := by
  rw [tk_eq, tk_eq, getD_app_left q (by omega), getD_app_left q (by omega), getD_app_left q (by omega), getD_app_left q (by omega)]
theorem tk_be4 (n : Int) : tk (be4 n) 0 = n % 4294967296 := by
  have e : tk (be4 n) 0 = numB (UInt8.ofNat (n / 16777216 % 256).toNat) (UInt8.ofNat (n / 65536 % 256).toNat) (UInt8.ofNat (n / 256 % 256).toNat) (UInt8.ofNat (n % 256).toNat) := rfl
  rw [e]
  unfold numB
  rw [ofNat_toNat (by omega) (by omega), ofNat_toNat (by omega) (by omega), ofNat_toNat (by omega) (by omega), ofNat_toNat (by omega) (by omega)]
  omega
theorem sg_be4 {n : Int} (h0 : -2147483648 ≤ n) (h1 : n < 2147483648) : sg (n % 4294967296) = n := by unfold sg; split <;> omega
theorem sg_range {x : Int} (h0 : 0 ≤ x) (h1 : x < 4294967296) : -2147483648 ≤ sg x ∧ sg x < 2147483648 ∧ sg x % 4294967296 = x := by unfold sg; split <;> omega
theorem toNat_inj8 {a b : UInt8} (h : (a.toNat : Int) = b.toNat) : a = b := UInt8.toNat_inj.1 (by omega)
theorem be4_num (a b c d : UInt8) {n : Int} (hn : n % 4294967296 = numB a b c d) : be4 n = [a, b, c, d] := by
  have pa := u8_lt a; have pb := u8_lt b; have pc := u8_lt c; have pd := u8_lt d
  unfold numB at hn
  unfold be4
  have e1 : UInt8.ofNat (n / 16777216 % 256).toNat = a := toNat_inj8 (by rw [ofNat_toNat (by omega) (by omega)]; omega)
  have e2 : UInt8.ofNat (n / 65536 % 256).toNat = b := toNat_inj8 (by rw [ofNat_toNat (by omega) (by omega)]; omega)
  have e3 : UInt8.ofNat (n / 256 % 256).toNat = c := toNat_inj8 (by rw [ofNat_toNat (by omega) (by omega)]; omega)
  have e4 : UInt8.ofNat (n % 256).toNat = d := toNat_inj8 (by rw [ofNat_toNat (by omega) (by omega)]; omega)
  rw [e1, e2, e3, e4]
theorem four {s : List UInt8} {a : Nat} (h : a + 4 ≤ s.length) : (s.drop a).take 4 = [s.getD a 0, s.getD (a + 1) 0, s.getD (a + 2) 0, s.getD (a + 3) 0] := by
  have d : ∀ i, i < s.length → s.drop i = s.getD i 0 :: s.drop (i + 1) := fun i hi => by
    rw [List.drop_eq_getElem_cons hi, List.getD_eq_getElem?_getD, List.getElem?_eq_getElem hi]; rfl
  rw [d a (by omega), d (a + 1) (by omega), d (a + 1 + 1) (by omega), d (a + 1 + 1 + 1) (by omega)]
  rfl
theorem be4_tk {s : List UInt8} {a : Nat} (h : a + 4 ≤ s.length) : be4 (tk s a) = (s.drop a).take 4 := by
  rw [four h]
  have := tk_range s a
  exact be4_num _ _ _ _ (by rw [← tk_eq]; omega)
theorem be4_sg {s : List UInt8} {a : Nat} (h : a + 4 ≤ s.length) : be4 (sg (tk s a)) = (s.drop a).take 4 := by
  rw [four h]
  have hr := tk_range s a
  exact be4_num _ _ _ _ (by rw [← tk_eq]; exact (sg_range hr.1 hr.2).2.2)

/-! ### Pack, then Unpack -/

theorem vt_v12 {v : T3} (hv : inR v = true) (p q : List UInt8) : vt (p ++ (v12 v ++ q)) p.length = v := by
  obtain ⟨x, y, z⟩ := v
  obtain ⟨⟨h1, h2⟩, ⟨h3, h4⟩, h5, h6⟩ := inR_iff.1 hv
  dsimp only at h1 h2 h3 h4 h5 h6
  have e0 : tk (p ++ (v12 (x, y, z) ++ q)) p.length = x % 4294967296 := by
    have := tk_app p (v12 (x, y, z) ++ q) 0
    rw [Nat.add_zero] at this
    rw [this, tk_left q (by rw [v12_len]; omega)]
    unfold v12
    rw [List.append_assoc, tk_left _ (by rw [be4_len]; omega), tk_be4]
  have e1 : tk (p ++ (v12 (x, y, z) ++ q)) (p.length + 4) = y % 4294967296 := by
    rw [tk_app p (v12 (x, y, z) ++ q) 4, tk_left q (by rw [v12_len]; omega)]
    unfold v12
    have := tk_app (be4 x) (be4 y ++ be4 z) 0
    rw [be4_len] at this
    rw [List.append_assoc]
    refine this.trans ?_
    rw [tk_left _ (by rw [be4_len]; omega), tk_be4]
  have e2 : tk (p ++ (v12 (x, y, z) ++ q)) (p.length + 8) = z % 4294967296 := by
    rw [tk_app p (v12 (x, y, z) ++ q) 8, tk_left q (by rw [v12_len]; omega)]
    unfold v12
    have := tk_app (be4 x ++ be4 y) (be4 z) 0
    rw [List.length_append, be4_len, be4_len] at this
    refine this.trans ?_
    rw [tk_be4]
  unfold vt
  rw [e0, e1, e2, sg_be4 (by omega) (by omega), sg_be4 (by omega) (by omega), sg_be4 (by omega) (by omega)]
theorem vsU_flat : ∀ (vs : List T3) (p q : List UInt8), vs.all inR = true → vsU (p ++ (vs.flatMap v12 ++ q)) p.length vs.length = vs
  | [], _, _, _ => rfl
  | v :: vs, p, q, h => by
    rw [List.all_cons, Bool.and_eq_true] at h
    rw [List.flatMap_cons, List.length_cons, vsU, List.append_assoc, vt_v12 h.1]
    have := vsU_flat vs (p ++ v12 v) q h.2
    rw [List.length_append, v12_len, List.append_assoc] at this
    rw [this]
theorem body36_flat (us : List T3) : ∀ l : List T3, body36 us l = (vsOf us l).flatMap v12
  | [] => rfl
  | t :: l => by rw [body36, vsOf, List.flatMap_append, body36_flat us l]; simp [tri36, vs3]
theorem unp_pack {us ts : List T3} (hc : chk us ts = 0) (ht : ts.length ≤ 1365) : unp (packL us ts) = (vsOf us ts, tsOf 0 ts.length, 0) := by
  have hl : (packL us ts).length = 4 + 36 * ts.length := by rw [packL, List.length_append, be4_len, body36_len]
  have hcan := vsOf_canon us (chk0 hc).2.2.1 ts hc
  have e0 : tk (packL us ts) 0 = (ts.length : Int) := by
    unfold packL
    rw [tk_left _ (by rw [be4_len]; omega), tk_be4]; omega
  have en : nU (packL us ts) = ts.length := by unfold nU; rw [e0]; omega
  have ev : vsU (packL us ts) 4 (3 * ts.length) = vsOf us ts := by
    have := vsU_flat (vsOf us ts) (be4 (ts.length : Int)) [] hcan.1
    rw [vsOf_len, be4_len, List.append_nil, ← body36_flat] at this
    exact this
  unfold unp
  rw [e0, en, ev, hl, if_neg (by omega), if_neg (by omega), if_neg (by omega), if_neg (by omega), if_pos hcan.1]

/-! ### Unpack, then Pack -/

theorem flat_vsU (s : List UInt8) : ∀ (m a : Nat), a + 12 * m ≤ s.length → (vsU s a m).flatMap v12 = (s.drop a).take (12 * m)
  | 0, a, _ => by simp [vsU]
  | m + 1, a, h => by
    rw [vsU, List.flatMap_cons, flat_vsU s m (a + 12) (by omega)]
    have e : v12 (vt s a) = (s.drop a).take 12 := by
      unfold v12 vt
      dsimp only
      rw [be4_sg (by omega), be4_sg (by omega), be4_sg (by omega)]
      have d1 : (s.drop a).take 12 = (s.drop a).take 4 ++ ((s.drop a).drop 4).take 8 := by rw [← List.take_add]
      have d2 : ((s.drop a).drop 4).take 8 = ((s.drop a).drop 4).take 4 ++ (((s.drop a).drop 4).drop 4).take 4 := by rw [← List.take_add]
      rw [d1, d2, List.drop_drop, List.drop_drop, List.append_assoc]
    rw [e, show 12 * (m + 1) = 12 + 12 * m by omega, List.take_add, List.drop_drop]
theorem pack_unp {s : List UInt8} (h : (unp s).2.2 = 0) : canonM (unp s).1 (unp s).2.1 ∧ (unp s).2.1.length ≤ 1365 ∧ packL (unp s).1 (unp s).2.1 = s := by
  unfold unp at h ⊢
  split at h
  · cases h
  rename_i h1
  rw [if_neg h1]
  split at h
  · cases h
  rename_i h2
  rw [if_neg h2]
  split at h
  · cases h
  rename_i h3
  rw [if_neg h3]
  split at h
  · cases h
  rename_i h4
  rw [if_neg h4]
  split at h
  · rename_i h5
    rw [if_pos h5]
    have hr := tk_range s 0
    have hn : ((nU s : Nat) : Int) = tk s 0 := by unfold nU; omega
    dsimp only
    refine ⟨⟨h5, by rw [tsOf_len], by rw [vsU_len, tsOf_len]⟩, by rw [tsOf_len]; omega, ?_⟩
    unfold packL
    rw [body36_flat, vsOf_tsOf (by rw [vsU_len]; omega) (nU s) 0 (by rw [vsU_len]; omega), List.drop_zero, flat_vsU s _ 4 (by omega), tsOf_len, hn, be4_tk (by omega), List.drop_zero]
    rw [List.take_of_length_le (l := s.drop 4) (by rw [List.length_drop]; omega), List.take_append_drop]
  · cases h
theorem unp_err {s : List UInt8} (h : ¬ (unp s).2.2 = 0) : (unp s).1 = [] ∧ (unp s).2.1 = [] := by
  unfold unp at h ⊢
  repeat' split
  all_goals first
    | exact ⟨rfl, rfl⟩
    | (exfalso; apply h; simp [*])
theorem unp_len (s : List UInt8) : (unp s).1.length ≤ 100000 ∧ (unp s).2.1.length ≤ 100000 := by
  by_cases h : (unp s).2.2 = 0
  · obtain ⟨h1, h2, _⟩ := pack_unp h
    have := h1.2.2
    omega
  · obtain ⟨e1, e2⟩ := unp_err h
    rw [e1, e2]; simp

/-! ### The example of the bytes -/

theorem kExB : Known Tryd.prog (Env.ofB Tryd.prog (sumOf [fAwake, fUint4 42, fInt4, fUnpack 26]) (wrOf [wCopy, wStr]) (pnOf []) (bxOf []) (rdOf [51]) (rdOf [28]) (rdOf []) (rdOf [])) :=
  hB (l := [fAwake, fUint4 42, fInt4, fUnpack 26]) [51] [28] [] [] ⟨o_awake, o_uint4, o_int4, o_unpack, trivial⟩ (fun x hx => by
    rcases List.mem_cons.1 hx with rfl | hx
    · exact wCopy_ok
    · rcases List.mem_cons.1 hx with rfl | hx
      · exact wStr_ok
      · cases hx) noneOk noneOk
theorem s_packed : SCall Tryd.prog 23 [] (.bool true) := scall_closedB kExB 3000 .auto (by kernel_rfl) rfl rfl
def fPacked : Fact := ⟨23, fun args => match args with
  | [] => some (.leaf (.bool true))
  | _ => none⟩
theorem o_packed : fPacked.ok Tryd.prog := fun args t ht => by
  simp only [fPacked] at ht
  split at ht
  · injection ht with ht; subst ht; exact s_packed
  · cases ht
end Go.Proofs.YtlhkgeoahblffaaDoor
set_option linter.unusedSimpArgs false
set_option linter.unusedVariables false
set_option maxRecDepth 100000
namespace Go.Proofs.YtlhkgeoahblffaaDoor
open Go.Sx
theorem s_lawPacks (us ts : List (Int × Int × Int)) : SCall Tryd.prog 9 [.agg [.list v3 us, .list v3 ts]] (.bool true) :=
  scall_v mix [fPacked, fPack, fPackR] ⟨o_packed, o_pack, o_packR, trivial⟩ 1000 (.fork (.lit (.lit (.lit (.lit (.fork (.all) (.fork (.lit (.lit (.lit (.fork (.lit (.all)) (.lit (.all)))))) (.lit (.lit (.lit (.lit (.lit (.all)))))))))))) (.lit (.lit (.lit (.lit (.lit (.all)))))))
   (t := .node (decide (((ts.length : Int) : Int) ≤ 40))
 (.node (!decide (((us.length : Int) : Int) ≤ 60))
  (.leaf (SV.bool true))
  (.node ((packT us ts).fst == (packT us ts).fst)
   (.node ((packT us ts).snd == (packT us ts).snd)
    (.leaf (SV.bool true))
    (.leaf (SV.bool false)))
   (.leaf (SV.bool false))))
 (.leaf (SV.bool true)))
   (by kernel_rfl) (by simp [Tree.holds]) (by kernel_rfl) (by kernel_rfl)
theorem s_lawUnpacks (s : List UInt8) : SCall Tryd.prog 10 [.str s] (.bool true) :=
  scall_v mix [fPacked, fUnpack 26, fUnpack 27, fSame] ⟨o_packed, o_unpack, o_unpackR, o_same, trivial⟩ 1000 (.fork (.all) (.fork (.lit (.lit (.lit (.fork (.lit (.all)) (.lit (.all)))))) (.lit (.lit (.lit (.lit (.lit (.all))))))))
   (t := .node (decide (((↑s.length : Int) : Int) > 3000))
 (.leaf (SV.bool true))
 (.req (decide (((↑s.length : Int) : Int) ≤ 100000)) (.req (decide (((↑s.length : Int) : Int) ≤ 100000)) (.req (decide ((unp s).fst.length ≤ 100000) && decide ((unp s).snd.fst.length ≤ 100000)) (.node (sameB (unp s).fst (unp s).snd.fst (unp s).fst (unp s).snd.fst)
     (.node ((unp s).snd.snd == (unp s).snd.snd)
      (.leaf (SV.bool true))
      (.leaf (SV.bool false)))
     (.leaf (SV.bool false)))))))
   (by kernel_rfl) (by have h := unp_len s; simp only [same_self]; simp [Tree.holds]; omega) (by kernel_rfl) (by kernel_rfl)
def by0_p : Plan := .fork (.lit (.lit (.lit (.lit (.fork (.lit (.lit (.lit (.lit (.all))))) (.lit (.lit (.lit (.fork (.all) (.fork (.all) (.fork (.fork (.lit (.lit (.lit (.lit (.lit (.lit (.lit (.lit (.all))))))))) (.lit (.lit (.fork (.lit (.lit (.lit (.lit (.lit (.all)))))) (.lit (.lit (.lit (.lit (.fork (.all) (.fork (.fork (.lit (.lit (.lit (.lit (.fork (.lit (.all)) (.lit (.all))))))) (.lit (.lit (.lit (.lit (.lit (.lit (.all)))))))) (.fork (.lit (.lit (.lit (.fork (.lit (.all)) (.lit (.all)))))) (.lit (.lit (.lit (.lit (.lit (.all))))))))))))))))) (.fork (.fork (.lit (.lit (.lit (.lit (.fork (.lit (.all)) (.lit (.all))))))) (.lit (.lit (.lit (.lit (.lit (.lit (.all)))))))) (.fork (.lit (.lit (.lit (.fork (.lit (.all)) (.lit (.all)))))) (.lit (.lit (.lit (.lit (.lit (.all))))))))))))))))))) (.lit (.lit (.lit (.lit (.lit (.lit (.lit (.lit (.lit (.all))))))))))
noncomputable def by0_t (us ts : List (Int × Int × Int)) (s : List UInt8) : Tree Stop :=
   .node (decide (((ts.length : Int) : Int) ≤ 40))
 (.node (!decide (((us.length : Int) : Int) ≤ 60))
  (.leaf (Stop.done (SV.bool true)))
  (.node (decide (((↑s.length : Int) : Int) > 3000))
   (.leaf (Stop.done (SV.bool true)))
   (.node ((packT us ts).snd != (printT us ts).snd)
    (.leaf (Stop.done (SV.bool false)))
    (.node ((packT us ts).snd == 0)
     (.req (decide ((↑(packT us ts).fst.length : Int) ≤ 100000)) (.node ((unp (packT us ts).fst).snd.snd != 0)
       (.leaf (Stop.done (SV.bool false)))
       (.node (mE (printT us ts).fst != 0)
        (.leaf (Stop.done (SV.bool false)))
        (.req (decide ((unp (packT us ts).fst).fst.length ≤ 100000) && decide ((unp (packT us ts).fst).snd.fst.length ≤ 100000)) (.node (!sameB (unp (packT us ts).fst).fst (unp (packT us ts).fst).snd.fst (mU (printT us ts).fst) (mT (printT us ts).fst))
          (.leaf (Stop.done (SV.bool false)))
          (.req (decide (((↑s.length : Int) : Int) ≤ 100000)) (.node ((unp s).snd.snd != 0)
            (.node ((↑(unp s).fst.length : Int) == 0)
             (.node ((↑(unp s).snd.fst.length : Int) == 0)
              (.leaf (Stop.done (SV.bool true)))
              (.leaf (Stop.done (SV.bool false))))
             (.leaf (Stop.done (SV.bool false))))
            (.node ((packT (unp s).fst (unp s).snd.fst).snd == 0)
             (.node ((packT (unp s).fst (unp s).snd.fst).fst == s)
              (.leaf (Stop.done (SV.bool true)))
              (.leaf (Stop.done (SV.bool false))))
             (.leaf (Stop.done (SV.bool false)))))))))))
     (.req (decide (((↑s.length : Int) : Int) ≤ 100000)) (.node ((unp s).snd.snd != 0)
       (.node ((↑(unp s).fst.length : Int) == 0)
        (.node ((↑(unp s).snd.fst.length : Int) == 0)
         (.leaf (Stop.done (SV.bool true)))
         (.leaf (Stop.done (SV.bool false))))
        (.leaf (Stop.done (SV.bool false))))
       (.node ((packT (unp s).fst (unp s).snd.fst).snd == 0)
        (.node ((packT (unp s).fst (unp s).snd.fst).fst == s)
         (.leaf (Stop.done (SV.bool true)))
         (.leaf (Stop.done (SV.bool false))))
        (.leaf (Stop.done (SV.bool false))))))))))
 (.leaf (Stop.done (SV.bool true)))
theorem by0 (us ts : List (Int × Int × Int)) (s : List UInt8) : segR (Env.of Tryd.prog (sumOf [fPacked, fPack, fPrint, fUnpack 26, fParseQ, fSame])) 1000 (fnOf Tryd.prog 11) .unit (keepS 100 []) (codeS Tryd.prog 11) by0_p (startS Tryd.prog 11 [.agg [.list v3 us, .list v3 ts], .str s]) [] = by0_t us ts s := by kernel_rfl
end Go.Proofs.YtlhkgeoahblffaaDoor
set_option linter.unusedSimpArgs false
set_option linter.unusedVariables false
set_option maxRecDepth 100000
namespace Go.Proofs.YtlhkgeoahblffaaDoor
open Go.Sx

theorem kBy : Known Tryd.prog (Env.of Tryd.prog (sumOf [fPacked, fPack, fPrint, fUnpack 26, fParseQ, fSame])) := hK (l := [fPacked, fPack, fPrint, fUnpack 26, fParseQ, fSame]) ⟨o_packed, o_pack, o_print, o_unpack, o_parseQ, o_same, trivial⟩

/-- What is asked of the bytes that are read. -/
theorem by_tail {L : Stop → Prop} (hL : L (.done (.bool true))) {s : List UInt8} (hs : (s.length : Int) ≤ 3000) : (Tree.req (decide ((s.length : Int) ≤ 100000)) (.node ((unp s).snd.snd != 0)
       (.node (((unp s).fst.length : Int) == 0)
        (.node (((unp s).snd.fst.length : Int) == 0)
         (.leaf (Stop.done (SV.bool true)))
         (.leaf (Stop.done (SV.bool false))))
        (.leaf (Stop.done (SV.bool false))))
       (.node ((packT (unp s).fst (unp s).snd.fst).snd == 0)
        (.node ((packT (unp s).fst (unp s).snd.fst).fst == s)
         (.leaf (Stop.done (SV.bool true)))
         (.leaf (Stop.done (SV.bool false))))
        (.leaf (Stop.done (SV.bool false)))))).holds L := by
  refine ⟨decide_eq_true (by omega), fun h => ?_, fun h => ?_⟩
  · have h : ¬ (unp s).2.2 = 0 := by simpa using h
    obtain ⟨e1, e2⟩ := unp_err h
    rw [e1, e2]
    exact ⟨fun _ => ⟨fun _ => hL, fun h => absurd h (by decide)⟩, fun h => absurd h (by decide)⟩
  · have h : (unp s).2.2 = 0 := by simpa using h
    obtain ⟨h1, h2, h3⟩ := pack_unp h
    have hc : chk (unp s).1 (unp s).2.1 = 0 := canon_chk h1 (by have := h1.2.2; omega)
    have ep : packT (unp s).1 (unp s).2.1 = (s, 0) := by
      unfold packT
      rw [if_pos hc, if_neg (by omega), h3]
    rw [ep]
    exact ⟨fun _ => ⟨fun _ => hL, fun h => absurd h (by simp)⟩, fun h => absurd h (by simp)⟩

theorem s_lawBytes (us ts : List T3) (s : List UInt8) : SCall Tryd.prog 11 [.agg [.list v3 us, .list v3 ts], .str s] (.bool true) := by
  refine scallR_loops rfl rfl (by kernel_rfl) (runsR_seg kBy (n := 1000) (hint := .unit) (keep := keepS 100 []) (p := by0_p) (boxes := []) rfl ?_)
  have e := by0 us ts s
  unfold startS codeS at e
  erw [e]
  unfold by0_t
  refine ⟨fun h1 => ⟨fun _ => rfl, fun h2 => ⟨fun _ => rfl, fun h3 => ?_⟩⟩, fun _ => rfl⟩
  have h1 := of_decide_eq_true h1
  have h1 : ts.length ≤ 40 := by omega
  have h3 := of_decide_eq_false h3
  have hs : (s.length : Int) ≤ 3000 := by omega
  have pl := print_len us ts
  by_cases hc : chk us ts = 0
  · have e1 : packT us ts = (packL us ts, 0) := by unfold packT; rw [if_pos hc, if_neg (by omega)]
    have e2 : printT us ts = (printL us ts, 0) := by unfold printT; rw [if_pos hc, if_neg (by omega)]
    have hl : (packL us ts).length = 4 + 36 * ts.length := by rw [packL, List.length_append, be4_len, body36_len]
    obtain ⟨m1, m2, m3, m4⟩ := mRes_print hc (by omega)
    rw [e1, e2]
    dsimp only
    rw [unp_pack hc (by omega)]
    dsimp only
    rw [m1, m2, m4, same_self, hl, vsOf_len, tsOf_len]
    refine ⟨fun h => absurd h (by decide), fun _ => ⟨fun _ => ⟨decide_eq_true (by omega), fun h => absurd h (by decide), fun _ => ⟨fun h => absurd h (by decide), fun _ => ⟨by simp; omega, fun h => absurd h (by decide), fun _ => ?_⟩⟩⟩, fun h => absurd h (by decide)⟩⟩
    exact by_tail (show (fun o : Stop => (match o with | .done v' => v' = SV.bool true | .at items' size slots' boxes' => slots'.length = size ∧ RunsR Tryd.prog (fnOf Tryd.prog 11) (SV.bool true) items' slots' boxes' : Prop)) (.done (.bool true)) from rfl) hs
  · have e1 : packT us ts = ([], chk us ts) := by unfold packT; rw [if_neg hc]
    have e2 : printT us ts = ([], chk us ts) := by unfold printT; rw [if_neg hc]
    rw [e1, e2]
    refine ⟨fun h => absurd h (by simp), fun _ => ⟨fun h => absurd (beq_iff_eq.1 h) hc, fun _ => ?_⟩⟩
    exact by_tail (show (fun o : Stop => (match o with | .done v' => v' = SV.bool true | .at items' size slots' boxes' => slots'.length = size ∧ RunsR Tryd.prog (fnOf Tryd.prog 11) (SV.bool true) items' slots' boxes' : Prop)) (.done (.bool true)) from rfl) hs
end Go.Proofs.YtlhkgeoahblffaaDoor
