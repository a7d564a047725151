/-
  G3: lists of commands, and the segments of the checks. Written by gen.py.
-/
import Derived.Test.YtkmohnciiincmaaG2
set_option linter.unusedSimpArgs false
set_option linter.unusedVariables false
set_option maxRecDepth 100000
namespace Go.Proofs.Ytkmohnciiincmaa
open Go.Sx
def codes0_p : Plan := .all
noncomputable def codes0_t (_ : Unit) : Tree Stop :=
   .leaf (Stop.done (SV.list (Ty.int IntKind.i64) codes))
theorem codes0 (_ : Unit) : segR (Env.of Try.prog (sumOf [])) 1000 (fnOf Try.prog 12) .unit (keepS 10 []) (codeS Try.prog 12) codes0_p (startS Try.prog 12 []) [] = codes0_t () := by kernel_rfl
theorem s_codes : SCall Try.prog 12 [] (.list (.int .i64) codes) := by
  refine scallR_loops rfl rfl (by kernel_rfl) (runsR_seg (hK (l := []) trivial) (n := 1000) (hint := .unit) (keep := keepS 10 []) (p := codes0_p) (boxes := []) rfl ?_)
  have e := codes0 ()
  unfold startS codeS at e
  erw [e]
  exact rfl
theorem o_codes : fCodes.ok Try.prog := fact0_ok s_codes
def fields0_p : Plan := .all
noncomputable def fields0_t (c : C) : Tree Stop :=
   .leaf (Stop.done (SV.list (Ty.int IntKind.i64) [c.x, c.y, c.z, c.e, c.f, c.s]))
theorem fields0 (c : C) : segR (Env.of Try.prog (sumOf [])) 1000 (fnOf Try.prog 19) .unit (keepS 10 []) (codeS Try.prog 19) fields0_p (startS Try.prog 19 [c.sv]) [] = fields0_t c := by kernel_rfl
theorem s_fields (c : C) : SCall Try.prog 19 [c.sv] (.list (.int .i64) [c.x, c.y, c.z, c.e, c.f, c.s]) := by
  refine scallR_loops rfl rfl (by kernel_rfl) (runsR_seg (hK (l := []) trivial) (n := 1000) (hint := .unit) (keep := keepS 10 []) (p := fields0_p) (boxes := []) rfl ?_)
  have e := fields0 c
  unfold startS codeS at e
  erw [e]
  exact rfl
theorem o_fields : fFields.ok Try.prog := factC_ok s_fields
def known0_p : Plan := .all
noncomputable def known0_t (k : Int) : Tree Stop :=
   .leaf (Stop.at (loopOf Try.prog 16 0) 18 (slotsS 18 [(0, I64 k), (3, SV.list (Ty.int IntKind.i64) codes), (4, I64 0)]) [])
theorem known0 (k : Int) : segR (Env.of Try.prog (sumOf [fCodes])) 1000 (fnOf Try.prog 16) .unit (keepS 18 [0, 3, 4]) (codeS Try.prog 16) known0_p (startS Try.prog 16 [I64 k]) [] = known0_t k := by kernel_rfl
def known1_p : Plan := .fork (.fork (.all) (.all)) (.all)
noncomputable def known1_t (k i : Int) : Tree Stop :=
   .node (decide (i < ↑codes.length))
 (.req (decide (0 ≤ i) && decide (i < ↑codes.length)) (.node (codes.getD i.toNat (Ty.int IntKind.i64).dflt == k)
   (.leaf (Stop.done (SV.bool true)))
   (.leaf (Stop.at (loopOf Try.prog 16 0) 18 (slotsS 18 [(0, I64 k), (3, SV.list (Ty.int IntKind.i64) codes), (4, I64 (IntKind.i64.wrap (i + 1)))]) []))))
 (.leaf (Stop.done (SV.bool false)))
theorem known1 (k i : Int) : segR (Env.of Try.prog (sumOf [fCodes])) 1000 (fnOf Try.prog 16) .unit (keepS 18 [0, 3, 4]) (loopOf Try.prog 16 0) known1_p (slotsS 18 [(0, I64 k), (3, .list (.int .i64) codes), (4, I64 i)]) [] = known1_t k i := by kernel_rfl
def valid0_p : Plan := .fork (.lit (.lit (.lit (.lit (.lit (.lit (.lit (.lit (.lit (.lit (.all))))))))))) (.lit (.lit (.lit (.lit (.lit (.fork (.lit (.lit (.lit (.lit (.all))))) (.lit (.fork (.lit (.lit (.lit (.lit (.lit (.lit (.fork (.all) (.all)))))))) (.lit (.lit (.lit (.lit (.lit (.lit (.lit (.all))))))))))))))))
noncomputable def valid0_t (c : C) : Tree Stop :=
   .node (!okC c.code)
 (.leaf (Stop.done (SV.bool false)))
 (.node (IntKind.i64.wrap ↑(BitVec.ofInt IntKind.i64.bits c.has &&& ~~~BitVec.ofInt IntKind.i64.bits (may c.code)).toNat != 0)
  (.leaf (Stop.done (SV.bool false)))
  (.node (allW c.code)
   (.node (c.has != may c.code)
    (.leaf (Stop.done (SV.bool false)))
    (.leaf (Stop.at (loopOf Try.prog 7 0) 64 (slotsS 64 [(1, SV.ptr 0 0), (35, I64 0)]) [some (Box.cells [I64 c.code, I64 c.has, I64 c.x, I64 c.y, I64 c.z, I64 c.e, I64 c.f, I64 c.s])])))
   (.leaf (Stop.at (loopOf Try.prog 7 0) 64 (slotsS 64 [(1, SV.ptr 0 0), (35, I64 0)]) [some (Box.cells [I64 c.code, I64 c.has, I64 c.x, I64 c.y, I64 c.z, I64 c.e, I64 c.f, I64 c.s])]))))
theorem valid0 (c : C) : segR (Env.of Try.prog (sumOf [fWords, fSpan, fField])) 1000 (fnOf Try.prog 7) .unit (keepS 64 [1, 35]) (codeS Try.prog 7) valid0_p (startS Try.prog 7 [c.sv]) [] = valid0_t c := by kernel_rfl
def valid1_p : Plan := .fork (.fork (.fork (.fork (.lit (.lit (.lit (.lit (.all))))) (.lit (.lit (.lit (.fork (.all) (.all)))))) (.fork (.lit (.lit (.lit (.lit (.all))))) (.lit (.lit (.lit (.fork (.all) (.all))))))) (.fork (.fork (.fork (.lit (.lit (.lit (.lit (.all))))) (.lit (.lit (.lit (.fork (.all) (.all)))))) (.fork (.lit (.lit (.lit (.lit (.all))))) (.lit (.lit (.lit (.fork (.all) (.all))))))) (.fork (.fork (.fork (.lit (.lit (.lit (.lit (.all))))) (.lit (.lit (.lit (.fork (.all) (.all)))))) (.fork (.lit (.lit (.lit (.lit (.all))))) (.lit (.lit (.lit (.fork (.all) (.all))))))) (.fork (.fork (.fork (.lit (.lit (.lit (.lit (.all))))) (.lit (.lit (.lit (.fork (.all) (.all)))))) (.fork (.lit (.lit (.lit (.lit (.all))))) (.lit (.lit (.lit (.fork (.all) (.all))))))) (.fork (.fork (.fork (.lit (.lit (.lit (.lit (.all))))) (.lit (.lit (.lit (.fork (.all) (.all)))))) (.fork (.lit (.lit (.lit (.lit (.all))))) (.lit (.lit (.lit (.fork (.all) (.all))))))) (.fork (.fork (.lit (.lit (.lit (.lit (.all))))) (.lit (.lit (.lit (.fork (.all) (.all)))))) (.fork (.lit (.lit (.lit (.lit (.all))))) (.lit (.lit (.lit (.fork (.all) (.all)))))))))))) (.all)
noncomputable def valid1_t (c : C) (i : Int) : Tree Stop :=
   .node (decide (i < 6))
 (.node (i == 0)
  (.req (decide (0 ≤ i)) (.node (IntKind.i64.wrap ↑(BitVec.ofInt IntKind.i64.bits (c.has.fdiv (2 ^ min i.toNat IntKind.i64.bits)) &&& BitVec.ofInt IntKind.i64.bits 1).toNat == 0)
    (.node (decide (c.x < 0))
     (.leaf (Stop.done (SV.bool false)))
     (.node (decide (c.x > 0))
      (.leaf (Stop.done (SV.bool false)))
      (.leaf (Stop.at (loopOf Try.prog 7 0) 64 (slotsS 64 [(1, SV.ptr 0 0), (35, I64 (IntKind.i64.wrap (i + 1)))]) [some (Box.cells [I64 c.code, I64 c.has, I64 c.x, I64 c.y, I64 c.z, I64 c.e, I64 c.f, I64 c.s])]))))
    (.node (decide (c.x < lo c.code i))
     (.leaf (Stop.done (SV.bool false)))
     (.node (decide (c.x > hi c.code i))
      (.leaf (Stop.done (SV.bool false)))
      (.leaf (Stop.at (loopOf Try.prog 7 0) 64 (slotsS 64 [(1, SV.ptr 0 0), (35, I64 (IntKind.i64.wrap (i + 1)))]) [some (Box.cells [I64 c.code, I64 c.has, I64 c.x, I64 c.y, I64 c.z, I64 c.e, I64 c.f, I64 c.s])]))))))
  (.node (i == 1)
   (.req (decide (0 ≤ i)) (.node (IntKind.i64.wrap ↑(BitVec.ofInt IntKind.i64.bits (c.has.fdiv (2 ^ min i.toNat IntKind.i64.bits)) &&& BitVec.ofInt IntKind.i64.bits 1).toNat == 0)
     (.node (decide (c.y < 0))
      (.leaf (Stop.done (SV.bool false)))
      (.node (decide (c.y > 0))
       (.leaf (Stop.done (SV.bool false)))
       (.leaf (Stop.at (loopOf Try.prog 7 0) 64 (slotsS 64 [(1, SV.ptr 0 0), (35, I64 (IntKind.i64.wrap (i + 1)))]) [some (Box.cells [I64 c.code, I64 c.has, I64 c.x, I64 c.y, I64 c.z, I64 c.e, I64 c.f, I64 c.s])]))))
     (.node (decide (c.y < lo c.code i))
      (.leaf (Stop.done (SV.bool false)))
      (.node (decide (c.y > hi c.code i))
       (.leaf (Stop.done (SV.bool false)))
       (.leaf (Stop.at (loopOf Try.prog 7 0) 64 (slotsS 64 [(1, SV.ptr 0 0), (35, I64 (IntKind.i64.wrap (i + 1)))]) [some (Box.cells [I64 c.code, I64 c.has, I64 c.x, I64 c.y, I64 c.z, I64 c.e, I64 c.f, I64 c.s])]))))))
   (.node (i == 2)
    (.req (decide (0 ≤ i)) (.node (IntKind.i64.wrap ↑(BitVec.ofInt IntKind.i64.bits (c.has.fdiv (2 ^ min i.toNat IntKind.i64.bits)) &&& BitVec.ofInt IntKind.i64.bits 1).toNat == 0)
      (.node (decide (c.z < 0))
       (.leaf (Stop.done (SV.bool false)))
       (.node (decide (c.z > 0))
        (.leaf (Stop.done (SV.bool false)))
        (.leaf (Stop.at (loopOf Try.prog 7 0) 64 (slotsS 64 [(1, SV.ptr 0 0), (35, I64 (IntKind.i64.wrap (i + 1)))]) [some (Box.cells [I64 c.code, I64 c.has, I64 c.x, I64 c.y, I64 c.z, I64 c.e, I64 c.f, I64 c.s])]))))
      (.node (decide (c.z < lo c.code i))
       (.leaf (Stop.done (SV.bool false)))
       (.node (decide (c.z > hi c.code i))
        (.leaf (Stop.done (SV.bool false)))
        (.leaf (Stop.at (loopOf Try.prog 7 0) 64 (slotsS 64 [(1, SV.ptr 0 0), (35, I64 (IntKind.i64.wrap (i + 1)))]) [some (Box.cells [I64 c.code, I64 c.has, I64 c.x, I64 c.y, I64 c.z, I64 c.e, I64 c.f, I64 c.s])]))))))
    (.node (i == 3)
     (.req (decide (0 ≤ i)) (.node (IntKind.i64.wrap ↑(BitVec.ofInt IntKind.i64.bits (c.has.fdiv (2 ^ min i.toNat IntKind.i64.bits)) &&& BitVec.ofInt IntKind.i64.bits 1).toNat == 0)
       (.node (decide (c.e < 0))
        (.leaf (Stop.done (SV.bool false)))
        (.node (decide (c.e > 0))
         (.leaf (Stop.done (SV.bool false)))
         (.leaf (Stop.at (loopOf Try.prog 7 0) 64 (slotsS 64 [(1, SV.ptr 0 0), (35, I64 (IntKind.i64.wrap (i + 1)))]) [some (Box.cells [I64 c.code, I64 c.has, I64 c.x, I64 c.y, I64 c.z, I64 c.e, I64 c.f, I64 c.s])]))))
       (.node (decide (c.e < lo c.code i))
        (.leaf (Stop.done (SV.bool false)))
        (.node (decide (c.e > hi c.code i))
         (.leaf (Stop.done (SV.bool false)))
         (.leaf (Stop.at (loopOf Try.prog 7 0) 64 (slotsS 64 [(1, SV.ptr 0 0), (35, I64 (IntKind.i64.wrap (i + 1)))]) [some (Box.cells [I64 c.code, I64 c.has, I64 c.x, I64 c.y, I64 c.z, I64 c.e, I64 c.f, I64 c.s])]))))))
     (.node (i == 4)
      (.req (decide (0 ≤ i)) (.node (IntKind.i64.wrap ↑(BitVec.ofInt IntKind.i64.bits (c.has.fdiv (2 ^ min i.toNat IntKind.i64.bits)) &&& BitVec.ofInt IntKind.i64.bits 1).toNat == 0)
        (.node (decide (c.f < 0))
         (.leaf (Stop.done (SV.bool false)))
         (.node (decide (c.f > 0))
          (.leaf (Stop.done (SV.bool false)))
          (.leaf (Stop.at (loopOf Try.prog 7 0) 64 (slotsS 64 [(1, SV.ptr 0 0), (35, I64 (IntKind.i64.wrap (i + 1)))]) [some (Box.cells [I64 c.code, I64 c.has, I64 c.x, I64 c.y, I64 c.z, I64 c.e, I64 c.f, I64 c.s])]))))
        (.node (decide (c.f < lo c.code i))
         (.leaf (Stop.done (SV.bool false)))
         (.node (decide (c.f > hi c.code i))
          (.leaf (Stop.done (SV.bool false)))
          (.leaf (Stop.at (loopOf Try.prog 7 0) 64 (slotsS 64 [(1, SV.ptr 0 0), (35, I64 (IntKind.i64.wrap (i + 1)))]) [some (Box.cells [I64 c.code, I64 c.has, I64 c.x, I64 c.y, I64 c.z, I64 c.e, I64 c.f, I64 c.s])]))))))
      (.req (decide (0 ≤ i)) (.node (IntKind.i64.wrap ↑(BitVec.ofInt IntKind.i64.bits (c.has.fdiv (2 ^ min i.toNat IntKind.i64.bits)) &&& BitVec.ofInt IntKind.i64.bits 1).toNat == 0)
        (.node (decide (c.s < 0))
         (.leaf (Stop.done (SV.bool false)))
         (.node (decide (c.s > 0))
          (.leaf (Stop.done (SV.bool false)))
          (.leaf (Stop.at (loopOf Try.prog 7 0) 64 (slotsS 64 [(1, SV.ptr 0 0), (35, I64 (IntKind.i64.wrap (i + 1)))]) [some (Box.cells [I64 c.code, I64 c.has, I64 c.x, I64 c.y, I64 c.z, I64 c.e, I64 c.f, I64 c.s])]))))
        (.node (decide (c.s < lo c.code i))
         (.leaf (Stop.done (SV.bool false)))
         (.node (decide (c.s > hi c.code i))
          (.leaf (Stop.done (SV.bool false)))
          (.leaf (Stop.at (loopOf Try.prog 7 0) 64 (slotsS 64 [(1, SV.ptr 0 0), (35, I64 (IntKind.i64.wrap (i + 1)))]) [some (Box.cells [I64 c.code, I64 c.has, I64 c.x, I64 c.y, I64 c.z, I64 c.e, I64 c.f, I64 c.s])])))))))))))
 (.leaf (Stop.done (SV.bool true)))
theorem valid1 (c : C) (i : Int) : segR (Env.of Try.prog (sumOf [fWords, fSpan, fField])) 1000 (fnOf Try.prog 7) .unit (keepS 64 [1, 35]) (loopOf Try.prog 7 0) valid1_p (slotsS 64 [(1, .ptr 0 0), (35, I64 i)]) [some (.cells c.cells)] = valid1_t c i := by kernel_rfl
def validR0_p : Plan := .fork (.lit (.lit (.lit (.lit (.lit (.lit (.lit (.lit (.lit (.lit (.lit (.lit (.lit (.lit (.lit (.lit (.lit (.lit (.lit (.all)))))))))))))))))))) (.lit (.lit (.lit (.fork (.lit (.lit (.lit (.lit (.lit (.lit (.lit (.lit (.lit (.lit (.lit (.lit (.lit (.lit (.lit (.all)))))))))))))))) (.lit (.lit (.lit (.lit (.lit (.lit (.lit (.fork (.lit (.lit (.lit (.lit (.lit (.lit (.lit (.all)))))))) (.lit (.lit (.lit (.lit (.lit (.lit (.fork (.all) (.all))))))))))))))))))))
noncomputable def validR0_t (c : C) : Tree Stop :=
   .node (!okC c.code)
 (.leaf (Stop.done (SV.bool false)))
 (.node (decide (c.has < 0))
  (.leaf (Stop.done (SV.bool false)))
  (.node (IntKind.i64.wrap ↑(BitVec.ofInt IntKind.i64.bits c.has &&& ~~~BitVec.ofInt IntKind.i64.bits (may c.code)).toNat != 0)
   (.leaf (Stop.done (SV.bool false)))
   (.node (!(!may c.code == 32 || c.has == 32))
    (.leaf (Stop.done (SV.bool false)))
    (.leaf (Stop.at (loopOf Try.prog 8 0) 70 (slotsS 70 [(1, SV.ptr 0 0), (3, SV.list (Ty.int IntKind.i64) [c.x, c.y, c.z, c.e, c.f, c.s]), (4, I64 0)]) [some (Box.cells [I64 c.code, I64 c.has, I64 c.x, I64 c.y, I64 c.z, I64 c.e, I64 c.f, I64 c.s])])))))
theorem validR0 (c : C) : segR (Env.of Try.prog (sumOf [fKnown, fAllowed, fComplete, fFields, fRanged])) 1000 (fnOf Try.prog 8) .unit (keepS 70 [1, 3, 4]) (codeS Try.prog 8) validR0_p (startS Try.prog 8 [c.sv]) [] = validR0_t c := by kernel_rfl
def validR1_p : Plan := .fork (.fork (.lit (.lit (.lit (.lit (.lit (.lit (.lit (.lit (.lit (.fork (.lit (.lit (.lit (.lit (.lit (.all)))))) (.lit (.lit (.fork (.lit (.lit (.lit (.lit (.lit (.lit (.lit (.fork (.all) (.all))))))))) (.lit (.lit (.lit (.lit (.lit (.lit (.lit (.lit (.all)))))))))))))))))))))) (.lit (.lit (.lit (.lit (.lit (.lit (.lit (.lit (.lit (.lit (.lit (.lit (.fork (.lit (.lit (.lit (.lit (.lit (.lit (.lit (.fork (.all) (.all))))))))) (.lit (.lit (.lit (.lit (.lit (.lit (.lit (.lit (.all))))))))))))))))))))))) (.all)
noncomputable def validR1_t (c : C) (i : Int) : Tree Stop :=
   .node (decide (i < ↑[c.x, c.y, c.z, c.e, c.f, c.s].length))
 (.req (decide (0 ≤ IntKind.u64.wrap i)) (.node (IntKind.i64.wrap ↑(BitVec.ofInt IntKind.i64.bits (c.has.fdiv (2 ^ min (IntKind.u64.wrap i).toNat IntKind.i64.bits)) &&& BitVec.ofInt IntKind.i64.bits 1).toNat == 1)
   (.req (decide (0 ≤ i) && decide (i < ↑[c.x, c.y, c.z, c.e, c.f, c.s].length)) (.node (!rangedB c.code i ([c.x, c.y, c.z, c.e, c.f, c.s].getD i.toNat (Ty.int IntKind.i64).dflt))
     (.leaf (Stop.done (SV.bool false)))
     (.node (!IntKind.i64.wrap ↑(BitVec.ofInt IntKind.i64.bits (c.has.fdiv (2 ^ min (IntKind.u64.wrap i).toNat IntKind.i64.bits)) &&& BitVec.ofInt IntKind.i64.bits 1).toNat == 1)
      (.req (decide (0 ≤ i) && decide (i < ↑[c.x, c.y, c.z, c.e, c.f, c.s].length)) (.node ([c.x, c.y, c.z, c.e, c.f, c.s].getD i.toNat (Ty.int IntKind.i64).dflt != 0)
        (.leaf (Stop.done (SV.bool false)))
        (.leaf (Stop.at (loopOf Try.prog 8 0) 70 (slotsS 70 [(1, SV.ptr 0 0), (3, SV.list (Ty.int IntKind.i64) [c.x, c.y, c.z, c.e, c.f, c.s]), (4, I64 (IntKind.i64.wrap (i + 1)))]) [some (Box.cells [I64 c.code, I64 c.has, I64 c.x, I64 c.y, I64 c.z, I64 c.e, I64 c.f, I64 c.s])]))))
      (.leaf (Stop.at (loopOf Try.prog 8 0) 70 (slotsS 70 [(1, SV.ptr 0 0), (3, SV.list (Ty.int IntKind.i64) [c.x, c.y, c.z, c.e, c.f, c.s]), (4, I64 (IntKind.i64.wrap (i + 1)))]) [some (Box.cells [I64 c.code, I64 c.has, I64 c.x, I64 c.y, I64 c.z, I64 c.e, I64 c.f, I64 c.s])])))))
   (.node (!IntKind.i64.wrap ↑(BitVec.ofInt IntKind.i64.bits (c.has.fdiv (2 ^ min (IntKind.u64.wrap i).toNat IntKind.i64.bits)) &&& BitVec.ofInt IntKind.i64.bits 1).toNat == 1)
    (.req (decide (0 ≤ i) && decide (i < ↑[c.x, c.y, c.z, c.e, c.f, c.s].length)) (.node ([c.x, c.y, c.z, c.e, c.f, c.s].getD i.toNat (Ty.int IntKind.i64).dflt != 0)
      (.leaf (Stop.done (SV.bool false)))
      (.leaf (Stop.at (loopOf Try.prog 8 0) 70 (slotsS 70 [(1, SV.ptr 0 0), (3, SV.list (Ty.int IntKind.i64) [c.x, c.y, c.z, c.e, c.f, c.s]), (4, I64 (IntKind.i64.wrap (i + 1)))]) [some (Box.cells [I64 c.code, I64 c.has, I64 c.x, I64 c.y, I64 c.z, I64 c.e, I64 c.f, I64 c.s])]))))
    (.leaf (Stop.at (loopOf Try.prog 8 0) 70 (slotsS 70 [(1, SV.ptr 0 0), (3, SV.list (Ty.int IntKind.i64) [c.x, c.y, c.z, c.e, c.f, c.s]), (4, I64 (IntKind.i64.wrap (i + 1)))]) [some (Box.cells [I64 c.code, I64 c.has, I64 c.x, I64 c.y, I64 c.z, I64 c.e, I64 c.f, I64 c.s])])))))
 (.leaf (Stop.done (SV.bool true)))
theorem validR1 (c : C) (i : Int) : segR (Env.of Try.prog (sumOf [fKnown, fAllowed, fComplete, fFields, fRanged])) 1000 (fnOf Try.prog 8) .unit (keepS 70 [1, 3, 4]) (loopOf Try.prog 8 0) validR1_p (slotsS 70 [(1, .ptr 0 0), (3, .list (.int .i64) [c.x, c.y, c.z, c.e, c.f, c.s]), (4, I64 i)]) [some (.cells c.cells)] = validR1_t c i := by kernel_rfl
def fmt0_p : Plan := .fork (.all) (.all)
noncomputable def fmt0_t (n : Int) : Tree Stop :=
   .node (decide (n < 0))
 (.req (!10 == 0) (.req (!10 == 0) (.leaf (Stop.at (loopOf Try.prog 22 0) 58 (slotsS 58 [(0, I64 n), (3, SV.int IntKind.u64 (IntKind.u64.wrap ((IntKind.u64.wrap (0 - IntKind.u64.wrap n)).tdiv 10))), (4, SV.arr 0 0 1), (5, SV.undef), (6, SV.undef)]) [some (Box.cells [SV.int IntKind.u8 (IntKind.u8.wrap (IntKind.u64.wrap (48 + (IntKind.u64.wrap (0 - IntKind.u64.wrap n)).tmod 10)))])]))))
 (.req (!10 == 0) (.req (!10 == 0) (.leaf (Stop.at (loopOf Try.prog 22 0) 58 (slotsS 58 [(0, I64 n), (3, SV.int IntKind.u64 (IntKind.u64.wrap ((IntKind.u64.wrap n).tdiv 10))), (4, SV.arr 0 0 1), (5, SV.undef), (6, SV.undef)]) [some (Box.cells [SV.int IntKind.u8 (IntKind.u8.wrap (IntKind.u64.wrap (48 + (IntKind.u64.wrap n).tmod 10)))])]))))
theorem fmt0 (n : Int) : segR (Env.of Try.prog (sumOf [])) 1000 (fnOf Try.prog 22) .unit (keepS 58 [0, 3, 4, 5, 6]) (codeS Try.prog 22) fmt0_p (startS Try.prog 22 [I64 n]) [] = fmt0_t n := by kernel_rfl
def fmt1a_p : Plan := .fork (.all) (.fork (.all) (.all))
noncomputable def fmt1a_t (n u d : Int) : Tree Stop :=
   .node (decide (u > 0))
 (.req (!10 == 0) (.req (decide (0 < [IntKind.u8.wrap (IntKind.u64.wrap (48 + u.tmod 10))].length) && decide (([d].length + [IntKind.u8.wrap (IntKind.u64.wrap (48 + u.tmod 10))].length) * 1 ≤ 140737488355328)) (.req (!10 == 0) (.leaf (Stop.at (loopOf Try.prog 22 0) 58 (slotsS 58 [(0, I64 n), (3, SV.int IntKind.u64 (IntKind.u64.wrap (u.tdiv 10))), (4, SV.row 0), (5, SV.undef), (6, SV.undef)]) [some (Box.rows (Ty.int IntKind.u8) ([d] ++ [IntKind.u8.wrap (IntKind.u64.wrap (48 + u.tmod 10))]))])))))
 (.node (decide (n < 0))
  (.req (decide (0 < [45].length) && decide (([d].length + [45].length) * 1 ≤ 140737488355328)) (.leaf (Stop.at (loopOf Try.prog 22 1) 58 (slotsS 58 [(0, I64 n), (3, SV.int IntKind.u64 u), (4, SV.row 0), (5, I64 0), (6, I64 (IntKind.i64.wrap (↑([d] ++ [45]).length - 1)))]) [some (Box.rows (Ty.int IntKind.u8) ([d] ++ [45]))])))
  (.leaf (Stop.at (loopOf Try.prog 22 1) 58 (slotsS 58 [(0, I64 n), (3, SV.int IntKind.u64 u), (4, SV.arr 0 0 1), (5, I64 0), (6, I64 0)]) [some (Box.cells [SV.int IntKind.u8 d])])))
theorem fmt1a (n u d : Int) : segR (Env.of Try.prog (sumOf [])) 1000 (fnOf Try.prog 22) .unit (keepS 58 [0, 3, 4, 5, 6]) (loopOf Try.prog 22 0) fmt1a_p (slotsS 58 [(0, I64 n), (3, .int .u64 u), (4, .arr 0 0 1), (5, .undef), (6, .undef)]) [some (.cells [.int .u8 d])] = fmt1a_t n u d := by kernel_rfl
def fmt1_p : Plan := .fork (.all) (.fork (.all) (.all))
noncomputable def fmt1_t (n u : Int) (l : List Int) : Tree Stop :=
   .node (decide (u > 0))
 (.req (!10 == 0) (.req (decide ((l.length + [IntKind.u8.wrap (IntKind.u64.wrap (48 + u.tmod 10))].length) * 1 ≤ 140737488355328)) (.req (!10 == 0) (.leaf (Stop.at (loopOf Try.prog 22 0) 58 (slotsS 58 [(0, I64 n), (3, SV.int IntKind.u64 (IntKind.u64.wrap (u.tdiv 10))), (4, SV.row 0), (5, SV.undef), (6, SV.undef)]) [some (Box.rows (Ty.int IntKind.u8) (l ++ [IntKind.u8.wrap (IntKind.u64.wrap (48 + u.tmod 10))]))])))))
 (.node (decide (n < 0))
  (.req (decide ((l.length + [45].length) * 1 ≤ 140737488355328)) (.leaf (Stop.at (loopOf Try.prog 22 1) 58 (slotsS 58 [(0, I64 n), (3, SV.int IntKind.u64 u), (4, SV.row 0), (5, I64 0), (6, I64 (IntKind.i64.wrap (↑(l ++ [45]).length - 1)))]) [some (Box.rows (Ty.int IntKind.u8) (l ++ [45]))])))
  (.leaf (Stop.at (loopOf Try.prog 22 1) 58 (slotsS 58 [(0, I64 n), (3, SV.int IntKind.u64 u), (4, SV.row 0), (5, I64 0), (6, I64 (IntKind.i64.wrap (↑l.length - 1)))]) [some (Box.rows (Ty.int IntKind.u8) l)])))
theorem fmt1 (n u : Int) (l : List Int) : segR (Env.of Try.prog (sumOf [])) 1000 (fnOf Try.prog 22) .unit (keepS 58 [0, 3, 4, 5, 6]) (loopOf Try.prog 22 0) fmt1_p (slotsS 58 [(0, I64 n), (3, .int .u64 u), (4, .row 0), (5, .undef), (6, .undef)]) [some (.rows (.int .u8) l)] = fmt1_t n u l := by kernel_rfl
def fmt2_p : Plan := .fork (.all) (.all)
noncomputable def fmt2_t (n u : Int) (l : List Int) (i k : Int) : Tree Stop :=
   .node (decide (i < k))
 (.req (decide (0 ≤ k) && decide (k < ↑l.length)) (.req (decide (k.toNat < l.length)) (.req (decide (0 ≤ i) && decide (i < ↑l.length)) (.req (decide (i.toNat < l.length)) (.req (decide (0 ≤ i) && decide (i < ↑l.length)) (.req (decide (i.toNat < l.length)) (.req (decide (0 ≤ k) && decide (k < ↑(l.set i.toNat (l.getD k.toNat (Ty.int IntKind.u8).dflt)).length)) (.req (decide (k.toNat < (l.set i.toNat (l.getD k.toNat (Ty.int IntKind.u8).dflt)).length)) (.leaf (Stop.at (loopOf Try.prog 22 1) 58 (slotsS 58 [(0, I64 n), (3, SV.int IntKind.u64 u), (4, SV.row 0), (5, I64 (IntKind.i64.wrap (i + 1))), (6, I64 (IntKind.i64.wrap (k - 1)))]) [some (Box.rows (Ty.int IntKind.u8) ((l.set i.toNat (l.getD k.toNat (Ty.int IntKind.u8).dflt)).set k.toNat (l.getD i.toNat (Ty.int IntKind.u8).dflt)))]))))))))))
 (.leaf (Stop.done (SV.str (List.map (fun n => UInt8.ofNat (Int.toNat n)) l))))
theorem fmt2 (n u : Int) (l : List Int) (i k : Int) : segR (Env.of Try.prog (sumOf [])) 1000 (fnOf Try.prog 22) .unit (keepS 58 [0, 3, 4, 5, 6]) (loopOf Try.prog 22 1) fmt2_p (slotsS 58 [(0, I64 n), (3, .int .u64 u), (4, .row 0), (5, I64 i), (6, I64 k)]) [some (.rows (.int .u8) l)] = fmt2_t n u l i k := by kernel_rfl
def fmt2a_p : Plan := .lit (.all)
noncomputable def fmt2a_t (n u d : Int) : Tree Stop :=
   .leaf (Stop.done (SV.str (List.map (fun n => UInt8.ofNat (Int.toNat n)) [d])))
theorem fmt2a (n u d : Int) : segR (Env.of Try.prog (sumOf [])) 1000 (fnOf Try.prog 22) .unit (keepS 58 [0, 3, 4, 5, 6]) (loopOf Try.prog 22 1) fmt2a_p (slotsS 58 [(0, I64 n), (3, .int .u64 u), (4, .arr 0 0 1), (5, I64 0), (6, I64 0)]) [some (.cells [.int .u8 d])] = fmt2a_t n u d := by kernel_rfl
def fmtR0_p : Plan := .fork (.all) (.all)
noncomputable def fmtR0_t (n : Int) : Tree Stop :=
   .node (decide (n < 0))
 (.leaf (Stop.at (loopOf Try.prog 24 0) 26 (slotsS 26 [(0, I64 n), (3, SV.str []), (4, SV.int IntKind.u64 (IntKind.u64.wrap (0 - IntKind.u64.wrap n))), (5, SV.bool true)]) []))
 (.leaf (Stop.at (loopOf Try.prog 24 0) 26 (slotsS 26 [(0, I64 n), (3, SV.str []), (4, SV.int IntKind.u64 (IntKind.u64.wrap n)), (5, SV.bool true)]) []))
theorem fmtR0 (n : Int) : segR (Env.of Try.prog (sumOf [])) 1000 (fnOf Try.prog 24) .unit (keepS 26 [0, 3, 4, 5]) (codeS Try.prog 24) fmtR0_p (startS Try.prog 24 [I64 n]) [] = fmtR0_t n := by kernel_rfl
def fmtR1_p : Plan := .fork (.all) (.fork (.all) (.all))
noncomputable def fmtR1_t (n : Int) (s : List UInt8) (u : Int) (b : Bool) : Tree Stop :=
   .node (b)
 (.req (!10 == 0) (.req (decide (↑((List.map (fun n => UInt8.ofNat (Int.toNat n)) [IntKind.u8.wrap (IntKind.u64.wrap (48 + u.tmod 10))]).length + s.length) ≤ (9223372036854775807 : Int))) (.req (!10 == 0) (.leaf (Stop.at (loopOf Try.prog 24 0) 26 (slotsS 26 [(0, I64 n), (3, SV.str (List.map (fun n => UInt8.ofNat (Int.toNat n)) [IntKind.u8.wrap (IntKind.u64.wrap (48 + u.tmod 10))] ++ s)), (4, SV.int IntKind.u64 (IntKind.u64.wrap (u.tdiv 10))), (5, SV.bool (decide (IntKind.u64.wrap (u.tdiv 10) > 0)))]) [])))))
 (.node (decide (n < 0))
  (.req (decide (↑(([45] : List UInt8).length + s.length) ≤ (9223372036854775807 : Int))) (.leaf (Stop.done (SV.str ([45] ++ s)))))
  (.leaf (Stop.done (SV.str s))))
theorem fmtR1 (n : Int) (s : List UInt8) (u : Int) (b : Bool) : segR (Env.of Try.prog (sumOf [])) 1000 (fnOf Try.prog 24) .unit (keepS 26 [0, 3, 4, 5]) (loopOf Try.prog 24 0) fmtR1_p (slotsS 26 [(0, I64 n), (3, .str s), (4, .int .u64 u), (5, .bool b)]) [] = fmtR1_t n s u b := by kernel_rfl
end Go.Proofs.Ytkmohnciiincmaa
