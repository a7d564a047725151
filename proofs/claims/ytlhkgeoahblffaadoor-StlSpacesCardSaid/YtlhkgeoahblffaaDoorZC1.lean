/-
  GA7: the segments of spaced; StlSpaces. Written by gen.py.
  SP: the law StlSpaces: contract.
  GB7: the law StlSpaces: contract. Written by gen.py.
-/
import Derived.Test.YtlhkgeoahblffaaDoorZB1
set_option linter.unusedSimpArgs false
set_option linter.unusedVariables false
set_option maxRecDepth 100000
namespace Go.Proofs.YtlhkgeoahblffaaDoor
open Go.Sx
def kL (l : List Int) (i : Int) : Int := IntKind.i64.wrap (Int.tmod (l.getD (i.tmod (l.length : Int)).toNat 0) 4)
def sp0_p : Plan := .all
noncomputable def sp0_t (s : List UInt8) (l : List Int) : Tree Stop :=
   .leaf (Stop.at (loopOf Tryd.prog 22 0) 78 (slotsS 78 [(0, SV.str s), (1, SV.list (Ty.int IntKind.u8) l), (5, SV.str []), (6, I64 0)]) [])
theorem sp0 (s : List UInt8) (l : List Int) : segR (Env.of Tryd.prog (sumOf [])) 1000 (fnOf Tryd.prog 22) .unit (keepS 78 [0,1,5,6]) (codeS Tryd.prog 22) sp0_p (startS Tryd.prog 22 [.str s, .list (.int .u8) l]) [] = sp0_t s l := by kernel_rfl
def sp1_p : Plan := .fork (.fork (.fork (.lit (.lit (.fork (.all) (.fork (.lit (.lit (.fork (.all) (.fork (.lit (.lit (.fork (.all) (.fork (.lit (.lit (.fork (.all) (.all)))) (.lit (.lit (.lit (.all)))))))) (.lit (.lit (.lit (.fork (.lit (.lit (.fork (.all) (.all)))) (.lit (.lit (.lit (.all)))))))))))) (.lit (.lit (.lit (.fork (.lit (.lit (.fork (.all) (.fork (.lit (.lit (.fork (.all) (.all)))) (.lit (.lit (.lit (.all)))))))) (.lit (.lit (.lit (.fork (.lit (.lit (.fork (.all) (.all)))) (.lit (.lit (.lit (.all)))))))))))))))) (.lit (.lit (.lit (.fork (.lit (.lit (.fork (.all) (.fork (.lit (.lit (.fork (.all) (.fork (.lit (.lit (.fork (.all) (.all)))) (.lit (.lit (.lit (.all)))))))) (.lit (.lit (.lit (.fork (.lit (.lit (.fork (.all) (.all)))) (.lit (.lit (.lit (.all)))))))))))) (.lit (.lit (.lit (.fork (.lit (.lit (.fork (.all) (.fork (.lit (.lit (.fork (.all) (.all)))) (.lit (.lit (.lit (.all)))))))) (.lit (.lit (.lit (.fork (.lit (.lit (.fork (.all) (.all)))) (.lit (.lit (.lit (.all))))))))))))))))) (.fork (.lit (.lit (.lit (.fork (.lit (.lit (.lit (.fork (.lit (.lit (.lit (.fork (.lit (.lit (.lit (.all)))) (.lit (.lit (.lit (.all)))))))) (.lit (.lit (.lit (.fork (.lit (.lit (.lit (.all)))) (.lit (.lit (.lit (.all)))))))))))) (.lit (.lit (.lit (.fork (.lit (.lit (.lit (.fork (.lit (.lit (.lit (.all)))) (.lit (.lit (.lit (.all)))))))) (.lit (.lit (.lit (.fork (.lit (.lit (.lit (.all)))) (.lit (.lit (.lit (.all)))))))))))))))) (.lit (.lit (.lit (.fork (.lit (.lit (.lit (.fork (.lit (.lit (.lit (.fork (.lit (.lit (.lit (.all)))) (.lit (.lit (.lit (.all)))))))) (.lit (.lit (.lit (.fork (.lit (.lit (.lit (.all)))) (.lit (.lit (.lit (.all)))))))))))) (.lit (.lit (.lit (.fork (.lit (.lit (.lit (.fork (.lit (.lit (.lit (.all)))) (.lit (.lit (.lit (.all)))))))) (.lit (.lit (.lit (.fork (.lit (.lit (.lit (.all)))) (.lit (.lit (.lit (.all)))))))))))))))))) (.all)
noncomputable def sp1_t (s : List UInt8) (l : List Int) (o : List UInt8) (i : Int) : Tree Stop :=
   .node (decide (i < ((↑s.length : Int) : Int)))
 (.node (decide ((↑l.length : Int) > 0))
  (.req (!(↑l.length : Int) == 0) (.req (decide (0 ≤ i.tmod (↑l.length : Int)) && decide (i.tmod (↑l.length : Int) < (↑l.length : Int))) (.req (true) (.req (decide (0 ≤ i) && decide (i < ((↑s.length : Int) : Int))) (.node (((bt s i) : Int) == 32)
       (.node (kL l i == 1)
        (.req (decide (((o.length + 1 : Nat) : Int) ≤ (9223372036854775807 : Int))) (.leaf (Stop.at (loopOf Tryd.prog 22 0) 78 (slotsS 78 [(0, SV.str s), (1, SV.list (Ty.int IntKind.u8) l), (5, SV.str (o ++ [9])), (6, I64 (IntKind.i64.wrap (i + 1)))]) [])))
        (.req (decide (0 ≤ i) && decide (i < ((↑s.length : Int) : Int))) (.node (((bt s i) : Int) == 32)
          (.node (kL l i == 2)
           (.req (decide (((o.length + 3 : Nat) : Int) ≤ (9223372036854775807 : Int))) (.leaf (Stop.at (loopOf Tryd.prog 22 0) 78 (slotsS 78 [(0, SV.str s), (1, SV.list (Ty.int IntKind.u8) l), (5, SV.str (o ++ [32, 9, 32])), (6, I64 (IntKind.i64.wrap (i + 1)))]) [])))
           (.req (decide (0 ≤ i) && decide (i < ((↑s.length : Int) : Int))) (.node (((bt s i) : Int) == 10)
             (.node (kL l i == 1)
              (.req (decide (((o.length + 2 : Nat) : Int) ≤ (9223372036854775807 : Int))) (.leaf (Stop.at (loopOf Tryd.prog 22 0) 78 (slotsS 78 [(0, SV.str s), (1, SV.list (Ty.int IntKind.u8) l), (5, SV.str (o ++ [10, 10])), (6, I64 (IntKind.i64.wrap (i + 1)))]) [])))
              (.req (decide (0 ≤ i) && decide (i < ((↑s.length : Int) : Int))) (.node (((bt s i) : Int) == 10)
                (.node (kL l i == 2)
                 (.req (decide (((o.length + 5 : Nat) : Int) ≤ (9223372036854775807 : Int))) (.leaf (Stop.at (loopOf Tryd.prog 22 0) 78 (slotsS 78 [(0, SV.str s), (1, SV.list (Ty.int IntKind.u8) l), (5, SV.str (o ++ [32, 10, 9, 10, 32])), (6, I64 (IntKind.i64.wrap (i + 1)))]) [])))
                 (.req (decide (0 ≤ IntKind.i64.wrap (i + 1)) && decide (IntKind.i64.wrap (i + 1) ≤ ((↑s.length : Int) : Int)) && decide (0 ≤ i) && decide (i ≤ IntKind.i64.wrap (i + 1))) (.req (decide (((o.length + (List.drop i.toNat (List.take (IntKind.i64.wrap (i + 1)).toNat s)).length : Nat) : Int) ≤ (9223372036854775807 : Int))) (.leaf (Stop.at (loopOf Tryd.prog 22 0) 78 (slotsS 78 [(0, SV.str s), (1, SV.list (Ty.int IntKind.u8) l), (5, SV.str (o ++ List.drop i.toNat (List.take (IntKind.i64.wrap (i + 1)).toNat s))), (6, I64 (IntKind.i64.wrap (i + 1)))]) [])))))
                (.req (decide (0 ≤ IntKind.i64.wrap (i + 1)) && decide (IntKind.i64.wrap (i + 1) ≤ ((↑s.length : Int) : Int)) && decide (0 ≤ i) && decide (i ≤ IntKind.i64.wrap (i + 1))) (.req (decide (((o.length + (List.drop i.toNat (List.take (IntKind.i64.wrap (i + 1)).toNat s)).length : Nat) : Int) ≤ (9223372036854775807 : Int))) (.leaf (Stop.at (loopOf Tryd.prog 22 0) 78 (slotsS 78 [(0, SV.str s), (1, SV.list (Ty.int IntKind.u8) l), (5, SV.str (o ++ List.drop i.toNat (List.take (IntKind.i64.wrap (i + 1)).toNat s))), (6, I64 (IntKind.i64.wrap (i + 1)))]) [])))))))
             (.req (decide (0 ≤ i) && decide (i < ((↑s.length : Int) : Int))) (.node (((bt s i) : Int) == 10)
               (.node (kL l i == 2)
                (.req (decide (((o.length + 5 : Nat) : Int) ≤ (9223372036854775807 : Int))) (.leaf (Stop.at (loopOf Tryd.prog 22 0) 78 (slotsS 78 [(0, SV.str s), (1, SV.list (Ty.int IntKind.u8) l), (5, SV.str (o ++ [32, 10, 9, 10, 32])), (6, I64 (IntKind.i64.wrap (i + 1)))]) [])))
                (.req (decide (0 ≤ IntKind.i64.wrap (i + 1)) && decide (IntKind.i64.wrap (i + 1) ≤ ((↑s.length : Int) : Int)) && decide (0 ≤ i) && decide (i ≤ IntKind.i64.wrap (i + 1))) (.req (decide (((o.length + (List.drop i.toNat (List.take (IntKind.i64.wrap (i + 1)).toNat s)).length : Nat) : Int) ≤ (9223372036854775807 : Int))) (.leaf (Stop.at (loopOf Tryd.prog 22 0) 78 (slotsS 78 [(0, SV.str s), (1, SV.list (Ty.int IntKind.u8) l), (5, SV.str (o ++ List.drop i.toNat (List.take (IntKind.i64.wrap (i + 1)).toNat s))), (6, I64 (IntKind.i64.wrap (i + 1)))]) [])))))
               (.req (decide (0 ≤ IntKind.i64.wrap (i + 1)) && decide (IntKind.i64.wrap (i + 1) ≤ ((↑s.length : Int) : Int)) && decide (0 ≤ i) && decide (i ≤ IntKind.i64.wrap (i + 1))) (.req (decide (((o.length + (List.drop i.toNat (List.take (IntKind.i64.wrap (i + 1)).toNat s)).length : Nat) : Int) ≤ (9223372036854775807 : Int))) (.leaf (Stop.at (loopOf Tryd.prog 22 0) 78 (slotsS 78 [(0, SV.str s), (1, SV.list (Ty.int IntKind.u8) l), (5, SV.str (o ++ List.drop i.toNat (List.take (IntKind.i64.wrap (i + 1)).toNat s))), (6, I64 (IntKind.i64.wrap (i + 1)))]) [])))))))))
          (.req (decide (0 ≤ i) && decide (i < ((↑s.length : Int) : Int))) (.node (((bt s i) : Int) == 10)
            (.node (kL l i == 1)
             (.req (decide (((o.length + 2 : Nat) : Int) ≤ (9223372036854775807 : Int))) (.leaf (Stop.at (loopOf Tryd.prog 22 0) 78 (slotsS 78 [(0, SV.str s), (1, SV.list (Ty.int IntKind.u8) l), (5, SV.str (o ++ [10, 10])), (6, I64 (IntKind.i64.wrap (i + 1)))]) [])))
             (.req (decide (0 ≤ i) && decide (i < ((↑s.length : Int) : Int))) (.node (((bt s i) : Int) == 10)
               (.node (kL l i == 2)
                (.req (decide (((o.length + 5 : Nat) : Int) ≤ (9223372036854775807 : Int))) (.leaf (Stop.at (loopOf Tryd.prog 22 0) 78 (slotsS 78 [(0, SV.str s), (1, SV.list (Ty.int IntKind.u8) l), (5, SV.str (o ++ [32, 10, 9, 10, 32])), (6, I64 (IntKind.i64.wrap (i + 1)))]) [])))
                (.req (decide (0 ≤ IntKind.i64.wrap (i + 1)) && decide (IntKind.i64.wrap (i + 1) ≤ ((↑s.length : Int) : Int)) && decide (0 ≤ i) && decide (i ≤ IntKind.i64.wrap (i + 1))) (.req (decide (((o.length + (List.drop i.toNat (List.take (IntKind.i64.wrap (i + 1)).toNat s)).length : Nat) : Int) ≤ (9223372036854775807 : Int))) (.leaf (Stop.at (loopOf Tryd.prog 22 0) 78 (slotsS 78 [(0, SV.str s), (1, SV.list (Ty.int IntKind.u8) l), (5, SV.str (o ++ List.drop i.toNat (List.take (IntKind.i64.wrap (i + 1)).toNat s))), (6, I64 (IntKind.i64.wrap (i + 1)))]) [])))))
               (.req (decide (0 ≤ IntKind.i64.wrap (i + 1)) && decide (IntKind.i64.wrap (i + 1) ≤ ((↑s.length : Int) : Int)) && decide (0 ≤ i) && decide (i ≤ IntKind.i64.wrap (i + 1))) (.req (decide (((o.length + (List.drop i.toNat (List.take (IntKind.i64.wrap (i + 1)).toNat s)).length : Nat) : Int) ≤ (9223372036854775807 : Int))) (.leaf (Stop.at (loopOf Tryd.prog 22 0) 78 (slotsS 78 [(0, SV.str s), (1, SV.list (Ty.int IntKind.u8) l), (5, SV.str (o ++ List.drop i.toNat (List.take (IntKind.i64.wrap (i + 1)).toNat s))), (6, I64 (IntKind.i64.wrap (i + 1)))]) [])))))))
            (.req (decide (0 ≤ i) && decide (i < ((↑s.length : Int) : Int))) (.node (((bt s i) : Int) == 10)
              (.node (kL l i == 2)
               (.req (decide (((o.length + 5 : Nat) : Int) ≤ (9223372036854775807 : Int))) (.leaf (Stop.at (loopOf Tryd.prog 22 0) 78 (slotsS 78 [(0, SV.str s), (1, SV.list (Ty.int IntKind.u8) l), (5, SV.str (o ++ [32, 10, 9, 10, 32])), (6, I64 (IntKind.i64.wrap (i + 1)))]) [])))
               (.req (decide (0 ≤ IntKind.i64.wrap (i + 1)) && decide (IntKind.i64.wrap (i + 1) ≤ ((↑s.length : Int) : Int)) && decide (0 ≤ i) && decide (i ≤ IntKind.i64.wrap (i + 1))) (.req (decide (((o.length + (List.drop i.toNat (List.take (IntKind.i64.wrap (i + 1)).toNat s)).length : Nat) : Int) ≤ (9223372036854775807 : Int))) (.leaf (Stop.at (loopOf Tryd.prog 22 0) 78 (slotsS 78 [(0, SV.str s), (1, SV.list (Ty.int IntKind.u8) l), (5, SV.str (o ++ List.drop i.toNat (List.take (IntKind.i64.wrap (i + 1)).toNat s))), (6, I64 (IntKind.i64.wrap (i + 1)))]) [])))))
              (.req (decide (0 ≤ IntKind.i64.wrap (i + 1)) && decide (IntKind.i64.wrap (i + 1) ≤ ((↑s.length : Int) : Int)) && decide (0 ≤ i) && decide (i ≤ IntKind.i64.wrap (i + 1))) (.req (decide (((o.length + (List.drop i.toNat (List.take (IntKind.i64.wrap (i + 1)).toNat s)).length : Nat) : Int) ≤ (9223372036854775807 : Int))) (.leaf (Stop.at (loopOf Tryd.prog 22 0) 78 (slotsS 78 [(0, SV.str s), (1, SV.list (Ty.int IntKind.u8) l), (5, SV.str (o ++ List.drop i.toNat (List.take (IntKind.i64.wrap (i + 1)).toNat s))), (6, I64 (IntKind.i64.wrap (i + 1)))]) [])))))))))))
       (.req (decide (0 ≤ i) && decide (i < ((↑s.length : Int) : Int))) (.node (((bt s i) : Int) == 32)
         (.node (kL l i == 2)
          (.req (decide (((o.length + 3 : Nat) : Int) ≤ (9223372036854775807 : Int))) (.leaf (Stop.at (loopOf Tryd.prog 22 0) 78 (slotsS 78 [(0, SV.str s), (1, SV.list (Ty.int IntKind.u8) l), (5, SV.str (o ++ [32, 9, 32])), (6, I64 (IntKind.i64.wrap (i + 1)))]) [])))
          (.req (decide (0 ≤ i) && decide (i < ((↑s.length : Int) : Int))) (.node (((bt s i) : Int) == 10)
            (.node (kL l i == 1)
             (.req (decide (((o.length + 2 : Nat) : Int) ≤ (9223372036854775807 : Int))) (.leaf (Stop.at (loopOf Tryd.prog 22 0) 78 (slotsS 78 [(0, SV.str s), (1, SV.list (Ty.int IntKind.u8) l), (5, SV.str (o ++ [10, 10])), (6, I64 (IntKind.i64.wrap (i + 1)))]) [])))
             (.req (decide (0 ≤ i) && decide (i < ((↑s.length : Int) : Int))) (.node (((bt s i) : Int) == 10)
               (.node (kL l i == 2)
                (.req (decide (((o.length + 5 : Nat) : Int) ≤ (9223372036854775807 : Int))) (.leaf (Stop.at (loopOf Tryd.prog 22 0) 78 (slotsS 78 [(0, SV.str s), (1, SV.list (Ty.int IntKind.u8) l), (5, SV.str (o ++ [32, 10, 9, 10, 32])), (6, I64 (IntKind.i64.wrap (i + 1)))]) [])))
                (.req (decide (0 ≤ IntKind.i64.wrap (i + 1)) && decide (IntKind.i64.wrap (i + 1) ≤ ((↑s.length : Int) : Int)) && decide (0 ≤ i) && decide (i ≤ IntKind.i64.wrap (i + 1))) (.req (decide (((o.length + (List.drop i.toNat (List.take (IntKind.i64.wrap (i + 1)).toNat s)).length : Nat) : Int) ≤ (9223372036854775807 : Int))) (.leaf (Stop.at (loopOf Tryd.prog 22 0) 78 (slotsS 78 [(0, SV.str s), (1, SV.list (Ty.int IntKind.u8) l), (5, SV.str (o ++ List.drop i.toNat (List.take (IntKind.i64.wrap (i + 1)).toNat s))), (6, I64 (IntKind.i64.wrap (i + 1)))]) [])))))
               (.req (decide (0 ≤ IntKind.i64.wrap (i + 1)) && decide (IntKind.i64.wrap (i + 1) ≤ ((↑s.length : Int) : Int)) && decide (0 ≤ i) && decide (i ≤ IntKind.i64.wrap (i + 1))) (.req (decide (((o.length + (List.drop i.toNat (List.take (IntKind.i64.wrap (i + 1)).toNat s)).length : Nat) : Int) ≤ (9223372036854775807 : Int))) (.leaf (Stop.at (loopOf Tryd.prog 22 0) 78 (slotsS 78 [(0, SV.str s), (1, SV.list (Ty.int IntKind.u8) l), (5, SV.str (o ++ List.drop i.toNat (List.take (IntKind.i64.wrap (i + 1)).toNat s))), (6, I64 (IntKind.i64.wrap (i + 1)))]) [])))))))
            (.req (decide (0 ≤ i) && decide (i < ((↑s.length : Int) : Int))) (.node (((bt s i) : Int) == 10)
              (.node (kL l i == 2)
               (.req (decide (((o.length + 5 : Nat) : Int) ≤ (9223372036854775807 : Int))) (.leaf (Stop.at (loopOf Tryd.prog 22 0) 78 (slotsS 78 [(0, SV.str s), (1, SV.list (Ty.int IntKind.u8) l), (5, SV.str (o ++ [32, 10, 9, 10, 32])), (6, I64 (IntKind.i64.wrap (i + 1)))]) [])))
               (.req (decide (0 ≤ IntKind.i64.wrap (i + 1)) && decide (IntKind.i64.wrap (i + 1) ≤ ((↑s.length : Int) : Int)) && decide (0 ≤ i) && decide (i ≤ IntKind.i64.wrap (i + 1))) (.req (decide (((o.length + (List.drop i.toNat (List.take (IntKind.i64.wrap (i + 1)).toNat s)).length : Nat) : Int) ≤ (9223372036854775807 : Int))) (.leaf (Stop.at (loopOf Tryd.prog 22 0) 78 (slotsS 78 [(0, SV.str s), (1, SV.list (Ty.int IntKind.u8) l), (5, SV.str (o ++ List.drop i.toNat (List.take (IntKind.i64.wrap (i + 1)).toNat s))), (6, I64 (IntKind.i64.wrap (i + 1)))]) [])))))
              (.req (decide (0 ≤ IntKind.i64.wrap (i + 1)) && decide (IntKind.i64.wrap (i + 1) ≤ ((↑s.length : Int) : Int)) && decide (0 ≤ i) && decide (i ≤ IntKind.i64.wrap (i + 1))) (.req (decide (((o.length + (List.drop i.toNat (List.take (IntKind.i64.wrap (i + 1)).toNat s)).length : Nat) : Int) ≤ (9223372036854775807 : Int))) (.leaf (Stop.at (loopOf Tryd.prog 22 0) 78 (slotsS 78 [(0, SV.str s), (1, SV.list (Ty.int IntKind.u8) l), (5, SV.str (o ++ List.drop i.toNat (List.take (IntKind.i64.wrap (i + 1)).toNat s))), (6, I64 (IntKind.i64.wrap (i + 1)))]) [])))))))))
         (.req (decide (0 ≤ i) && decide (i < ((↑s.length : Int) : Int))) (.node (((bt s i) : Int) == 10)
           (.node (kL l i == 1)
            (.req (decide (((o.length + 2 : Nat) : Int) ≤ (9223372036854775807 : Int))) (.leaf (Stop.at (loopOf Tryd.prog 22 0) 78 (slotsS 78 [(0, SV.str s), (1, SV.list (Ty.int IntKind.u8) l), (5, SV.str (o ++ [10, 10])), (6, I64 (IntKind.i64.wrap (i + 1)))]) [])))
            (.req (decide (0 ≤ i) && decide (i < ((↑s.length : Int) : Int))) (.node (((bt s i) : Int) == 10)
              (.node (kL l i == 2)
               (.req (decide (((o.length + 5 : Nat) : Int) ≤ (9223372036854775807 : Int))) (.leaf (Stop.at (loopOf Tryd.prog 22 0) 78 (slotsS 78 [(0, SV.str s), (1, SV.list (Ty.int IntKind.u8) l), (5, SV.str (o ++ [32, 10, 9, 10, 32])), (6, I64 (IntKind.i64.wrap (i + 1)))]) [])))
               (.req (decide (0 ≤ IntKind.i64.wrap (i + 1)) && decide (IntKind.i64.wrap (i + 1) ≤ ((↑s.length : Int) : Int)) && decide (0 ≤ i) && decide (i ≤ IntKind.i64.wrap (i + 1))) (.req (decide (((o.length + (List.drop i.toNat (List.take (IntKind.i64.wrap (i + 1)).toNat s)).length : Nat) : Int) ≤ (9223372036854775807 : Int))) (.leaf (Stop.at (loopOf Tryd.prog 22 0) 78 (slotsS 78 [(0, SV.str s), (1, SV.list (Ty.int IntKind.u8) l), (5, SV.str (o ++ List.drop i.toNat (List.take (IntKind.i64.wrap (i + 1)).toNat s))), (6, I64 (IntKind.i64.wrap (i + 1)))]) [])))))
              (.req (decide (0 ≤ IntKind.i64.wrap (i + 1)) && decide (IntKind.i64.wrap (i + 1) ≤ ((↑s.length : Int) : Int)) && decide (0 ≤ i) && decide (i ≤ IntKind.i64.wrap (i + 1))) (.req (decide (((o.length + (List.drop i.toNat (List.take (IntKind.i64.wrap (i + 1)).toNat s)).length : Nat) : Int) ≤ (9223372036854775807 : Int))) (.leaf (Stop.at (loopOf Tryd.prog 22 0) 78 (slotsS 78 [(0, SV.str s), (1, SV.list (Ty.int IntKind.u8) l), (5, SV.str (o ++ List.drop i.toNat (List.take (IntKind.i64.wrap (i + 1)).toNat s))), (6, I64 (IntKind.i64.wrap (i + 1)))]) [])))))))
           (.req (decide (0 ≤ i) && decide (i < ((↑s.length : Int) : Int))) (.node (((bt s i) : Int) == 10)
             (.node (kL l i == 2)
              (.req (decide (((o.length + 5 : Nat) : Int) ≤ (9223372036854775807 : Int))) (.leaf (Stop.at (loopOf Tryd.prog 22 0) 78 (slotsS 78 [(0, SV.str s), (1, SV.list (Ty.int IntKind.u8) l), (5, SV.str (o ++ [32, 10, 9, 10, 32])), (6, I64 (IntKind.i64.wrap (i + 1)))]) [])))
              (.req (decide (0 ≤ IntKind.i64.wrap (i + 1)) && decide (IntKind.i64.wrap (i + 1) ≤ ((↑s.length : Int) : Int)) && decide (0 ≤ i) && decide (i ≤ IntKind.i64.wrap (i + 1))) (.req (decide (((o.length + (List.drop i.toNat (List.take (IntKind.i64.wrap (i + 1)).toNat s)).length : Nat) : Int) ≤ (9223372036854775807 : Int))) (.leaf (Stop.at (loopOf Tryd.prog 22 0) 78 (slotsS 78 [(0, SV.str s), (1, SV.list (Ty.int IntKind.u8) l), (5, SV.str (o ++ List.drop i.toNat (List.take (IntKind.i64.wrap (i + 1)).toNat s))), (6, I64 (IntKind.i64.wrap (i + 1)))]) [])))))
             (.req (decide (0 ≤ IntKind.i64.wrap (i + 1)) && decide (IntKind.i64.wrap (i + 1) ≤ ((↑s.length : Int) : Int)) && decide (0 ≤ i) && decide (i ≤ IntKind.i64.wrap (i + 1))) (.req (decide (((o.length + (List.drop i.toNat (List.take (IntKind.i64.wrap (i + 1)).toNat s)).length : Nat) : Int) ≤ (9223372036854775807 : Int))) (.leaf (Stop.at (loopOf Tryd.prog 22 0) 78 (slotsS 78 [(0, SV.str s), (1, SV.list (Ty.int IntKind.u8) l), (5, SV.str (o ++ List.drop i.toNat (List.take (IntKind.i64.wrap (i + 1)).toNat s))), (6, I64 (IntKind.i64.wrap (i + 1)))]) [])))))))))))))))
  (.req (decide (0 ≤ i) && decide (i < ((↑s.length : Int) : Int))) (.node (((bt s i) : Int) == 32)
    (.req (decide (0 ≤ i) && decide (i < ((↑s.length : Int) : Int))) (.node (((bt s i) : Int) == 32)
      (.req (decide (0 ≤ i) && decide (i < ((↑s.length : Int) : Int))) (.node (((bt s i) : Int) == 10)
        (.req (decide (0 ≤ i) && decide (i < ((↑s.length : Int) : Int))) (.node (((bt s i) : Int) == 10)
          (.req (decide (0 ≤ IntKind.i64.wrap (i + 1)) && decide (IntKind.i64.wrap (i + 1) ≤ ((↑s.length : Int) : Int)) && decide (0 ≤ i) && decide (i ≤ IntKind.i64.wrap (i + 1))) (.req (decide (((o.length + (List.drop i.toNat (List.take (IntKind.i64.wrap (i + 1)).toNat s)).length : Nat) : Int) ≤ (9223372036854775807 : Int))) (.leaf (Stop.at (loopOf Tryd.prog 22 0) 78 (slotsS 78 [(0, SV.str s), (1, SV.list (Ty.int IntKind.u8) l), (5, SV.str (o ++ List.drop i.toNat (List.take (IntKind.i64.wrap (i + 1)).toNat s))), (6, I64 (IntKind.i64.wrap (i + 1)))]) []))))
          (.req (decide (0 ≤ IntKind.i64.wrap (i + 1)) && decide (IntKind.i64.wrap (i + 1) ≤ ((↑s.length : Int) : Int)) && decide (0 ≤ i) && decide (i ≤ IntKind.i64.wrap (i + 1))) (.req (decide (((o.length + (List.drop i.toNat (List.take (IntKind.i64.wrap (i + 1)).toNat s)).length : Nat) : Int) ≤ (9223372036854775807 : Int))) (.leaf (Stop.at (loopOf Tryd.prog 22 0) 78 (slotsS 78 [(0, SV.str s), (1, SV.list (Ty.int IntKind.u8) l), (5, SV.str (o ++ List.drop i.toNat (List.take (IntKind.i64.wrap (i + 1)).toNat s))), (6, I64 (IntKind.i64.wrap (i + 1)))]) []))))))
        (.req (decide (0 ≤ i) && decide (i < ((↑s.length : Int) : Int))) (.node (((bt s i) : Int) == 10)
          (.req (decide (0 ≤ IntKind.i64.wrap (i + 1)) && decide (IntKind.i64.wrap (i + 1) ≤ ((↑s.length : Int) : Int)) && decide (0 ≤ i) && decide (i ≤ IntKind.i64.wrap (i + 1))) (.req (decide (((o.length + (List.drop i.toNat (List.take (IntKind.i64.wrap (i + 1)).toNat s)).length : Nat) : Int) ≤ (9223372036854775807 : Int))) (.leaf (Stop.at (loopOf Tryd.prog 22 0) 78 (slotsS 78 [(0, SV.str s), (1, SV.list (Ty.int IntKind.u8) l), (5, SV.str (o ++ List.drop i.toNat (List.take (IntKind.i64.wrap (i + 1)).toNat s))), (6, I64 (IntKind.i64.wrap (i + 1)))]) []))))
          (.req (decide (0 ≤ IntKind.i64.wrap (i + 1)) && decide (IntKind.i64.wrap (i + 1) ≤ ((↑s.length : Int) : Int)) && decide (0 ≤ i) && decide (i ≤ IntKind.i64.wrap (i + 1))) (.req (decide (((o.length + (List.drop i.toNat (List.take (IntKind.i64.wrap (i + 1)).toNat s)).length : Nat) : Int) ≤ (9223372036854775807 : Int))) (.leaf (Stop.at (loopOf Tryd.prog 22 0) 78 (slotsS 78 [(0, SV.str s), (1, SV.list (Ty.int IntKind.u8) l), (5, SV.str (o ++ List.drop i.toNat (List.take (IntKind.i64.wrap (i + 1)).toNat s))), (6, I64 (IntKind.i64.wrap (i + 1)))]) []))))))))
      (.req (decide (0 ≤ i) && decide (i < ((↑s.length : Int) : Int))) (.node (((bt s i) : Int) == 10)
        (.req (decide (0 ≤ i) && decide (i < ((↑s.length : Int) : Int))) (.node (((bt s i) : Int) == 10)
          (.req (decide (0 ≤ IntKind.i64.wrap (i + 1)) && decide (IntKind.i64.wrap (i + 1) ≤ ((↑s.length : Int) : Int)) && decide (0 ≤ i) && decide (i ≤ IntKind.i64.wrap (i + 1))) (.req (decide (((o.length + (List.drop i.toNat (List.take (IntKind.i64.wrap (i + 1)).toNat s)).length : Nat) : Int) ≤ (9223372036854775807 : Int))) (.leaf (Stop.at (loopOf Tryd.prog 22 0) 78 (slotsS 78 [(0, SV.str s), (1, SV.list (Ty.int IntKind.u8) l), (5, SV.str (o ++ List.drop i.toNat (List.take (IntKind.i64.wrap (i + 1)).toNat s))), (6, I64 (IntKind.i64.wrap (i + 1)))]) []))))
          (.req (decide (0 ≤ IntKind.i64.wrap (i + 1)) && decide (IntKind.i64.wrap (i + 1) ≤ ((↑s.length : Int) : Int)) && decide (0 ≤ i) && decide (i ≤ IntKind.i64.wrap (i + 1))) (.req (decide (((o.length + (List.drop i.toNat (List.take (IntKind.i64.wrap (i + 1)).toNat s)).length : Nat) : Int) ≤ (9223372036854775807 : Int))) (.leaf (Stop.at (loopOf Tryd.prog 22 0) 78 (slotsS 78 [(0, SV.str s), (1, SV.list (Ty.int IntKind.u8) l), (5, SV.str (o ++ List.drop i.toNat (List.take (IntKind.i64.wrap (i + 1)).toNat s))), (6, I64 (IntKind.i64.wrap (i + 1)))]) []))))))
        (.req (decide (0 ≤ i) && decide (i < ((↑s.length : Int) : Int))) (.node (((bt s i) : Int) == 10)
          (.req (decide (0 ≤ IntKind.i64.wrap (i + 1)) && decide (IntKind.i64.wrap (i + 1) ≤ ((↑s.length : Int) : Int)) && decide (0 ≤ i) && decide (i ≤ IntKind.i64.wrap (i + 1))) (.req (decide (((o.length + (List.drop i.toNat (List.take (IntKind.i64.wrap (i + 1)).toNat s)).length : Nat) : Int) ≤ (9223372036854775807 : Int))) (.leaf (Stop.at (loopOf Tryd.prog 22 0) 78 (slotsS 78 [(0, SV.str s), (1, SV.list (Ty.int IntKind.u8) l), (5, SV.str (o ++ List.drop i.toNat (List.take (IntKind.i64.wrap (i + 1)).toNat s))), (6, I64 (IntKind.i64.wrap (i + 1)))]) []))))
          (.req (decide (0 ≤ IntKind.i64.wrap (i + 1)) && decide (IntKind.i64.wrap (i + 1) ≤ ((↑s.length : Int) : Int)) && decide (0 ≤ i) && decide (i ≤ IntKind.i64.wrap (i + 1))) (.req (decide (((o.length + (List.drop i.toNat (List.take (IntKind.i64.wrap (i + 1)).toNat s)).length : Nat) : Int) ≤ (9223372036854775807 : Int))) (.leaf (Stop.at (loopOf Tryd.prog 22 0) 78 (slotsS 78 [(0, SV.str s), (1, SV.list (Ty.int IntKind.u8) l), (5, SV.str (o ++ List.drop i.toNat (List.take (IntKind.i64.wrap (i + 1)).toNat s))), (6, I64 (IntKind.i64.wrap (i + 1)))]) []))))))))))
    (.req (decide (0 ≤ i) && decide (i < ((↑s.length : Int) : Int))) (.node (((bt s i) : Int) == 32)
      (.req (decide (0 ≤ i) && decide (i < ((↑s.length : Int) : Int))) (.node (((bt s i) : Int) == 10)
        (.req (decide (0 ≤ i) && decide (i < ((↑s.length : Int) : Int))) (.node (((bt s i) : Int) == 10)
          (.req (decide (0 ≤ IntKind.i64.wrap (i + 1)) && decide (IntKind.i64.wrap (i + 1) ≤ ((↑s.length : Int) : Int)) && decide (0 ≤ i) && decide (i ≤ IntKind.i64.wrap (i + 1))) (.req (decide (((o.length + (List.drop i.toNat (List.take (IntKind.i64.wrap (i + 1)).toNat s)).length : Nat) : Int) ≤ (9223372036854775807 : Int))) (.leaf (Stop.at (loopOf Tryd.prog 22 0) 78 (slotsS 78 [(0, SV.str s), (1, SV.list (Ty.int IntKind.u8) l), (5, SV.str (o ++ List.drop i.toNat (List.take (IntKind.i64.wrap (i + 1)).toNat s))), (6, I64 (IntKind.i64.wrap (i + 1)))]) []))))
          (.req (decide (0 ≤ IntKind.i64.wrap (i + 1)) && decide (IntKind.i64.wrap (i + 1) ≤ ((↑s.length : Int) : Int)) && decide (0 ≤ i) && decide (i ≤ IntKind.i64.wrap (i + 1))) (.req (decide (((o.length + (List.drop i.toNat (List.take (IntKind.i64.wrap (i + 1)).toNat s)).length : Nat) : Int) ≤ (9223372036854775807 : Int))) (.leaf (Stop.at (loopOf Tryd.prog 22 0) 78 (slotsS 78 [(0, SV.str s), (1, SV.list (Ty.int IntKind.u8) l), (5, SV.str (o ++ List.drop i.toNat (List.take (IntKind.i64.wrap (i + 1)).toNat s))), (6, I64 (IntKind.i64.wrap (i + 1)))]) []))))))
        (.req (decide (0 ≤ i) && decide (i < ((↑s.length : Int) : Int))) (.node (((bt s i) : Int) == 10)
          (.req (decide (0 ≤ IntKind.i64.wrap (i + 1)) && decide (IntKind.i64.wrap (i + 1) ≤ ((↑s.length : Int) : Int)) && decide (0 ≤ i) && decide (i ≤ IntKind.i64.wrap (i + 1))) (.req (decide (((o.length + (List.drop i.toNat (List.take (IntKind.i64.wrap (i + 1)).toNat s)).length : Nat) : Int) ≤ (9223372036854775807 : Int))) (.leaf (Stop.at (loopOf Tryd.prog 22 0) 78 (slotsS 78 [(0, SV.str s), (1, SV.list (Ty.int IntKind.u8) l), (5, SV.str (o ++ List.drop i.toNat (List.take (IntKind.i64.wrap (i + 1)).toNat s))), (6, I64 (IntKind.i64.wrap (i + 1)))]) []))))
          (.req (decide (0 ≤ IntKind.i64.wrap (i + 1)) && decide (IntKind.i64.wrap (i + 1) ≤ ((↑s.length : Int) : Int)) && decide (0 ≤ i) && decide (i ≤ IntKind.i64.wrap (i + 1))) (.req (decide (((o.length + (List.drop i.toNat (List.take (IntKind.i64.wrap (i + 1)).toNat s)).length : Nat) : Int) ≤ (9223372036854775807 : Int))) (.leaf (Stop.at (loopOf Tryd.prog 22 0) 78 (slotsS 78 [(0, SV.str s), (1, SV.list (Ty.int IntKind.u8) l), (5, SV.str (o ++ List.drop i.toNat (List.take (IntKind.i64.wrap (i + 1)).toNat s))), (6, I64 (IntKind.i64.wrap (i + 1)))]) []))))))))
      (.req (decide (0 ≤ i) && decide (i < ((↑s.length : Int) : Int))) (.node (((bt s i) : Int) == 10)
        (.req (decide (0 ≤ i) && decide (i < ((↑s.length : Int) : Int))) (.node (((bt s i) : Int) == 10)
          (.req (decide (0 ≤ IntKind.i64.wrap (i + 1)) && decide (IntKind.i64.wrap (i + 1) ≤ ((↑s.length : Int) : Int)) && decide (0 ≤ i) && decide (i ≤ IntKind.i64.wrap (i + 1))) (.req (decide (((o.length + (List.drop i.toNat (List.take (IntKind.i64.wrap (i + 1)).toNat s)).length : Nat) : Int) ≤ (9223372036854775807 : Int))) (.leaf (Stop.at (loopOf Tryd.prog 22 0) 78 (slotsS 78 [(0, SV.str s), (1, SV.list (Ty.int IntKind.u8) l), (5, SV.str (o ++ List.drop i.toNat (List.take (IntKind.i64.wrap (i + 1)).toNat s))), (6, I64 (IntKind.i64.wrap (i + 1)))]) []))))
          (.req (decide (0 ≤ IntKind.i64.wrap (i + 1)) && decide (IntKind.i64.wrap (i + 1) ≤ ((↑s.length : Int) : Int)) && decide (0 ≤ i) && decide (i ≤ IntKind.i64.wrap (i + 1))) (.req (decide (((o.length + (List.drop i.toNat (List.take (IntKind.i64.wrap (i + 1)).toNat s)).length : Nat) : Int) ≤ (9223372036854775807 : Int))) (.leaf (Stop.at (loopOf Tryd.prog 22 0) 78 (slotsS 78 [(0, SV.str s), (1, SV.list (Ty.int IntKind.u8) l), (5, SV.str (o ++ List.drop i.toNat (List.take (IntKind.i64.wrap (i + 1)).toNat s))), (6, I64 (IntKind.i64.wrap (i + 1)))]) []))))))
        (.req (decide (0 ≤ i) && decide (i < ((↑s.length : Int) : Int))) (.node (((bt s i) : Int) == 10)
          (.req (decide (0 ≤ IntKind.i64.wrap (i + 1)) && decide (IntKind.i64.wrap (i + 1) ≤ ((↑s.length : Int) : Int)) && decide (0 ≤ i) && decide (i ≤ IntKind.i64.wrap (i + 1))) (.req (decide (((o.length + (List.drop i.toNat (List.take (IntKind.i64.wrap (i + 1)).toNat s)).length : Nat) : Int) ≤ (9223372036854775807 : Int))) (.leaf (Stop.at (loopOf Tryd.prog 22 0) 78 (slotsS 78 [(0, SV.str s), (1, SV.list (Ty.int IntKind.u8) l), (5, SV.str (o ++ List.drop i.toNat (List.take (IntKind.i64.wrap (i + 1)).toNat s))), (6, I64 (IntKind.i64.wrap (i + 1)))]) []))))
          (.req (decide (0 ≤ IntKind.i64.wrap (i + 1)) && decide (IntKind.i64.wrap (i + 1) ≤ ((↑s.length : Int) : Int)) && decide (0 ≤ i) && decide (i ≤ IntKind.i64.wrap (i + 1))) (.req (decide (((o.length + (List.drop i.toNat (List.take (IntKind.i64.wrap (i + 1)).toNat s)).length : Nat) : Int) ≤ (9223372036854775807 : Int))) (.leaf (Stop.at (loopOf Tryd.prog 22 0) 78 (slotsS 78 [(0, SV.str s), (1, SV.list (Ty.int IntKind.u8) l), (5, SV.str (o ++ List.drop i.toNat (List.take (IntKind.i64.wrap (i + 1)).toNat s))), (6, I64 (IntKind.i64.wrap (i + 1)))]) [])))))))))))))
 (.leaf (Stop.done (SV.str o)))
theorem sp1 (s : List UInt8) (l : List Int) (o : List UInt8) (i : Int) : segR (Env.of Tryd.prog (sumOf [])) 1000 (fnOf Tryd.prog 22) .unit (keepS 78 [0,1,5,6]) (loopOf Tryd.prog 22 0) sp1_p (slotsS 78 [(0, .str s), (1, .list (.int .u8) l), (5, .str o), (6, I64 i)]) [] = sp1_t s l o i := by kernel_rfl
end Go.Proofs.YtlhkgeoahblffaaDoor
set_option linter.unusedSimpArgs false
set_option linter.unusedVariables false
set_option maxRecDepth 100000
namespace Go.Proofs.YtlhkgeoahblffaaDoor
open Go.Sx

/-! ### spaced -/

def pc (b b10 k1 k2 : Bool) (x : UInt8) : List UInt8 := match b && k1 with
  | true => [9]
  | false => match b && k2 with
    | true => [32, 9, 32]
    | false => match b10 && k1 with
      | true => [10, 10]
      | false => match b10 && k2 with
        | true => [32, 10, 9, 10, 32]
        | false => [x]
def piece (x : UInt8) (k : Int) : List UInt8 := pc (x == 32) (x == 10) (k == 1) (k == 2) x
def kOf (l : List Int) (i : Nat) : Int := if 0 < l.length then kL l (i : Int) else 0
def spc (l : List Int) : List UInt8 → Nat → List UInt8
  | [], _ => []
  | x :: t, i => piece x (kOf l i) ++ spc l t (i + 1)
theorem pc_len (b b10 k1 k2 : Bool) (x : UInt8) : (pc b b10 k1 k2 x).length ≤ 5 := by
  cases b <;> cases b10 <;> cases k1 <;> cases k2 <;> exact Nat.le_of_ble_eq_true rfl
theorem bt32 {s : List UInt8} {i : Nat} (h : i < s.length) : (bt s (i : Int) == 32) = (s[i] == 32) := by
  rw [bt_at h, Bool.eq_iff_iff, beq_iff_eq, beq_iff_eq]; exact is32
theorem bt10 {s : List UInt8} {i : Nat} (h : i < s.length) : (bt s (i : Int) == 10) = (s[i] == 10) := by
  rw [bt_at h, Bool.eq_iff_iff, beq_iff_eq, beq_iff_eq]; exact is10
theorem one_at {s : List UInt8} {i : Nat} (h : i < s.length) : List.drop ((i : Int)).toNat (List.take (((i + 1 : Nat) : Int)).toNat s) = [s[i]] := by
  rw [Int.toNat_natCast, Int.toNat_natCast, take_succ_drop (Nat.le_refl i) h]
  simp

abbrev RSp (s : List UInt8) (l : List Int) (r : List UInt8) (o : List UInt8) (i : Nat) : Prop := RunsR Tryd.prog (fnOf Tryd.prog 22) (.str r) (loopOf Tryd.prog 22 0) (slotsS 78 [(0, .str s), (1, .list (.int .u8) l), (5, .str o), (6, I64 (i : Int))]) []

set_option maxHeartbeats 4000000 in
theorem sp_loop (s : List UInt8) (l : List Int) (hs : s.length ≤ 10000) : ∀ (n i : Nat) (o : List UInt8), i + n = s.length → o.length ≤ 5 * i → RSp s l (o ++ spc l (s.drop i) i) o i
  | n, i, o, hi, ho => by
    refine runsR_seg kZ (n := 1000) (hint := .unit) (keep := keepS 78 [0,1,5,6]) (p := sp1_p) rfl ?_
    erw [sp1 s l o (i : Int)]
    unfold sp1_t
    match n, hi with
    | 0, hi =>
      have hi : i = s.length := hi
      refine ⟨fun h => absurd (of_decide_eq_true h) (by omega), fun _ => ?_⟩
      rw [List.drop_eq_nil_of_le (by omega), spc, List.append_nil]; rfl
    | n + 1, hi =>
      have hl : i < s.length := by omega
      have hd : s.drop i = s[i] :: s.drop (i + 1) := List.drop_eq_getElem_cons hl
      rw [hd, spc, ← List.append_assoc]
      have r1 : (decide ((0 : Int) ≤ (i : Int)) && decide ((i : Int) < (s.length : Int))) = true := by simp; omega
      have r2 : (decide ((0 : Int) ≤ ((i + 1 : Nat) : Int)) && decide (((i + 1 : Nat) : Int) ≤ (s.length : Int)) && decide ((0 : Int) ≤ (i : Int)) && decide ((i : Int) ≤ ((i + 1 : Nat) : Int))) = true := by simp; omega
      have q1 : decide (((o.length + 1 : Nat) : Int) ≤ (9223372036854775807 : Int)) = true := by simp; omega
      have q2 : decide (((o.length + 2 : Nat) : Int) ≤ (9223372036854775807 : Int)) = true := by simp; omega
      have q3 : decide (((o.length + 3 : Nat) : Int) ≤ (9223372036854775807 : Int)) = true := by simp; omega
      have q5 : decide (((o.length + 5 : Nat) : Int) ≤ (9223372036854775807 : Int)) = true := by simp; omega
      have hit : ∀ X, X = piece s[i] (kOf l i) → RSp s l (o ++ piece s[i] (kOf l i) ++ spc l (s.drop (i + 1)) (i + 1)) (o ++ X) (i + 1) := fun X hX => by
        subst hX
        refine sp_loop s l hs n (i + 1) _ (by omega) ?_
        have := pc_len (s[i] == 32) (s[i] == 10) (kOf l i == 1) (kOf l i == 2) s[i]
        rw [List.length_append]
        unfold piece; omega
      rw [wr1 (by omega), bt32 hl, bt10 hl, one_at hl, r1, r2, q1, q2, q3, q5]
      have hp : piece s[i] (kOf l i) = pc (s[i] == 32) (s[i] == 10) (kOf l i == 1) (kOf l i == 2) s[i] := rfl
      refine ⟨fun _ => ⟨fun h => ?_, fun h => ?_⟩, fun h => absurd (of_decide_eq_false h) (by omega)⟩
      · have h : 0 < l.length := by have := of_decide_eq_true h; omega
        have hk : kOf l i = kL l (i : Int) := by unfold kOf; rw [if_pos h]
        rw [hk] at hp hit ⊢
        have t1 : (!((l.length : Int) == 0)) = true := by rw [Bool.not_eq_true', beq_eq_false_iff_ne]; omega
        have t2 : (decide (0 ≤ (i : Int).tmod (l.length : Int)) && decide ((i : Int).tmod (l.length : Int) < (l.length : Int))) = true := by
          rw [Bool.and_eq_true, decide_eq_true_eq, decide_eq_true_eq]
          exact ⟨Int.tmod_nonneg (l.length : Int) (show (0 : Int) ≤ (i : Int) by omega), Int.tmod_lt_of_pos (i : Int) (show (0 : Int) < (l.length : Int) by omega)⟩
        rw [t1, t2]
        generalize (s[i] == 32) = c1 at *
        generalize (s[i] == 10) = c2 at *
        generalize (kL l (i : Int) == 1) = c3 at *
        generalize (kL l (i : Int) == 2) = c4 at *
        cases c1 <;> cases c2 <;> cases c3 <;> cases c4 <;>
          simp only [Tree.holds, true_and, forall_const, false_implies, implies_true, and_true, Bool.true_eq_false, Bool.false_eq_true, slotsS_len, List.length_singleton, q1] <;>
          exact hit _ hp.symm
      · have h : ¬ 0 < l.length := by have := of_decide_eq_false h; omega
        have hk : kOf l i = 0 := by unfold kOf; rw [if_neg h]
        rw [hk] at hp hit ⊢
        rw [show ((0 : Int) == 1) = false from rfl, show ((0 : Int) == 2) = false from rfl] at hp
        generalize (s[i] == 32) = c1 at *
        generalize (s[i] == 10) = c2 at *
        cases c1 <;> cases c2 <;>
          simp only [Tree.holds, true_and, forall_const, false_implies, implies_true, and_true, Bool.true_eq_false, Bool.false_eq_true, slotsS_len, List.length_singleton, q1] <;>
          exact hit _ hp.symm
def spaced (s : List UInt8) (l : List Int) : List UInt8 := spc l s 0
theorem s_spaced (s : List UInt8) (l : List Int) (hs : s.length ≤ 10000) : SCall Tryd.prog 22 [.str s, .list (.int .u8) l] (.str (spaced s l)) := by
  refine scallR_loops rfl rfl (by kernel_rfl) (runsR_seg kZ (n := 1000) (hint := .unit) (keep := keepS 78 [0,1,5,6]) (p := sp0_p) (boxes := []) rfl ?_)
  have e := sp0 s l
  unfold startS codeS at e
  erw [e]
  exact ⟨slotsS_len _ _, sp_loop s l hs s.length 0 [] (by omega) (by simp)⟩

/-! ### The lines of words, by one pass -/

/-- The words of the lines that have some: the word and the line that have been begun. -/
def fin1 (cur : List UInt8) (ln : List (List UInt8)) : List (List UInt8) := if cur = [] then ln else ln ++ [cur]
def fin2 (ln : List (List UInt8)) (rest : List (List (List UInt8))) : List (List (List UInt8)) := if ln = [] then rest else ln :: rest
def scan : List UInt8 → List (List UInt8) → List UInt8 → List (List (List UInt8))
  | cur, ln, [] => fin2 (fin1 cur ln) []
  | cur, ln, b :: t => if b = 10 then fin2 (fin1 cur ln) (scan [] [] t) else if blank b = true then scan [] (fin1 cur ln) t else scan (cur ++ [b]) ln t
theorem scan_line : ∀ (a : List UInt8) (cur : List UInt8) (ln : List (List UInt8)) (t : List UInt8), (10 : UInt8) ∉ a → scan cur ln (a ++ 10 :: t) = fin2 (ln ++ wsplit cur a) (scan [] [] t)
  | [], cur, ln, t, _ => by
    rw [List.nil_append, scan, if_pos rfl, wsplit]
    unfold fin1
    split <;> simp
  | b :: a, cur, ln, t, h => by
    rw [List.cons_append, scan, if_neg (fun e => h (by subst e; exact List.mem_cons_self)), wsplit]
    have ih := fun cur ln => scan_line a cur ln t (fun hm => h (List.mem_cons_of_mem _ hm))
    split
    · rw [ih]
      unfold fin1
      split <;> simp
    · rw [ih]
theorem scan_last : ∀ (a : List UInt8) (cur : List UInt8) (ln : List (List UInt8)), (10 : UInt8) ∉ a → scan cur ln a = fin2 (ln ++ wsplit cur a) []
  | [], cur, ln, _ => by
    rw [scan, wsplit]
    unfold fin1
    split <;> simp
  | b :: a, cur, ln, h => by
    rw [scan, if_neg (fun e => h (by subst e; exact List.mem_cons_self)), wsplit]
    have ih := fun cur ln => scan_last a cur ln (fun hm => h (List.mem_cons_of_mem _ hm))
    split
    · rw [ih]
      unfold fin1
      split <;> simp
    · rw [ih]
def wlines (l : List (List UInt8)) : List (List (List UInt8)) := match l with
  | [] => []
  | x :: l => fin2 (flds x) (wlines l)
theorem wlines_lns : ∀ (n : Nat) (s : List UInt8), s.length < n → wlines (lns s) = scan [] [] s
  | 0, s, h => absurd h (Nat.not_lt_zero _)
  | n + 1, s, h => by
    by_cases h0 : s = []
    · subst h0; rw [lns_nil]; rfl
    · by_cases h10 : (10 : UInt8) ∈ s
      · obtain ⟨a, b, rfl, ha⟩ := first10 s h10
        rw [lns_line ha, wlines, wlines_lns n b (by simp at h; omega), scan_line a [] [] b ha, flds_eq]
        rfl
      · obtain ⟨e1, e2⟩ := cut_miss h10
        rw [lns_cons h0, e1, e2, lns_nil, wlines, wlines, scan_last s [] [] h10, flds_eq]
        rfl
/-- The mesh alone, by the lines of words. -/
def rW : List (List (List UInt8)) → Nat → List T3 → List T3 → Option (List T3 × List T3)
  | [], t, us, ts => if t = 6 then some (us, ts) else none
  | w :: l, t, us, ts => match rstep t us ts w with
    | .err _ => none
    | .ok t' us' ts' => rW l t' us' ts'
def PR.mesh : PR → Option (List T3 × List T3)
  | .ok us ts => some (us, ts)
  | .err _ _ => none
theorem rL_rW : ∀ (l : List (List UInt8)) (k : Int) (t : Nat) (us ts : List T3), (rL l k t us ts).mesh = rW (wlines l) t us ts
  | [], k, t, us, ts => by
    rw [rL, wlines, rW]
    split <;> rfl
  | x :: l, k, t, us, ts => by
    rw [rL, wlines]
    unfold fin2
    by_cases h : (flds x).length = 0
    · rw [if_pos h, if_pos (List.length_eq_zero_iff.1 h)]
      exact rL_rW l (k + 1) t us ts
    · rw [if_neg h, if_neg (fun e => h (by rw [e]; rfl)), rW]
      cases rstep t us ts (flds x) with
      | err e => rfl
      | ok t' us' ts' => exact rL_rW l (k + 1) t' us' ts'

/-! ### Blanks and line feeds, replaced -/

theorem fin1_nil (ln : List (List UInt8)) : fin1 [] ln = ln := by unfold fin1; rw [if_pos rfl]
theorem fin2_nil (r : List (List (List UInt8))) : fin2 [] r = r := by unfold fin2; rw [if_pos rfl]
theorem scan_sp (cur : List UInt8) (ln : List (List UInt8)) (t : List UInt8) : scan cur ln (32 :: t) = scan [] (fin1 cur ln) t := by
  rw [scan, if_neg (by decide), if_pos (by decide)]
theorem scan_tab (cur : List UInt8) (ln : List (List UInt8)) (t : List UInt8) : scan cur ln (9 :: t) = scan [] (fin1 cur ln) t := by
  rw [scan, if_neg (by decide), if_pos (by decide)]
theorem scan_nl (cur : List UInt8) (ln : List (List UInt8)) (t : List UInt8) : scan cur ln (10 :: t) = fin2 (fin1 cur ln) (scan [] [] t) := by
  rw [scan, if_pos rfl]
theorem scan_piece (x : UInt8) (k : Int) (cur : List UInt8) (ln : List (List UInt8)) (t : List UInt8) : scan cur ln (piece x k ++ t) = scan cur ln (x :: t) := by
  unfold piece pc
  split
  · rename_i h
    rw [Bool.and_eq_true] at h
    rw [beq_iff_eq.1 h.1]
    show scan cur ln (9 :: t) = _
    simp only [scan_sp, scan_nl, scan_tab, fin1_nil, fin2_nil]
  · split
    · rename_i h
      rw [Bool.and_eq_true] at h
      rw [beq_iff_eq.1 h.1]
      show scan cur ln (32 :: 9 :: 32 :: t) = _
      simp only [scan_sp, scan_nl, scan_tab, fin1_nil, fin2_nil]
    · split
      · rename_i h
        rw [Bool.and_eq_true] at h
        rw [beq_iff_eq.1 h.1]
        show scan cur ln (10 :: 10 :: t) = _
        simp only [scan_sp, scan_nl, scan_tab, fin1_nil, fin2_nil]
      · split
        · rename_i h
          rw [Bool.and_eq_true] at h
          rw [beq_iff_eq.1 h.1]
          show scan cur ln (32 :: 10 :: 9 :: 10 :: 32 :: t) = _
          simp only [scan_sp, scan_nl, scan_tab, fin1_nil, fin2_nil]
        · rfl
theorem scan_spc (l : List Int) : ∀ (s : List UInt8) (i : Nat) (cur : List UInt8) (ln : List (List UInt8)), scan cur ln (spc l s i) = scan cur ln s
  | [], i, cur, ln => rfl
  | x :: s, i, cur, ln => by
    rw [spc, scan_piece, scan, scan, scan_spc l s, scan_spc l s, scan_spc l s]
theorem spc_len (l : List Int) : ∀ (s : List UInt8) (i : Nat), (spc l s i).length ≤ 5 * s.length
  | [], i => Nat.le_refl _
  | x :: s, i => by
    have a := pc_len (x == 32) (x == 10) (kOf l i == 1) (kOf l i == 2) x
    have b := spc_len l s (i + 1)
    rw [spc, List.length_append, List.length_cons]
    unfold piece; omega

theorem mRes_mesh {s : List UInt8} (hs : s.length ≤ 65536) : (mRes s).mesh = rW (scan [] [] s) 0 [] [] := by
  unfold mRes
  rw [if_neg (by omega), rL_rW, wlines_lns (s.length + 1) s (Nat.lt_succ_self _)]
theorem no_err0 : ∀ (l : List (List UInt8)) (k : Int) (t : Nat) (us ts : List T3) (k2 : Int), rL l k t us ts ≠ .err k2 0 := by
  intro l
  induction l with
  | nil => intro k t us ts k2 h; rw [rL] at h; split at h <;> cases h
  | cons x l ih =>
    intro k t us ts k2 h
    rw [rL] at h
    split at h
    · exact ih _ _ _ _ _ h
    · cases hq : rstep t us ts (flds x) with
      | err e =>
        rw [hq] at h
        injection h with h1 h2
        subst h2
        unfold rstep at hq
        repeat' split at hq
        all_goals first
          | (cases hq; done)
          | (rename_i hc; injection hq with hq; exact hc hq)
      | ok t2 us2 ts2 => rw [hq] at h; exact ih _ _ _ _ _ h
theorem spaced_mesh {s : List UInt8} {l : List Int} (hs : s.length ≤ 1500) (he : mE s = 0) : mE (spaced s l) = 0 ∧ mL (spaced s l) = 0 ∧ mU (spaced s l) = mU s ∧ mT (spaced s l) = mT s := by
  have hl := spc_len l s 0
  have hl2 : (spaced s l).length ≤ 5 * s.length := hl
  have e1 := mRes_mesh (s := s) (by omega)
  have e2 := mRes_mesh (s := spaced s l) (by omega)
  have e3 : scan [] [] (spaced s l) = scan [] [] s := scan_spc l s 0 [] []
  rw [e3, ← e1] at e2
  unfold mE mU mT mL at *
  cases hr : mRes s with
  | err k e =>
    rw [hr] at he
    have he : e = 0 := he
    subst he
    unfold mRes at hr
    rw [if_neg (by omega)] at hr
    exact absurd hr (no_err0 _ _ _ _ _ _)
  | ok us ts =>
    rw [hr] at e2
    cases hq : mRes (spaced s l) with
    | err k e => rw [hq] at e2; cases e2
    | ok us2 ts2 =>
      rw [hq] at e2
      have e2 : some (us2, ts2) = some (us, ts) := e2
      injection e2 with e2
      injection e2 with a b
      subst a b
      exact ⟨rfl, rfl, rfl, rfl⟩
def fSpaced : Fact := ⟨22, fun args => match args with
  | [.str s, .list (.int .u8) l] => some (.req (decide ((s.length : Int) ≤ 10000)) (.leaf (.str (spaced s l))))
  | _ => none⟩
theorem o_spaced : fSpaced.ok Tryd.prog := fun args t ht => by
  simp only [fSpaced] at ht
  split at ht
  · injection ht with ht; subst ht
    intro h
    exact s_spaced _ _ (by have := of_decide_eq_true h; omega)
  · cases ht
end Go.Proofs.YtlhkgeoahblffaaDoor
set_option linter.unusedSimpArgs false
set_option linter.unusedVariables false
set_option maxRecDepth 100000
namespace Go.Proofs.YtlhkgeoahblffaaDoor
open Go.Sx
theorem s_lawSpaces (s : List UInt8) (l : List Int) : SCall Tryd.prog 7 [.str s, .list (.int .u8) l] (.bool true) :=
  scall_v mix [fAwake, fParseQ, fSpaced, fSame] ⟨o_awake, o_parseQ, o_spaced, o_same, trivial⟩ 1000 (.fork (.lit (.lit (.lit (.lit (.all))))) (.lit (.lit (.lit (.fork (.all) (.fork (.all) (.fork (.lit (.lit (.fork (.lit (.lit (.lit (.fork (.lit (.all)) (.lit (.all)))))) (.lit (.lit (.lit (.lit (.lit (.all))))))))) (.lit (.lit (.lit (.lit (.lit (.lit (.lit (.lit (.all))))))))))))))))
   (t := .node (decide (((↑s.length : Int) : Int) > 1500))
 (.leaf (SV.bool true))
 (.node (decide ((↑l.length : Int) > 100))
  (.leaf (SV.bool true))
  (.node (mE s != 0)
   (.leaf (SV.bool true))
   (.req (decide (((↑s.length : Int) : Int) ≤ 10000)) (.node (mE (spaced s l) == 0)
     (.node (mL (spaced s l) == 0)
      (.req (decide ((mU s).length ≤ 100000) && decide ((mT s).length ≤ 100000)) (.node (sameB (mU s) (mT s) (mU (spaced s l)) (mT (spaced s l)))
        (.leaf (SV.bool true))
        (.leaf (SV.bool false))))
      (.leaf (SV.bool false)))
     (.leaf (SV.bool false)))))))
   (by kernel_rfl) (by 
     refine ⟨fun _ => rfl, fun h => ⟨fun _ => rfl, fun _ => ⟨fun _ => rfl, fun he => ?_⟩⟩⟩
     have h := of_decide_eq_false h
     have he : mE s = 0 := by simpa using he
     obtain ⟨q1, q2, q3, q4⟩ := spaced_mesh (l := l) (by omega) he
     have hm := m_len s
     rw [q1, q2, q3, q4, same_self]
     refine ⟨decide_eq_true (by omega), fun _ => ⟨fun _ => ⟨by simp; omega, fun _ => rfl, fun h => (by cases h)⟩, fun h => (by cases h)⟩, fun h => (by cases h)⟩) (by kernel_rfl) (by kernel_rfl)
end Go.Proofs.YtlhkgeoahblffaaDoor
