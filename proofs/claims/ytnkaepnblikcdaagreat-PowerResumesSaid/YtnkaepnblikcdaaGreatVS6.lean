/-
  Evaluator, contracts, plain law.
-/
import Derived.Test.YtnkaepnblikcdaaGreatVS5
import Derived.Test.YtnkaepnblikcdaaGreatVS3
import Derived.Laws.IdiomCopy
import Derived.Tactics
import Derived.Shelf.RegionOpenPlain
import Derived.Lib.Walk
import Derived.Lib.ConvBytes
import Derived.Laws.IdiomStrings
import Derived.Laws.AppendOwn
import Derived.WalkKit
set_option maxRecDepth 100000
set_option linter.unusedVariables false
set_option linter.unusedSimpArgs false
open Go.IntKind (i64 u64 u8)
namespace Go.Proofs.YtnkaepnblikcdaaGreat
open Go.Sx
def yd8:Plan:=.all
noncomputable def yd9(s:List UInt8):Tree Stop:= .leaf (.at (v5 pP 335 0) 19 (j9 19 [(0,SV.str s),(3,.int .u64 0),(4,J 0)]) [])
theorem nu0(s:List UInt8):w9 (Env.of pP (v7 [])) 1000 (j8 pP 335) .unit (x9 19 [0,3,4]) (u9 pP 335) yd8 (u7 pP 335 [.str s]) [] =yd9 s:=by kernel_rfl
def ye0:Plan:=.fork (.all) (.all)
noncomputable def ye1(s:List UInt8)(u i:Int):Tree Stop:= .node (i< (↑s.length:Int)) (.req (0≤i&&i< (↑s.length:Int)) (.leaf (.at (v5 pP 335 0) 19 (j9 19 [(0,SV.str s),(3,.int .u64 (u64.wrap (u64.wrap (u*256)+u64.wrap (↑(s.getD i.toNat 0).toNat:Int)))),(4,J (i64.wrap (i+1)))]) []))) (.leaf (.done (.int .u64 u)))
theorem nu1(s:List UInt8)(u i:Int):w9 (Env.of pP (v7 [])) 1000 (j8 pP 335) .unit (x9 19 [0,3,4]) (v5 pP 335 0) ye0 (j9 19 [(0,.str s),(3,.int .u64 u),(4,J i)]) [] =ye1 s u i:=by kernel_rfl
def ye9:Int→List UInt8→Int
 |u,[] =>u
 |u,b::l=>ye9 (u64.wrap (u64.wrap (u*256)+u64.wrap (b.toNat:Int))) l
def qa9:Fact:=⟨335,fun args=>match args with
 |[.str s] =>some (.req ((s.length:Int)≤100000) (.leaf (.int .u64 (ye9 0 s))))
 |_=>none⟩
def x91:Plan:=.ln 4 (.fork (.ln 5 (.lit .all)) (.ln 11 (.fork .all (.go (.lit (.go (.lit .all)))))))
noncomputable def x92(n:Int):Tree Stop:= .node (n<0) (.leaf (.done (.tuple [SV.str [],J 3]))) (.req true (.node (!decide (u64.wrap n<256)) (.leaf (.done (.tuple [SV.str [],J 3]))) (.req true (.req true (.req ((0+ [u8.wrap ((u64.wrap n).fdiv 1)].length)*1≤140737488355328) (.leaf (.done (.tuple [SV.str (List.map (fun n=>UInt8.ofNat (Int.toNat n)) [u8.wrap ((u64.wrap n).fdiv 1)]),J 0]))))))))
theorem wu1(n:Int):w9 (Env.of pP (v7 [])) 1000 (j8 pP 298) .unit (x9 25 []) (u9 pP 298) x91 (u7 pP 298 [J n,J 1]) [] =x92 n:=by kernel_rfl
def ja1:Plan:=.ln 4 (.fork (.ln 4 (.lit .all)) (.ln 11 (.fork .all (.go (.lit (.go (.lit .all)))))))
noncomputable def ja2(n:Int):Tree Stop:= .node (n<0) (.leaf (.done (.tuple [SV.str [],J 3]))) (.req true (.node (n≥256) (.leaf (.done (.tuple [SV.str [],J 3]))) (.req true (.req true (.req true (.req true (.req true (.leaf (.done (.tuple [SV.str (List.map (fun n=>UInt8.ofNat (Int.toNat n)) ((List.replicate 1 0).set 0 (u8.wrap ((u64.wrap n).tmod 256)))),J 0]))))))))))
theorem ja0(n:Int):w9 (Env.of pP (v7 [])) 1000 (j8 pP 279) .unit (x9 27 []) (u9 pP 279) ja1 (u7 pP 279 [J n,J 1]) [] =ja2 n:=by kernel_rfl
def x93:Plan:=.ln 4 (.fork (.ln 5 (.lit .all)) (.ln 11 (.fork .all (.go (.lit (.go (.lit (.go (.lit .all)))))))))
noncomputable def x94(n:Int):Tree Stop:= .node (n<0) (.leaf (.done (.tuple [SV.str [],J 3]))) (.req true (.node (!decide (u64.wrap n<65536)) (.leaf (.done (.tuple [SV.str [],J 3]))) (.req true (.req true (.req ((0+ [u8.wrap ((u64.wrap n).fdiv 256)].length)*1≤140737488355328) (.req true (.req (([u8.wrap ((u64.wrap n).fdiv 256)].length+ [u8.wrap ((u64.wrap n).fdiv 1)].length)*1≤140737488355328) (.leaf (.done (.tuple [SV.str (List.map (fun n=>UInt8.ofNat (Int.toNat n)) ([u8.wrap ((u64.wrap n).fdiv 256)] ++[u8.wrap ((u64.wrap n).fdiv 1)])),J 0]))))))))))
theorem wu2(n:Int):w9 (Env.of pP (v7 [])) 1000 (j8 pP 298) .unit (x9 25 []) (u9 pP 298) x93 (u7 pP 298 [J n,J 2]) [] =x94 n:=by kernel_rfl
def ja4:Plan:=.ln 4 (.fork (.ln 4 (.lit .all)) (.ln 11 (.fork .all (.go (.lit (.go (.lit (.go (.lit .all)))))))))
noncomputable def ja5(n:Int):Tree Stop:= .node (n<0) (.leaf (.done (.tuple [SV.str [],J 3]))) (.req true (.node (n≥65536) (.leaf (.done (.tuple [SV.str [],J 3]))) (.req true (.req true (.req true (.req true (.req true (.req true (.req (0< (↑((List.replicate 2 0).set 1 (u8.wrap ((u64.wrap n).tmod 256))).length:Int)) (.req (0< ((List.replicate 2 0).set 1 (u8.wrap ((u64.wrap n).tmod 256))).length) (.req true (.leaf (.done (.tuple [SV.str (List.map (fun n=>UInt8.ofNat (Int.toNat n)) (((List.replicate 2 0).set 1 (u8.wrap ((u64.wrap n).tmod 256))).set 0 (u8.wrap ((u64.wrap ((u64.wrap n).tdiv 256)).tmod 256)))),J 0]))))))))))))))
theorem ja3(n:Int):w9 (Env.of pP (v7 [])) 1000 (j8 pP 279) .unit (x9 27 []) (u9 pP 279) ja4 (u7 pP 279 [J n,J 2]) [] =ja5 n:=by kernel_rfl
def x95:Plan:=.ln 4 (.fork (.ln 5 (.lit .all)) (.ln 11 (.fork .all (.go (.lit (.go (.lit (.go (.lit (.go (.lit (.go (.lit .all)))))))))))))
noncomputable def x96(n:Int):Tree Stop:= .node (n<0) (.leaf (.done (.tuple [SV.str [],J 3]))) (.req true (.node (!decide (u64.wrap n<4294967296)) (.leaf (.done (.tuple [SV.str [],J 3]))) (.req true (.req true (.req ((0+ [u8.wrap ((u64.wrap n).fdiv 16777216)].length)*1≤140737488355328) (.req true (.req (([u8.wrap ((u64.wrap n).fdiv 16777216)].length+ [u8.wrap ((u64.wrap n).fdiv 65536)].length)*1≤140737488355328) (.req true (.req ((([u8.wrap ((u64.wrap n).fdiv 16777216)] ++[u8.wrap ((u64.wrap n).fdiv 65536)]).length+ [u8.wrap ((u64.wrap n).fdiv 256)].length)*1≤140737488355328) (.req true (.req ((([u8.wrap ((u64.wrap n).fdiv 16777216)] ++[u8.wrap ((u64.wrap n).fdiv 65536)] ++[u8.wrap ((u64.wrap n).fdiv 256)]).length+ [u8.wrap ((u64.wrap n).fdiv 1)].length)*1≤140737488355328) (.leaf (.done (.tuple [SV.str (List.map (fun n=>UInt8.ofNat (Int.toNat n)) ([u8.wrap ((u64.wrap n).fdiv 16777216)] ++[u8.wrap ((u64.wrap n).fdiv 65536)] ++[u8.wrap ((u64.wrap n).fdiv 256)] ++[u8.wrap ((u64.wrap n).fdiv 1)])),J 0]))))))))))))))
theorem wu4(n:Int):w9 (Env.of pP (v7 [])) 1000 (j8 pP 298) .unit (x9 25 []) (u9 pP 298) x95 (u7 pP 298 [J n,J 4]) [] =x96 n:=by kernel_rfl
def ja7:Plan:=.ln 4 (.fork (.ln 4 (.lit .all)) (.ln 11 (.fork .all (.go (.lit (.go (.lit (.go (.lit (.go (.lit (.go (.lit .all)))))))))))))
noncomputable def ja8(n:Int):Tree Stop:= .node (n<0) (.leaf (.done (.tuple [SV.str [],J 3]))) (.req true (.node (n≥4294967296) (.leaf (.done (.tuple [SV.str [],J 3]))) (.req true (.req true (.req true (.req true (.req true (.req true (.req (2< (↑((List.replicate 4 0).set 3 (u8.wrap ((u64.wrap n).tmod 256))).length:Int)) (.req (2< ((List.replicate 4 0).set 3 (u8.wrap ((u64.wrap n).tmod 256))).length) (.req true (.req true (.req (1< (↑(((List.replicate 4 0).set 3 (u8.wrap ((u64.wrap n).tmod 256))).set 2 (u8.wrap ((u64.wrap ((u64.wrap n).tdiv 256)).tmod 256))).length:Int)) (.req (1< (((List.replicate 4 0).set 3 (u8.wrap ((u64.wrap n).tmod 256))).set 2 (u8.wrap ((u64.wrap ((u64.wrap n).tdiv 256)).tmod 256))).length) (.req true (.req true (.req (0< (↑((((List.replicate 4 0).set 3 (u8.wrap ((u64.wrap n).tmod 256))).set 2 (u8.wrap ((u64.wrap ((u64.wrap n).tdiv 256)).tmod 256))).set 1 (u8.wrap ((u64.wrap ((u64.wrap ((u64.wrap n).tdiv 256)).tdiv 256)).tmod 256))).length:Int)) (.req (0< ((((List.replicate 4 0).set 3 (u8.wrap ((u64.wrap n).tmod 256))).set 2 (u8.wrap ((u64.wrap ((u64.wrap n).tdiv 256)).tmod 256))).set 1 (u8.wrap ((u64.wrap ((u64.wrap ((u64.wrap n).tdiv 256)).tdiv 256)).tmod 256))).length) (.req true (.leaf (.done (.tuple [SV.str (List.map (fun n=>UInt8.ofNat (Int.toNat n)) (((((List.replicate 4 0).set 3 (u8.wrap ((u64.wrap n).tmod 256))).set 2 (u8.wrap ((u64.wrap ((u64.wrap n).tdiv 256)).tmod 256))).set 1 (u8.wrap ((u64.wrap ((u64.wrap ((u64.wrap n).tdiv 256)).tdiv 256)).tmod 256))).set 0 (u8.wrap ((u64.wrap ((u64.wrap ((u64.wrap ((u64.wrap n).tdiv 256)).tdiv 256)).tdiv 256)).tmod 256)))),J 0]))))))))))))))))))))))
theorem ja6(n:Int):w9 (Env.of pP (v7 [])) 1000 (j8 pP 279) .unit (x9 27 []) (u9 pP 279) ja7 (u7 pP 279 [J n,J 4]) [] =ja8 n:=by kernel_rfl
def x98:Plan:=.ln 4 (.fork (.ln 5 (.lit .all)) (.ln 11 (.fork .all (.go (.lit (.go (.lit (.go (.lit (.go (.lit (.go (.lit (.go (.lit (.go (.lit .all)))))))))))))))))
noncomputable def x99(n:Int):Tree Stop:= .node (n<0) (.leaf (.done (.tuple [SV.str [],J 3]))) (.req true (.node (!decide (u64.wrap n<281474976710656)) (.leaf (.done (.tuple [SV.str [],J 3]))) (.req true (.req true (.req ((0+ [u8.wrap ((u64.wrap n).fdiv 1099511627776)].length)*1≤140737488355328) (.req true (.req (([u8.wrap ((u64.wrap n).fdiv 1099511627776)].length+ [u8.wrap ((u64.wrap n).fdiv 4294967296)].length)*1≤140737488355328) (.req true (.req ((([u8.wrap ((u64.wrap n).fdiv 1099511627776)] ++[u8.wrap ((u64.wrap n).fdiv 4294967296)]).length+ [u8.wrap ((u64.wrap n).fdiv 16777216)].length)*1≤140737488355328) (.req true (.req ((([u8.wrap ((u64.wrap n).fdiv 1099511627776)] ++[u8.wrap ((u64.wrap n).fdiv 4294967296)] ++[u8.wrap ((u64.wrap n).fdiv 16777216)]).length+ [u8.wrap ((u64.wrap n).fdiv 65536)].length)*1≤140737488355328) (.req true (.req ((([u8.wrap ((u64.wrap n).fdiv 1099511627776)] ++[u8.wrap ((u64.wrap n).fdiv 4294967296)] ++[u8.wrap ((u64.wrap n).fdiv 16777216)] ++[u8.wrap ((u64.wrap n).fdiv 65536)]).length+ [u8.wrap ((u64.wrap n).fdiv 256)].length)*1≤140737488355328) (.req true (.req ((([u8.wrap ((u64.wrap n).fdiv 1099511627776)] ++[u8.wrap ((u64.wrap n).fdiv 4294967296)] ++[u8.wrap ((u64.wrap n).fdiv 16777216)] ++[u8.wrap ((u64.wrap n).fdiv 65536)] ++[u8.wrap ((u64.wrap n).fdiv 256)]).length+ [u8.wrap ((u64.wrap n).fdiv 1)].length)*1≤140737488355328) (.leaf (.done (.tuple [SV.str (List.map (fun n=>UInt8.ofNat (Int.toNat n)) ([u8.wrap ((u64.wrap n).fdiv 1099511627776)] ++[u8.wrap ((u64.wrap n).fdiv 4294967296)] ++[u8.wrap ((u64.wrap n).fdiv 16777216)] ++[u8.wrap ((u64.wrap n).fdiv 65536)] ++[u8.wrap ((u64.wrap n).fdiv 256)] ++[u8.wrap ((u64.wrap n).fdiv 1)])),J 0]))))))))))))))))))
theorem wu6(n:Int):w9 (Env.of pP (v7 [])) 1000 (j8 pP 298) .unit (x9 25 []) (u9 pP 298) x98 (u7 pP 298 [J n,J 6]) [] =x99 n:=by kernel_rfl
def jb0:Plan:=.ln 4 (.fork (.ln 4 (.lit .all)) (.ln 11 (.fork .all (.go (.lit (.go (.lit (.go (.lit (.go (.lit (.go (.lit (.go (.lit (.go (.lit .all)))))))))))))))))
noncomputable def jb1(n:Int):Tree Stop:= .node (n<0) (.leaf (.done (.tuple [SV.str [],J 3]))) (.req true (.node (n≥281474976710656) (.leaf (.done (.tuple [SV.str [],J 3]))) (.req true (.req true (.req true (.req true (.req true (.req true (.req (4< (↑((List.replicate 6 0).set 5 (u8.wrap ((u64.wrap n).tmod 256))).length:Int)) (.req (4< ((List.replicate 6 0).set 5 (u8.wrap ((u64.wrap n).tmod 256))).length) (.req true (.req true (.req (3< (↑(((List.replicate 6 0).set 5 (u8.wrap ((u64.wrap n).tmod 256))).set 4 (u8.wrap ((u64.wrap ((u64.wrap n).tdiv 256)).tmod 256))).length:Int)) (.req (3< (((List.replicate 6 0).set 5 (u8.wrap ((u64.wrap n).tmod 256))).set 4 (u8.wrap ((u64.wrap ((u64.wrap n).tdiv 256)).tmod 256))).length) (.req true (.req true (.req (2< (↑((((List.replicate 6 0).set 5 (u8.wrap ((u64.wrap n).tmod 256))).set 4 (u8.wrap ((u64.wrap ((u64.wrap n).tdiv 256)).tmod 256))).set 3 (u8.wrap ((u64.wrap ((u64.wrap ((u64.wrap n).tdiv 256)).tdiv 256)).tmod 256))).length:Int)) (.req (2< ((((List.replicate 6 0).set 5 (u8.wrap ((u64.wrap n).tmod 256))).set 4 (u8.wrap ((u64.wrap ((u64.wrap n).tdiv 256)).tmod 256))).set 3 (u8.wrap ((u64.wrap ((u64.wrap ((u64.wrap n).tdiv 256)).tdiv 256)).tmod 256))).length) (.req true (.req true (.req (1< (↑(((((List.replicate 6 0).set 5 (u8.wrap ((u64.wrap n).tmod 256))).set 4 (u8.wrap ((u64.wrap ((u64.wrap n).tdiv 256)).tmod 256))).set 3 (u8.wrap ((u64.wrap ((u64.wrap ((u64.wrap n).tdiv 256)).tdiv 256)).tmod 256))).set 2 (u8.wrap ((u64.wrap ((u64.wrap ((u64.wrap ((u64.wrap n).tdiv 256)).tdiv 256)).tdiv 256)).tmod 256))).length:Int)) (.req (1< (((((List.replicate 6 0).set 5 (u8.wrap ((u64.wrap n).tmod 256))).set 4 (u8.wrap ((u64.wrap ((u64.wrap n).tdiv 256)).tmod 256))).set 3 (u8.wrap ((u64.wrap ((u64.wrap ((u64.wrap n).tdiv 256)).tdiv 256)).tmod 256))).set 2 (u8.wrap ((u64.wrap ((u64.wrap ((u64.wrap ((u64.wrap n).tdiv 256)).tdiv 256)).tdiv 256)).tmod 256))).length) (.req true (.req true (.req (0< (↑((((((List.replicate 6 0).set 5 (u8.wrap ((u64.wrap n).tmod 256))).set 4 (u8.wrap ((u64.wrap ((u64.wrap n).tdiv 256)).tmod 256))).set 3 (u8.wrap ((u64.wrap ((u64.wrap ((u64.wrap n).tdiv 256)).tdiv 256)).tmod 256))).set 2 (u8.wrap ((u64.wrap ((u64.wrap ((u64.wrap ((u64.wrap n).tdiv 256)).tdiv 256)).tdiv 256)).tmod 256))).set 1 (u8.wrap ((u64.wrap ((u64.wrap ((u64.wrap ((u64.wrap ((u64.wrap n).tdiv 256)).tdiv 256)).tdiv 256)).tdiv 256)).tmod 256))).length:Int)) (.req (0< ((((((List.replicate 6 0).set 5 (u8.wrap ((u64.wrap n).tmod 256))).set 4 (u8.wrap ((u64.wrap ((u64.wrap n).tdiv 256)).tmod 256))).set 3 (u8.wrap ((u64.wrap ((u64.wrap ((u64.wrap n).tdiv 256)).tdiv 256)).tmod 256))).set 2 (u8.wrap ((u64.wrap ((u64.wrap ((u64.wrap ((u64.wrap n).tdiv 256)).tdiv 256)).tdiv 256)).tmod 256))).set 1 (u8.wrap ((u64.wrap ((u64.wrap ((u64.wrap ((u64.wrap ((u64.wrap n).tdiv 256)).tdiv 256)).tdiv 256)).tdiv 256)).tmod 256))).length) (.req true (.leaf (.done (.tuple [SV.str (List.map (fun n=>UInt8.ofNat (Int.toNat n)) (((((((List.replicate 6 0).set 5 (u8.wrap ((u64.wrap n).tmod 256))).set 4 (u8.wrap ((u64.wrap ((u64.wrap n).tdiv 256)).tmod 256))).set 3 (u8.wrap ((u64.wrap ((u64.wrap ((u64.wrap n).tdiv 256)).tdiv 256)).tmod 256))).set 2 (u8.wrap ((u64.wrap ((u64.wrap ((u64.wrap ((u64.wrap n).tdiv 256)).tdiv 256)).tdiv 256)).tmod 256))).set 1 (u8.wrap ((u64.wrap ((u64.wrap ((u64.wrap ((u64.wrap ((u64.wrap n).tdiv 256)).tdiv 256)).tdiv 256)).tdiv 256)).tmod 256))).set 0 (u8.wrap ((u64.wrap ((u64.wrap ((u64.wrap ((u64.wrap ((u64.wrap ((u64.wrap n).tdiv 256)).tdiv 256)).tdiv 256)).tdiv 256)).tdiv 256)).tmod 256)))),J 0]))))))))))))))))))))))))))))))
theorem ja9(n:Int):w9 (Env.of pP (v7 [])) 1000 (j8 pP 279) .unit (x9 27 []) (u9 pP 279) jb0 (u7 pP 279 [J n,J 6]) [] =jb1 n:=by kernel_rfl
def x70:Plan:=.ln 9 (.fork (.ln 5 (.lit .all)) (.ln 5 (.fork .all (.go (.lit (.go (.lit (.go (.lit (.go (.lit (.go (.lit .all)))))))))))))
noncomputable def x71(n:Int):Tree Stop:= .req true (.node (n < -2147483648) (.leaf (.done (.tuple [SV.str [],J 3]))) (.node (n≥2147483648) (.leaf (.done (.tuple [SV.str [],J 3]))) (.req true (.req true (.req ((0+ [u8.wrap ((u64.wrap n).fdiv 16777216)].length)*1≤140737488355328) (.req true (.req (([u8.wrap ((u64.wrap n).fdiv 16777216)].length+ [u8.wrap ((u64.wrap n).fdiv 65536)].length)*1≤140737488355328) (.req true (.req ((([u8.wrap ((u64.wrap n).fdiv 16777216)] ++[u8.wrap ((u64.wrap n).fdiv 65536)]).length+ [u8.wrap ((u64.wrap n).fdiv 256)].length)*1≤140737488355328) (.req true (.req ((([u8.wrap ((u64.wrap n).fdiv 16777216)] ++[u8.wrap ((u64.wrap n).fdiv 65536)] ++[u8.wrap ((u64.wrap n).fdiv 256)]).length+ [u8.wrap ((u64.wrap n).fdiv 1)].length)*1≤140737488355328) (.leaf (.done (.tuple [SV.str (List.map (fun n=>UInt8.ofNat (Int.toNat n)) ([u8.wrap ((u64.wrap n).fdiv 16777216)] ++[u8.wrap ((u64.wrap n).fdiv 65536)] ++[u8.wrap ((u64.wrap n).fdiv 256)] ++[u8.wrap ((u64.wrap n).fdiv 1)])),J 0]))))))))))))))
theorem wi4(n:Int):w9 (Env.of pP (v7 [])) 1000 (j8 pP 299) .unit (x9 32 []) (u9 pP 299) x70 (u7 pP 299 [J n,J 4]) [] =x71 n:=by kernel_rfl
def x73:Plan:=.ln 13 (.fork (.ln 9 (.lit .all)) (.ln 9 (.fork .all (.go (.lit (.go (.lit (.go (.lit (.go (.lit (.go (.lit .all)))))))))))))
noncomputable def x74(n:Int):Tree Stop:= .req true (.node (n < -2147483648) (.leaf (.done (.tuple [SV.str [],J 3]))) (.req true (.node (n≥2147483648) (.leaf (.done (.tuple [SV.str [],J 3]))) (.req true (.req true (.req true (.req true (.req true (.req true (.req (2< (↑((List.replicate 4 0).set 3 (u8.wrap ((u64.wrap n).tmod 256))).length:Int)) (.req (2< ((List.replicate 4 0).set 3 (u8.wrap ((u64.wrap n).tmod 256))).length) (.req true (.req true (.req (1< (↑(((List.replicate 4 0).set 3 (u8.wrap ((u64.wrap n).tmod 256))).set 2 (u8.wrap ((u64.wrap ((u64.wrap n).tdiv 256)).tmod 256))).length:Int)) (.req (1< (((List.replicate 4 0).set 3 (u8.wrap ((u64.wrap n).tmod 256))).set 2 (u8.wrap ((u64.wrap ((u64.wrap n).tdiv 256)).tmod 256))).length) (.req true (.req true (.req (0< (↑((((List.replicate 4 0).set 3 (u8.wrap ((u64.wrap n).tmod 256))).set 2 (u8.wrap ((u64.wrap ((u64.wrap n).tdiv 256)).tmod 256))).set 1 (u8.wrap ((u64.wrap ((u64.wrap ((u64.wrap n).tdiv 256)).tdiv 256)).tmod 256))).length:Int)) (.req (0< ((((List.replicate 4 0).set 3 (u8.wrap ((u64.wrap n).tmod 256))).set 2 (u8.wrap ((u64.wrap ((u64.wrap n).tdiv 256)).tmod 256))).set 1 (u8.wrap ((u64.wrap ((u64.wrap ((u64.wrap n).tdiv 256)).tdiv 256)).tmod 256))).length) (.req true (.leaf (.done (.tuple [SV.str (List.map (fun n=>UInt8.ofNat (Int.toNat n)) (((((List.replicate 4 0).set 3 (u8.wrap ((u64.wrap n).tmod 256))).set 2 (u8.wrap ((u64.wrap ((u64.wrap n).tdiv 256)).tmod 256))).set 1 (u8.wrap ((u64.wrap ((u64.wrap ((u64.wrap n).tdiv 256)).tdiv 256)).tmod 256))).set 0 (u8.wrap ((u64.wrap ((u64.wrap ((u64.wrap ((u64.wrap n).tdiv 256)).tdiv 256)).tdiv 256)).tmod 256)))),J 0])))))))))))))))))))))))
theorem x72(n:Int):w9 (Env.of pP (v7 [])) 1000 (j8 pP 280) .unit (x9 34 []) (u9 pP 280) x73 (u7 pP 280 [J n,J 4]) [] =x74 n:=by kernel_rfl
def xP7(s:List UInt8)(a:Int):Int:=u64.wrap (↑(BitVec.ofInt 64 0 |||BitVec.ofInt 64 (u64.wrap (↑(s.getD (i64.wrap (a+0)).toNat 0).toNat:Int))).toNat:Int)
def xP9(s:List UInt8)(a:Int):Int:=u64.wrap (↑(BitVec.ofInt 64 (u64.wrap (u64.wrap (↑(BitVec.ofInt 64 (u64.wrap (u64.wrap (↑(BitVec.ofInt 64 (u64.wrap (u64.wrap (↑(BitVec.ofInt 64 0 |||BitVec.ofInt 64 (u64.wrap (↑(s.getD (i64.wrap (a+0)).toNat 0).toNat:Int))).toNat:Int)*256)) |||BitVec.ofInt 64 (u64.wrap (↑(s.getD (i64.wrap (a+1)).toNat 0).toNat:Int))).toNat:Int)*256)) |||BitVec.ofInt 64 (u64.wrap (↑(s.getD (i64.wrap (a+2)).toNat 0).toNat:Int))).toNat:Int)*256)) |||BitVec.ofInt 64 (u64.wrap (↑(s.getD (i64.wrap (a+3)).toNat 0).toNat:Int))).toNat:Int)
def xQ1(s:List UInt8)(a:Int):Int:=u64.wrap (↑(BitVec.ofInt 64 (u64.wrap (u64.wrap (↑(BitVec.ofInt 64 (u64.wrap (u64.wrap (↑(BitVec.ofInt 64 (u64.wrap (u64.wrap (↑(BitVec.ofInt 64 (u64.wrap (u64.wrap (↑(BitVec.ofInt 64 (u64.wrap (u64.wrap (↑(BitVec.ofInt 64 0 |||BitVec.ofInt 64 (u64.wrap (↑(s.getD (i64.wrap (a+0)).toNat 0).toNat:Int))).toNat:Int)*256)) |||BitVec.ofInt 64 (u64.wrap (↑(s.getD (i64.wrap (a+1)).toNat 0).toNat:Int))).toNat:Int)*256)) |||BitVec.ofInt 64 (u64.wrap (↑(s.getD (i64.wrap (a+2)).toNat 0).toNat:Int))).toNat:Int)*256)) |||BitVec.ofInt 64 (u64.wrap (↑(s.getD (i64.wrap (a+3)).toNat 0).toNat:Int))).toNat:Int)*256)) |||BitVec.ofInt 64 (u64.wrap (↑(s.getD (i64.wrap (a+4)).toNat 0).toNat:Int))).toNat:Int)*256)) |||BitVec.ofInt 64 (u64.wrap (↑(s.getD (i64.wrap (a+5)).toNat 0).toNat:Int))).toNat:Int)
def xU2:Plan:=.fork (.ln 9 (.lit .all)) (.ln 4 (.fork (.ln 4 (.lit .all)) (.ln 7 (.fork (.lit .all) (.go (.lit (.go (.lit (.lit (.fork .all .all))))))))))
noncomputable def xU3(s:List UInt8)(a:Int):Tree Stop:= .node (a<0) (.leaf (.done (.tuple [J 0,J 0,J 1]))) (.node (a> (↑s.length:Int)) (.leaf (.done (.tuple [J 0,J 0,J 1]))) (.node (i64.wrap ((↑s.length:Int)-a)<1) (.leaf (.done (.tuple [J 0,J 0,J 6]))) (.req true (.req (0≤i64.wrap (a+0)&&i64.wrap (a+0)< (↑s.length:Int)) (.node (xP7 s a≥9223372036854775808) (.leaf (.done (.tuple [J 0,J 0,J 3]))) (.leaf (.done (.tuple [J (i64.wrap (xP7 s a)),J (i64.wrap (a+1)),J 0]))))))))
theorem tw1(s:List UInt8)(a:Int):w9 (Env.of pP (v7 [])) 1000 (j8 pP 282) .unit (x9 30 []) (u9 pP 282) xU2 (u7 pP 282 [.str s,J a,J 1]) [] =xU3 s a:=by kernel_rfl
def xU9:Plan:=.fork (.ln 9 (.lit .all)) (.ln 4 (.fork (.ln 4 (.lit .all)) (.ln 7 (.fork (.lit .all) (.lit (.fork .all .all))))))
noncomputable def xV0(s:List UInt8)(a:Int):Tree Stop:= .node (a<0) (.leaf (.done (.tuple [J 0,J 0,J 1]))) (.node (a> (↑s.length:Int)) (.leaf (.done (.tuple [J 0,J 0,J 1]))) (.node (i64.wrap ((↑s.length:Int)-a)<1) (.leaf (.done (.tuple [J 0,J 0,J 6]))) (.req (0≤i64.wrap (a+1)&&i64.wrap (a+1)≤(↑s.length:Int)&&0≤a&&a≤i64.wrap (a+1)) (.req ((↑(List.drop a.toNat (List.take (i64.wrap (a+1)).toNat s)).length:Int)≤100000) (.node (ye9 0 (List.drop a.toNat (List.take (i64.wrap (a+1)).toNat s))≥9223372036854775808) (.leaf (.done (.tuple [J 0,J 0,J 3]))) (.leaf (.done (.tuple [J (i64.wrap (ye9 0 (List.drop a.toNat (List.take (i64.wrap (a+1)).toNat s)))),J (i64.wrap (a+1)),J 0]))))))))
theorem xU8(s:List UInt8)(a:Int):w9 (Env.of pP (v7 [qa9])) 1000 (j8 pP 321) .unit (x9 31 []) (u9 pP 321) xU9 (u7 pP 321 [.str s,J a,J 1]) [] =xV0 s a:=by kernel_rfl
def xU4:Plan:=.fork (.ln 9 (.lit .all)) (.ln 4 (.fork (.ln 4 (.lit .all)) (.ln 7 (.fork (.lit .all) (.go (.lit (.go (.lit (.go (.lit (.go (.lit (.go (.lit (.lit (.fork .all .all))))))))))))))))
noncomputable def xU5(s:List UInt8)(a:Int):Tree Stop:= .node (a<0) (.leaf (.done (.tuple [J 0,J 0,J 1]))) (.node (a> (↑s.length:Int)) (.leaf (.done (.tuple [J 0,J 0,J 1]))) (.node (i64.wrap ((↑s.length:Int)-a)<4) (.leaf (.done (.tuple [J 0,J 0,J 6]))) (.req true (.req (0≤i64.wrap (a+0)&&i64.wrap (a+0)< (↑s.length:Int)) (.req true (.req (0≤i64.wrap (a+1)&&i64.wrap (a+1)< (↑s.length:Int)) (.req true (.req (0≤i64.wrap (a+2)&&i64.wrap (a+2)< (↑s.length:Int)) (.req true (.req (0≤i64.wrap (a+3)&&i64.wrap (a+3)< (↑s.length:Int)) (.node (xP9 s a≥9223372036854775808) (.leaf (.done (.tuple [J 0,J 0,J 3]))) (.leaf (.done (.tuple [J (i64.wrap (xP9 s a)),J (i64.wrap (a+4)),J 0]))))))))))))))
theorem tw4(s:List UInt8)(a:Int):w9 (Env.of pP (v7 [])) 1000 (j8 pP 282) .unit (x9 30 []) (u9 pP 282) xU4 (u7 pP 282 [.str s,J a,J 4]) [] =xU5 s a:=by kernel_rfl
def xV2:Plan:=.fork (.ln 9 (.lit .all)) (.ln 4 (.fork (.ln 4 (.lit .all)) (.ln 7 (.fork (.lit .all) (.lit (.fork .all .all))))))
noncomputable def xV3(s:List UInt8)(a:Int):Tree Stop:= .node (a<0) (.leaf (.done (.tuple [J 0,J 0,J 1]))) (.node (a> (↑s.length:Int)) (.leaf (.done (.tuple [J 0,J 0,J 1]))) (.node (i64.wrap ((↑s.length:Int)-a)<4) (.leaf (.done (.tuple [J 0,J 0,J 6]))) (.req (0≤i64.wrap (a+4)&&i64.wrap (a+4)≤(↑s.length:Int)&&0≤a&&a≤i64.wrap (a+4)) (.req ((↑(List.drop a.toNat (List.take (i64.wrap (a+4)).toNat s)).length:Int)≤100000) (.node (ye9 0 (List.drop a.toNat (List.take (i64.wrap (a+4)).toNat s))≥9223372036854775808) (.leaf (.done (.tuple [J 0,J 0,J 3]))) (.leaf (.done (.tuple [J (i64.wrap (ye9 0 (List.drop a.toNat (List.take (i64.wrap (a+4)).toNat s)))),J (i64.wrap (a+4)),J 0]))))))))
theorem xV1(s:List UInt8)(a:Int):w9 (Env.of pP (v7 [qa9])) 1000 (j8 pP 321) .unit (x9 31 []) (u9 pP 321) xV2 (u7 pP 321 [.str s,J a,J 4]) [] =xV3 s a:=by kernel_rfl
def xU6:Plan:=.fork (.ln 9 (.lit .all)) (.ln 4 (.fork (.ln 4 (.lit .all)) (.ln 7 (.fork (.lit .all) (.go (.lit (.go (.lit (.go (.lit (.go (.lit (.go (.lit (.go (.lit (.go (.lit (.lit (.fork .all .all))))))))))))))))))))
noncomputable def xU7(s:List UInt8)(a:Int):Tree Stop:= .node (a<0) (.leaf (.done (.tuple [J 0,J 0,J 1]))) (.node (a> (↑s.length:Int)) (.leaf (.done (.tuple [J 0,J 0,J 1]))) (.node (i64.wrap ((↑s.length:Int)-a)<6) (.leaf (.done (.tuple [J 0,J 0,J 6]))) (.req true (.req (0≤i64.wrap (a+0)&&i64.wrap (a+0)< (↑s.length:Int)) (.req true (.req (0≤i64.wrap (a+1)&&i64.wrap (a+1)< (↑s.length:Int)) (.req true (.req (0≤i64.wrap (a+2)&&i64.wrap (a+2)< (↑s.length:Int)) (.req true (.req (0≤i64.wrap (a+3)&&i64.wrap (a+3)< (↑s.length:Int)) (.req true (.req (0≤i64.wrap (a+4)&&i64.wrap (a+4)< (↑s.length:Int)) (.req true (.req (0≤i64.wrap (a+5)&&i64.wrap (a+5)< (↑s.length:Int)) (.node (xQ1 s a≥9223372036854775808) (.leaf (.done (.tuple [J 0,J 0,J 3]))) (.leaf (.done (.tuple [J (i64.wrap (xQ1 s a)),J (i64.wrap (a+6)),J 0]))))))))))))))))))
theorem tw6(s:List UInt8)(a:Int):w9 (Env.of pP (v7 [])) 1000 (j8 pP 282) .unit (x9 30 []) (u9 pP 282) xU6 (u7 pP 282 [.str s,J a,J 6]) [] =xU7 s a:=by kernel_rfl
def xV5:Plan:=.fork (.ln 9 (.lit .all)) (.ln 4 (.fork (.ln 4 (.lit .all)) (.ln 7 (.fork (.lit .all) (.lit (.fork .all .all))))))
noncomputable def xV6(s:List UInt8)(a:Int):Tree Stop:= .node (a<0) (.leaf (.done (.tuple [J 0,J 0,J 1]))) (.node (a> (↑s.length:Int)) (.leaf (.done (.tuple [J 0,J 0,J 1]))) (.node (i64.wrap ((↑s.length:Int)-a)<6) (.leaf (.done (.tuple [J 0,J 0,J 6]))) (.req (0≤i64.wrap (a+6)&&i64.wrap (a+6)≤(↑s.length:Int)&&0≤a&&a≤i64.wrap (a+6)) (.req ((↑(List.drop a.toNat (List.take (i64.wrap (a+6)).toNat s)).length:Int)≤100000) (.node (ye9 0 (List.drop a.toNat (List.take (i64.wrap (a+6)).toNat s))≥9223372036854775808) (.leaf (.done (.tuple [J 0,J 0,J 3]))) (.leaf (.done (.tuple [J (i64.wrap (ye9 0 (List.drop a.toNat (List.take (i64.wrap (a+6)).toNat s)))),J (i64.wrap (a+6)),J 0]))))))))
theorem xV4(s:List UInt8)(a:Int):w9 (Env.of pP (v7 [qa9])) 1000 (j8 pP 321) .unit (x9 31 []) (u9 pP 321) xV5 (u7 pP 321 [.str s,J a,J 6]) [] =xV6 s a:=by kernel_rfl
def xK9:Plan:=.fork (.ln 9 (.lit .all)) (.ln 4 (.fork (.ln 4 (.lit .all)) (.ln 7 (.fork (.lit .all) (.go (.lit (.go (.lit (.go (.lit (.go (.lit (.go (.lit (.lit .all)))))))))))))))
noncomputable def xL0(s:List UInt8)(a:Int):Tree Stop:= .node (a<0) (.leaf (.done (.tuple [J 0,J 0,J 1]))) (.node (a> (↑s.length:Int)) (.leaf (.done (.tuple [J 0,J 0,J 1]))) (.node (i64.wrap ((↑s.length:Int)-a)<4) (.leaf (.done (.tuple [J 0,J 0,J 6]))) (.req true (.req (0≤i64.wrap (a+0)&&i64.wrap (a+0)< (↑s.length:Int)) (.req true (.req (0≤i64.wrap (a+1)&&i64.wrap (a+1)< (↑s.length:Int)) (.req true (.req (0≤i64.wrap (a+2)&&i64.wrap (a+2)< (↑s.length:Int)) (.req true (.req (0≤i64.wrap (a+3)&&i64.wrap (a+3)< (↑s.length:Int)) (.req true (.req true (.leaf (.done (.tuple [J ((i64.wrap (u64.wrap (xP9 s a*4294967296))).fdiv 4294967296),J (i64.wrap (a+4)),J 0])))))))))))))))
theorem ti4(s:List UInt8)(a:Int):w9 (Env.of pP (v7 [])) 1000 (j8 pP 284) .unit (x9 34 []) (u9 pP 284) xK9 (u7 pP 284 [.str s,J a,J 4]) [] =xL0 s a:=by kernel_rfl
def xL2:Plan:=.fork (.ln 9 (.lit .all)) (.ln 4 (.fork (.ln 4 (.lit .all)) (.ln 7 (.fork (.lit .all) (.ln 5 (.fork .all .all))))))
noncomputable def xL3(s:List UInt8)(a:Int):Tree Stop:= .node (a<0) (.leaf (.done (.tuple [J 0,J 0,J 1]))) (.node (a> (↑s.length:Int)) (.leaf (.done (.tuple [J 0,J 0,J 1]))) (.node (i64.wrap ((↑s.length:Int)-a)<4) (.leaf (.done (.tuple [J 0,J 0,J 6]))) (.req (0≤i64.wrap (a+4)&&i64.wrap (a+4)≤(↑s.length:Int)&&0≤a&&a≤i64.wrap (a+4)) (.req ((↑(List.drop a.toNat (List.take (i64.wrap (a+4)).toNat s)).length:Int)≤100000) (.req (0< (↑(List.drop a.toNat (List.take (i64.wrap (a+4)).toNat s)).length:Int)) (.node ((↑((List.drop a.toNat (List.take (i64.wrap (a+4)).toNat s)).getD 0 0).toNat:Int)≥128) (.req true (.leaf (.done (.tuple [J (i64.wrap (i64.wrap (ye9 0 (List.drop a.toNat (List.take (i64.wrap (a+4)).toNat s)))-4294967296)),J (i64.wrap (a+4)),J 0])))) (.leaf (.done (.tuple [J (i64.wrap (ye9 0 (List.drop a.toNat (List.take (i64.wrap (a+4)).toNat s)))),J (i64.wrap (a+4)),J 0])))))))))
theorem xL1(s:List UInt8)(a:Int):w9 (Env.of pP (v7 [qa9])) 1000 (j8 pP 322) .unit (x9 46 []) (u9 pP 322) xL2 (u7 pP 322 [.str s,J a,J 4]) [] =xL3 s a:=by kernel_rfl
def yK1:Plan:=.fork (.lit (.lit (.lit .all))) (.lit (.lit (.fork .all (.fork .all .all))))
noncomputable def yK2(s:List UInt8)(n:Int):Tree Stop:= .node (n<0) (.leaf (.done (.tuple [SV.str [],J 1]))) (.node (n>65536) (.leaf (.done (.tuple [SV.str [],J 1]))) (.node ((↑s.length:Int)>n) (.leaf (.done (.tuple [SV.str [],J 2]))) (.req (0≤i64.wrap (n-(↑s.length:Int))&&i64.wrap (n-(↑s.length:Int))==i64.wrap (n-(↑s.length:Int))&&1*i64.wrap (n-(↑s.length:Int))≤140737488355328&&i64.wrap (n-(↑s.length:Int))≤(9223372036854775807:Int)) (.req (((s.length+(List.map (fun n=>UInt8.ofNat (Int.toNat n)) (List.replicate (i64.wrap (n-(↑s.length:Int))).toNat (0:Int))).length:Nat):Int)≤(9223372036854775807:Int)) (.leaf (.done (.tuple [SV.str (s++List.map (fun n=>UInt8.ofNat (Int.toNat n)) (List.replicate (i64.wrap (n-(↑s.length:Int))).toNat (0:Int))),J 0])))))))
theorem yK0(s:List UInt8)(n:Int):w9 (Env.of pP (v7 [])) 1000 (j8 pP 253) .unit (x9 24 []) (u9 pP 253) yK1 (u7 pP 253 [.str s,J n]) [] =yK2 s n:=by kernel_rfl
theorem xW9(x:Int):u8.wrap x=x % 256:=by
 have h2:IntKind.wrap .u8 x=if false&&x % 256≥128 then x % 256-256 else x % 256:=rfl
 rw[h2];simp
theorem xW6(x:Int):u64.wrap x=x % 18446744073709551616:=by
 have h2:IntKind.wrap .u64 x=if false&&x % 18446744073709551616≥9223372036854775808 then x % 18446744073709551616-18446744073709551616 else x % 18446744073709551616:=rfl
 rw[h2];simp
theorem xW7{x:Int}(h0:0≤x)(h1:x<18446744073709551616):u64.wrap x=x:=by rw[xW6];omega
theorem fdN{x k:Int}(hk:0≤k):x.fdiv k=x / k:=Int.fdiv_eq_ediv_of_nonneg x hk
def beN(n:Int):Nat→List UInt8
 |0=>[]
 |w+1=>UInt8.ofNat (n / 256 ^ w % 256).toNat::beN n w
theorem zw5(n:Int):∀w,(beN n w).length=w
 |0=>rfl
 |w+1=>congrArg (· +1) (zw5 n w)
theorem bq(n:Int){k:Int}(hk:0≤k)(h0:0≤n)(h1:n<18446744073709551616):u8.wrap ((u64.wrap n).fdiv k)=n / k % 256:=by rw[xW9,xW7 h0 h1,fdN hk]
theorem tmN{x:Int}(hx:0≤x):x.tmod 256=x % 256:=Int.tmod_eq_emod_of_nonneg hx
theorem tdN{x:Int}(hx:0≤x):x.tdiv 256=x / 256:=Int.tdiv_eq_ediv_of_nonneg hx
theorem wdN{x:Int}(h0:0≤x)(h1:x<18446744073709551616):u64.wrap (x.tdiv 256)=x / 256:=by rw[tdN h0,xW6];omega
theorem w8N{x:Int}(h0:0≤x):u8.wrap (x.tmod 256)=x % 256:=by rw[tmN h0,xW9];omega
def tkN(s:List UInt8)(a:Nat):Nat→Int
 |0=>0
 |w+1=>tkN s a w*256+(s.getD (a+w) 0).toNat
def tk(s:List UInt8)(a w:Nat):Int:=match s with
 |[] =>tkN [] a w
 |b::l=>tkN (b::l) a w
theorem xR2(s:List UInt8)(a w:Nat):tk s a w=tkN s a w:=by cases s<;>rfl
theorem m9(s:List UInt8)(i:Nat):(0:Int)≤((s.getD i 0).toNat:Int)∧((s.getD i 0).toNat:Int)<256:=by
 have:=(s.getD i 0).toNat_lt;omega
theorem yG1{x b:Int}(h0:0≤x)(h1:x<72057594037927936)(b0:0≤b)(b1:b<256):u64.wrap (((BitVec.ofInt 64 (u64.wrap (x*256)) |||BitVec.ofInt 64 (u64.wrap b)).toNat:Nat):Int)=x*256+b:=by
 rw[xW7 (x:=x*256) (by omega) (by omega),xW7 b0 (by omega)];obtain⟨m,rfl⟩:=Int.eq_ofNat_of_zero_le h0;obtain⟨k,rfl⟩:=Int.eq_ofNat_of_zero_le b0;rw[BitVec.toNat_or,BitVec.toNat_ofInt,BitVec.toNat_ofInt]
 have e1:((m:Int)*256 % ((2:Nat) ^ 64:Nat)).toNat=m <<< 8:=by
  rw[Nat.shiftLeft_eq];have:((2 ^ 64:Nat):Int)=18446744073709551616:=rfl;rw[this];omega
 have e2:((k:Int) % ((2:Nat) ^ 64:Nat)).toNat=k:=by
  have:((2 ^ 64:Nat):Int)=18446744073709551616:=rfl;rw[this];omega
 rw[e1,e2,←Nat.shiftLeft_add_eq_or_of_lt (show k<2 ^ 8 by omega),Nat.shiftLeft_eq,xW7 (by omega) (by omega)]
 push_cast
 rfl
theorem orZ{b:Int}(b0:0≤b)(b1:b<256):u64.wrap (((BitVec.ofInt 64 0 |||BitVec.ofInt 64 (u64.wrap b)).toNat:Nat):Int)=b:=by
 have:=yG1 (x:=0) (b:=b) (by omega) (by omega) b0 b1;rw[show u64.wrap ((0:Int)*256)=0 from rfl]at this;rw[this];omega
def sg(x:Int):Int:=if x<2147483648 then x else x-4294967296
theorem xy7{x:Int}(h0:0≤x)(h1:x<4294967296):(i64.wrap (u64.wrap (x*4294967296))).fdiv 4294967296=sg x:=by
 rw[fdN (by omega),xW7 (by omega) (by omega)];unfold sg
 split
 ·rw[w64 (by omega) (by omega)];omega
 ·have:i64.wrap (x*4294967296)=x*4294967296-18446744073709551616:=by
   unfold IntKind.wrap;have e:(x*4294967296) % (2 ^ IntKind.i64.bits:Int)=x*4294967296:=Int.emod_eq_of_lt (by omega) (by show x*4294967296<18446744073709551616;omega);simp only[e];rw[if_pos (by simp[IntKind.signed,IntKind.bits];omega)];rfl
  rw[this];omega
theorem zU8{s:List UInt8}{i:Nat}(hi:i<s.length):s.drop i=s.getD i 0::s.drop (i+1):=zU7 hi
theorem ye2(s:List UInt8)(hs:s.length≤100000):∀ (n i:Nat) (u v:Int),i+n=s.length→v=ye9 u (s.drop i)→b9 pP (j8 pP 335) (.int .u64 v) (v5 pP 335 0) (j9 19 [(0,.str s),(3,.int .u64 u),(4,J i)]) []
 |n,i,u,v,hi,hv=>by
  refine w6 qS2 (n:=1000) (hint:=.unit) (keep:=x9 19 [0,3,4]) (p:=ye0) rfl ?_;erw [nu1 s u (i:Int)];unfold ye1
  have t0:(i:Int).toNat=i:=by omega
  have w1:i64.wrap ((i:Int)+1)=((i+1:Nat):Int):=by rw[w64 (by omega) (by omega)];omega
  rw[t0,w1]
  refine o5 (fun a=>?_) fun a=>?_
  ·match n,hi with
   |0,hi=>omega
   |n+1,hi=>
    rw[zU8 (by omega:i<s.length)]at hv;exact x6 (by simp;omega) ⟨o9 _ _,ye2 s hs n (i+1) _ v (by omega) hv⟩
  ·rw[List.drop_eq_nil_of_le (by omega)]at hv
   subst hv;rfl
theorem xl5(s:List UInt8)(hs:s.length≤100000):SCall pP 335 [.str s] (.int .u64 (ye9 0 s)):=by
 refine m6 rfl rfl (by kernel_rfl) (w6 qS2 (n:=1000) (hint:=.unit) (keep:=x9 19 [0,3,4]) (p:=yd8) (boxes:=[]) rfl ?_);have e:=nu0 s;unfold u7 u9 at e;erw [e];exact⟨o9 _ _,ye2 s hs s.length 0 0 _ (by omega) rfl⟩
theorem yq2:qa9.ok pP:=fun args t ht=>by
 simp only[qa9]at ht
 split at ht
 ·cases ht
  intro h;exact xl5 _ (by have:=of_decide_eq_true h;omega)
 ·cases ht
theorem qT3:Known pP (Env.of pP (v7 [qa9])):=kW (l:=[qa9]) ⟨yq2,trivial⟩
theorem xv2(n:Int)(h0:0≤n)(h1:n<256):SCall pP 298 [J n,J 1] (.tuple [.str (beN n 1),J 0]):=by
 refine m6 rfl rfl (by kernel_rfl) (w6 qS2 (n:=1000) (hint:=.unit) (keep:=x9 25 []) (p:=x91) (boxes:=[]) rfl ?_);have e:=wu1 n;unfold u7 u9 at e;erw [e];unfold x92;rw[bq n (k:=1) (by decide) h0 (by omega)];rw[xW7 h0 (by omega)]
 repeat' first
  |exact rfl
  |refine x6 rfl ?_
  |refine o5 (fun h=>absurd h (by omega)) (fun _=>?_)
  |refine f9 (fun h=>absurd (of_decide_eq_false h) (by omega)) (fun _=>?_)
theorem xv6(n:Int)(h0:0≤n)(h1:n<256):SCall pP 279 [J n,J 1] (.tuple [.str (beN n 1),J 0]):=by
 refine m6 rfl rfl (by kernel_rfl) (w6 qS2 (n:=1000) (hint:=.unit) (keep:=x9 27 []) (p:=ja1) (boxes:=[]) rfl ?_);have e:=ja0 n;unfold u7 u9 at e;erw [e];unfold ja2;rw[xW7 h0 (by omega)]
 have m0:u8.wrap ((n).tmod 256)=n / 1 % 256:=by rw[w8N (by omega)];try omega
 rw[m0]
 repeat' first
  |exact rfl
  |refine x6 rfl ?_
  |refine o5 (fun h=>absurd h (by omega)) (fun _=>?_)
  |refine f9 (fun h=>absurd (of_decide_eq_false h) (by omega)) (fun _=>?_)
theorem xv3(n:Int)(h0:0≤n)(h1:n<65536):SCall pP 298 [J n,J 2] (.tuple [.str (beN n 2),J 0]):=by
 refine m6 rfl rfl (by kernel_rfl) (w6 qS2 (n:=1000) (hint:=.unit) (keep:=x9 25 []) (p:=x93) (boxes:=[]) rfl ?_);have e:=wu2 n;unfold u7 u9 at e;erw [e];unfold x94;rw[bq n (k:=256) (by decide) h0 (by omega),bq n (k:=1) (by decide) h0 (by omega)];rw[xW7 h0 (by omega)]
 repeat' first
  |exact rfl
  |refine x6 rfl ?_
  |refine o5 (fun h=>absurd h (by omega)) (fun _=>?_)
  |refine f9 (fun h=>absurd (of_decide_eq_false h) (by omega)) (fun _=>?_)
theorem xv7(n:Int)(h0:0≤n)(h1:n<65536):SCall pP 279 [J n,J 2] (.tuple [.str (beN n 2),J 0]):=by
 refine m6 rfl rfl (by kernel_rfl) (w6 qS2 (n:=1000) (hint:=.unit) (keep:=x9 27 []) (p:=ja4) (boxes:=[]) rfl ?_);have e:=ja3 n;unfold u7 u9 at e;erw [e];unfold ja5;rw[xW7 h0 (by omega)]
 have m0:u8.wrap ((n).tmod 256)=n / 1 % 256:=by rw[w8N (by omega)];try omega
 rw[m0]
 have d1:u64.wrap ((n).tdiv 256)=n / 256:=by rw[wdN (by omega) (by omega)];try omega
 rw[d1]
 have m1:u8.wrap ((n / 256).tmod 256)=n / 256 % 256:=by rw[w8N (by omega)];try omega
 rw[m1]
 repeat' first
  |exact rfl
  |refine x6 rfl ?_
  |refine o5 (fun h=>absurd h (by omega)) (fun _=>?_)
  |refine f9 (fun h=>absurd (of_decide_eq_false h) (by omega)) (fun _=>?_)
theorem xv4(n:Int)(h0:0≤n)(h1:n<4294967296):SCall pP 298 [J n,J 4] (.tuple [.str (beN n 4),J 0]):=by
 refine m6 rfl rfl (by kernel_rfl) (w6 qS2 (n:=1000) (hint:=.unit) (keep:=x9 25 []) (p:=x95) (boxes:=[]) rfl ?_);have e:=wu4 n;unfold u7 u9 at e;erw [e];unfold x96;rw[bq n (k:=16777216) (by decide) h0 (by omega),bq n (k:=65536) (by decide) h0 (by omega),bq n (k:=256) (by decide) h0 (by omega),bq n (k:=1) (by decide) h0 (by omega)];rw[xW7 h0 (by omega)]
 repeat' first
  |exact rfl
  |refine x6 rfl ?_
  |refine o5 (fun h=>absurd h (by omega)) (fun _=>?_)
  |refine f9 (fun h=>absurd (of_decide_eq_false h) (by omega)) (fun _=>?_)
theorem xv8(n:Int)(h0:0≤n)(h1:n<4294967296):SCall pP 279 [J n,J 4] (.tuple [.str (beN n 4),J 0]):=by
 refine m6 rfl rfl (by kernel_rfl) (w6 qS2 (n:=1000) (hint:=.unit) (keep:=x9 27 []) (p:=ja7) (boxes:=[]) rfl ?_);have e:=ja6 n;unfold u7 u9 at e;erw [e];unfold ja8;rw[xW7 h0 (by omega)]
 have m0:u8.wrap ((n).tmod 256)=n / 1 % 256:=by rw[w8N (by omega)];try omega
 rw[m0]
 have d1:u64.wrap ((n).tdiv 256)=n / 256:=by rw[wdN (by omega) (by omega)];try omega
 rw[d1]
 have m1:u8.wrap ((n / 256).tmod 256)=n / 256 % 256:=by rw[w8N (by omega)];try omega
 rw[m1]
 have d2:u64.wrap ((n / 256).tdiv 256)=n / 65536:=by rw[wdN (by omega) (by omega)];try omega
 rw[d2]
 have m2:u8.wrap ((n / 65536).tmod 256)=n / 65536 % 256:=by rw[w8N (by omega)];try omega
 rw[m2]
 have d3:u64.wrap ((n / 65536).tdiv 256)=n / 16777216:=by rw[wdN (by omega) (by omega)];try omega
 rw[d3]
 have m3:u8.wrap ((n / 16777216).tmod 256)=n / 16777216 % 256:=by rw[w8N (by omega)];try omega
 rw[m3]
 repeat' first
  |exact rfl
  |refine x6 rfl ?_
  |refine o5 (fun h=>absurd h (by omega)) (fun _=>?_)
  |refine f9 (fun h=>absurd (of_decide_eq_false h) (by omega)) (fun _=>?_)
theorem xv5(n:Int)(h0:0≤n)(h1:n<281474976710656):SCall pP 298 [J n,J 6] (.tuple [.str (beN n 6),J 0]):=by
 refine m6 rfl rfl (by kernel_rfl) (w6 qS2 (n:=1000) (hint:=.unit) (keep:=x9 25 []) (p:=x98) (boxes:=[]) rfl ?_);have e:=wu6 n;unfold u7 u9 at e;erw [e];unfold x99;rw[bq n (k:=1099511627776) (by decide) h0 (by omega),bq n (k:=4294967296) (by decide) h0 (by omega),bq n (k:=16777216) (by decide) h0 (by omega),bq n (k:=65536) (by decide) h0 (by omega),bq n (k:=256) (by decide) h0 (by omega),bq n (k:=1) (by decide) h0 (by omega)];rw[xW7 h0 (by omega)]
 repeat' first
  |exact rfl
  |refine x6 rfl ?_
  |refine o5 (fun h=>absurd h (by omega)) (fun _=>?_)
  |refine f9 (fun h=>absurd (of_decide_eq_false h) (by omega)) (fun _=>?_)
theorem xv9(n:Int)(h0:0≤n)(h1:n<281474976710656):SCall pP 279 [J n,J 6] (.tuple [.str (beN n 6),J 0]):=by
 refine m6 rfl rfl (by kernel_rfl) (w6 qS2 (n:=1000) (hint:=.unit) (keep:=x9 27 []) (p:=jb0) (boxes:=[]) rfl ?_);have e:=ja9 n;unfold u7 u9 at e;erw [e];unfold jb1;rw[xW7 h0 (by omega)]
 have m0:u8.wrap ((n).tmod 256)=n / 1 % 256:=by rw[w8N (by omega)];try omega
 rw[m0]
 have d1:u64.wrap ((n).tdiv 256)=n / 256:=by rw[wdN (by omega) (by omega)];try omega
 rw[d1]
 have m1:u8.wrap ((n / 256).tmod 256)=n / 256 % 256:=by rw[w8N (by omega)];try omega
 rw[m1]
 have d2:u64.wrap ((n / 256).tdiv 256)=n / 65536:=by rw[wdN (by omega) (by omega)];try omega
 rw[d2]
 have m2:u8.wrap ((n / 65536).tmod 256)=n / 65536 % 256:=by rw[w8N (by omega)];try omega
 rw[m2]
 have d3:u64.wrap ((n / 65536).tdiv 256)=n / 16777216:=by rw[wdN (by omega) (by omega)];try omega
 rw[d3]
 have m3:u8.wrap ((n / 16777216).tmod 256)=n / 16777216 % 256:=by rw[w8N (by omega)];try omega
 rw[m3]
 have d4:u64.wrap ((n / 16777216).tdiv 256)=n / 4294967296:=by rw[wdN (by omega) (by omega)];try omega
 rw[d4]
 have m4:u8.wrap ((n / 4294967296).tmod 256)=n / 4294967296 % 256:=by rw[w8N (by omega)];try omega
 rw[m4]
 have d5:u64.wrap ((n / 4294967296).tdiv 256)=n / 1099511627776:=by rw[wdN (by omega) (by omega)];try omega
 rw[d5]
 have m5:u8.wrap ((n / 1099511627776).tmod 256)=n / 1099511627776 % 256:=by rw[w8N (by omega)];try omega
 rw[m5]
 repeat' first
  |exact rfl
  |refine x6 rfl ?_
  |refine o5 (fun h=>absurd h (by omega)) (fun _=>?_)
  |refine f9 (fun h=>absurd (of_decide_eq_false h) (by omega)) (fun _=>?_)
end Go.Proofs.YtnkaepnblikcdaaGreat
set_option maxHeartbeats 4000000
namespace Go.Proofs.YtnkaepnblikcdaaGreat
open Go.Sx
theorem ixB{i n:Nat}(h:i<n):(0≤((i:Nat):Int)&&((i:Nat):Int)< ((n:Nat):Int))=true:=by simp;omega
theorem f6{x:Int}(h0: -9000000000000000000≤x)(h1:x≤9000000000000000000):i64.wrap x=x:=w64 (by omega) (by omega)
theorem xu6(n:Int)(h0: -2147483648≤n)(h1:n<2147483648):SCall pP 299 [J n,J 4] (.tuple [.str (beN n 4),J 0]):=by
 refine m6 rfl rfl (by kernel_rfl) (w6 qS2 (n:=1000) (hint:=.unit) (keep:=x9 32 []) (p:=x70) (boxes:=[]) rfl ?_);have e:=wi4 n;unfold u7 u9 at e;erw [e];unfold x71
 have q3:u8.wrap ((u64.wrap n).fdiv 16777216)=n / 16777216 % 256:=by rw[xW9,xW6,fdN (by omega)];omega
 have q2:u8.wrap ((u64.wrap n).fdiv 65536)=n / 65536 % 256:=by rw[xW9,xW6,fdN (by omega)];omega
 have q1:u8.wrap ((u64.wrap n).fdiv 256)=n / 256 % 256:=by rw[xW9,xW6,fdN (by omega)];omega
 have q0:u8.wrap ((u64.wrap n).fdiv 1)=n / 1 % 256:=by rw[xW9,xW6,fdN (by omega)];omega
 rw[q3,q2,q1,q0]
 repeat' first
  |exact rfl
  |refine x6 rfl ?_
  |refine o5 (fun h=>absurd h (by omega)) (fun _=>?_)
  |refine f9 (fun h=>absurd (of_decide_eq_false h) (by omega)) (fun _=>?_)
theorem xu7(n:Int)(h0: -2147483648≤n)(h1:n<2147483648):SCall pP 280 [J n,J 4] (.tuple [.str (beN n 4),J 0]):=by
 refine m6 rfl rfl (by kernel_rfl) (w6 qS2 (n:=1000) (hint:=.unit) (keep:=x9 34 []) (p:=x73) (boxes:=[]) rfl ?_);have e:=x72 n;unfold u7 u9 at e;erw [e];unfold x74
 have hr:0≤u64.wrap n∧u64.wrap n<18446744073709551616:=by rw[xW6];omega
 have hm:u64.wrap n=n % 18446744073709551616:=xW6 n;generalize u64.wrap n=m at hr hm ⊢
 have d1:u64.wrap (m.tdiv 256)=m / 256:=by rw[wdN (by omega) (by omega)]
 have d2:u64.wrap ((m / 256).tdiv 256)=m / 65536:=by rw[wdN (by omega) (by omega)];omega
 have d3:u64.wrap ((m / 65536).tdiv 256)=m / 16777216:=by rw[wdN (by omega) (by omega)];omega
 have m0:u8.wrap (m.tmod 256)=n / 1 % 256:=by rw[w8N (by omega)];omega
 have m1:u8.wrap ((m / 256).tmod 256)=n / 256 % 256:=by rw[w8N (by omega)];omega
 have m2:u8.wrap ((m / 65536).tmod 256)=n / 65536 % 256:=by rw[w8N (by omega)];omega
 have m3:u8.wrap ((m / 16777216).tmod 256)=n / 16777216 % 256:=by rw[w8N (by omega)];omega
 rw[d1,d2,d3,m0,m1,m2,m3]
 repeat' first
  |exact rfl
  |refine x6 rfl ?_
  |refine o5 (fun h=>absurd h (by omega)) (fun _=>?_)
  |refine f9 (fun h=>absurd (of_decide_eq_false h) (by omega)) (fun _=>?_)
theorem xP4(s:List UInt8)(a:Nat):0≤tkN s a 1∧tkN s a 1<256:=by
 have q0:=m9 s a;simp only[tkN,Nat.add_zero];omega
theorem dk1{s:List UInt8}{a:Nat}(h:a+1≤s.length):List.drop a (List.take (a+1) s)=[s.getD a 0] :=by
 rw[List.drop_take,show a+1-a=1 by omega];rw[zU8 (show a<s.length by omega)];rfl
theorem nk1{s:List UInt8}{a:Nat}(h:a+1≤s.length):ye9 0 (List.drop a (List.take (a+1) s))=tkN s a 1:=by
 have q0:=m9 s a;rw[dk1 h];simp only[ye9,xW6,tkN,Nat.add_zero];omega
theorem xP5(s:List UInt8)(a:Nat):0≤tkN s a 4∧tkN s a 4<4294967296:=by
 have q0:=m9 s a;have q1:=m9 s (a+1);have q2:=m9 s (a+2);have q3:=m9 s (a+3);simp only[tkN,Nat.add_zero];omega
theorem dk4{s:List UInt8}{a:Nat}(h:a+4≤s.length):List.drop a (List.take (a+4) s)=[s.getD a 0,s.getD (a+1) 0,s.getD (a+2) 0,s.getD (a+3) 0] :=by
 rw[List.drop_take,show a+4-a=4 by omega];rw[zU8 (show a<s.length by omega),zU8 (show a+1<s.length by omega),zU8 (show a+1+1<s.length by omega),zU8 (show a+1+1+1<s.length by omega)];rfl
theorem nk4{s:List UInt8}{a:Nat}(h:a+4≤s.length):ye9 0 (List.drop a (List.take (a+4) s))=tkN s a 4:=by
 have q0:=m9 s a;have q1:=m9 s (a+1);have q2:=m9 s (a+2);have q3:=m9 s (a+3);rw[dk4 h];simp only[ye9,xW6,tkN,Nat.add_zero];omega
theorem xP6(s:List UInt8)(a:Nat):0≤tkN s a 6∧tkN s a 6<281474976710656:=by
 have q0:=m9 s a;have q1:=m9 s (a+1);have q2:=m9 s (a+2);have q3:=m9 s (a+3);have q4:=m9 s (a+4);have q5:=m9 s (a+5);simp only[tkN,Nat.add_zero];omega
theorem dk6{s:List UInt8}{a:Nat}(h:a+6≤s.length):List.drop a (List.take (a+6) s)=[s.getD a 0,s.getD (a+1) 0,s.getD (a+2) 0,s.getD (a+3) 0,s.getD (a+4) 0,s.getD (a+5) 0] :=by
 rw[List.drop_take,show a+6-a=6 by omega];rw[zU8 (show a<s.length by omega),zU8 (show a+1<s.length by omega),zU8 (show a+1+1<s.length by omega),zU8 (show a+1+1+1<s.length by omega),zU8 (show a+1+1+1+1<s.length by omega),zU8 (show a+1+1+1+1+1<s.length by omega)];rfl
theorem nk6{s:List UInt8}{a:Nat}(h:a+6≤s.length):ye9 0 (List.drop a (List.take (a+6) s))=tkN s a 6:=by
 have q0:=m9 s a;have q1:=m9 s (a+1);have q2:=m9 s (a+2);have q3:=m9 s (a+3);have q4:=m9 s (a+4);have q5:=m9 s (a+5);rw[dk6 h];simp only[ye9,xW6,tkN,Nat.add_zero];omega
theorem xP8(s:List UInt8)(a:Nat)(h:a≤100000):xP7 s (a:Int)=tkN s a 1:=by
 have q0:=m9 s (a+0)
 have k0:(i64.wrap ((a:Int)+0)).toNat=a+0:=by rw[f6 (by omega) (by omega)];omega
 unfold xP7;rw[k0];rw[orZ q0.1 q0.2]
 have p0:tkN s a 1=((s.getD (a+0) 0).toNat:Int):=by simp only[tkN,Int.zero_mul,Int.zero_add]
 have l0:0≤tkN s a 1∧tkN s a 1<256:=by rw[p0];exact q0
 rw[←p0]
theorem xQ0(s:List UInt8)(a:Nat)(h:a≤100000):xP9 s (a:Int)=tkN s a 4:=by
 have q0:=m9 s (a+0)
 have k0:(i64.wrap ((a:Int)+0)).toNat=a+0:=by rw[f6 (by omega) (by omega)];omega
 have q1:=m9 s (a+1)
 have k1:(i64.wrap ((a:Int)+1)).toNat=a+1:=by rw[f6 (by omega) (by omega)];omega
 have q2:=m9 s (a+2)
 have k2:(i64.wrap ((a:Int)+2)).toNat=a+2:=by rw[f6 (by omega) (by omega)];omega
 have q3:=m9 s (a+3)
 have k3:(i64.wrap ((a:Int)+3)).toNat=a+3:=by rw[f6 (by omega) (by omega)];omega
 unfold xP9;rw[k0,k1,k2,k3];rw[orZ q0.1 q0.2]
 have p0:tkN s a 1=((s.getD (a+0) 0).toNat:Int):=by simp only[tkN,Int.zero_mul,Int.zero_add]
 have l0:0≤tkN s a 1∧tkN s a 1<256:=by rw[p0];exact q0
 rw[←p0];rw[yG1 (x:=tkN s a 1) (b:=((s.getD (a+1) 0).toNat:Int)) (by omega) (by omega) q1.1 q1.2];have p1:tkN s a 2=tkN s a 1*256+((s.getD (a+1) 0).toNat:Int):=rfl
 have l1:0≤tkN s a 2∧tkN s a 2<65536:=by omega
 rw[←p1];rw[yG1 (x:=tkN s a 2) (b:=((s.getD (a+2) 0).toNat:Int)) (by omega) (by omega) q2.1 q2.2];have p2:tkN s a 3=tkN s a 2*256+((s.getD (a+2) 0).toNat:Int):=rfl
 have l2:0≤tkN s a 3∧tkN s a 3<16777216:=by omega
 rw[←p2];rw[yG1 (x:=tkN s a 3) (b:=((s.getD (a+3) 0).toNat:Int)) (by omega) (by omega) q3.1 q3.2];have p3:tkN s a 4=tkN s a 3*256+((s.getD (a+3) 0).toNat:Int):=rfl
 have l3:0≤tkN s a 4∧tkN s a 4<4294967296:=by omega
 rw[←p3]
theorem xQ2(s:List UInt8)(a:Nat)(h:a≤100000):xQ1 s (a:Int)=tkN s a 6:=by
 have q0:=m9 s (a+0)
 have k0:(i64.wrap ((a:Int)+0)).toNat=a+0:=by rw[f6 (by omega) (by omega)];omega
 have q1:=m9 s (a+1)
 have k1:(i64.wrap ((a:Int)+1)).toNat=a+1:=by rw[f6 (by omega) (by omega)];omega
 have q2:=m9 s (a+2)
 have k2:(i64.wrap ((a:Int)+2)).toNat=a+2:=by rw[f6 (by omega) (by omega)];omega
 have q3:=m9 s (a+3)
 have k3:(i64.wrap ((a:Int)+3)).toNat=a+3:=by rw[f6 (by omega) (by omega)];omega
 have q4:=m9 s (a+4)
 have k4:(i64.wrap ((a:Int)+4)).toNat=a+4:=by rw[f6 (by omega) (by omega)];omega
 have q5:=m9 s (a+5)
 have k5:(i64.wrap ((a:Int)+5)).toNat=a+5:=by rw[f6 (by omega) (by omega)];omega
 unfold xQ1;rw[k0,k1,k2,k3,k4,k5];rw[orZ q0.1 q0.2]
 have p0:tkN s a 1=((s.getD (a+0) 0).toNat:Int):=by simp only[tkN,Int.zero_mul,Int.zero_add]
 have l0:0≤tkN s a 1∧tkN s a 1<256:=by rw[p0];exact q0
 rw[←p0];rw[yG1 (x:=tkN s a 1) (b:=((s.getD (a+1) 0).toNat:Int)) (by omega) (by omega) q1.1 q1.2];have p1:tkN s a 2=tkN s a 1*256+((s.getD (a+1) 0).toNat:Int):=rfl
 have l1:0≤tkN s a 2∧tkN s a 2<65536:=by omega
 rw[←p1];rw[yG1 (x:=tkN s a 2) (b:=((s.getD (a+2) 0).toNat:Int)) (by omega) (by omega) q2.1 q2.2];have p2:tkN s a 3=tkN s a 2*256+((s.getD (a+2) 0).toNat:Int):=rfl
 have l2:0≤tkN s a 3∧tkN s a 3<16777216:=by omega
 rw[←p2];rw[yG1 (x:=tkN s a 3) (b:=((s.getD (a+3) 0).toNat:Int)) (by omega) (by omega) q3.1 q3.2];have p3:tkN s a 4=tkN s a 3*256+((s.getD (a+3) 0).toNat:Int):=rfl
 have l3:0≤tkN s a 4∧tkN s a 4<4294967296:=by omega
 rw[←p3];rw[yG1 (x:=tkN s a 4) (b:=((s.getD (a+4) 0).toNat:Int)) (by omega) (by omega) q4.1 q4.2];have p4:tkN s a 5=tkN s a 4*256+((s.getD (a+4) 0).toNat:Int):=rfl
 have l4:0≤tkN s a 5∧tkN s a 5<1099511627776:=by omega
 rw[←p4];rw[yG1 (x:=tkN s a 5) (b:=((s.getD (a+5) 0).toNat:Int)) (by omega) (by omega) q5.1 q5.2];have p5:tkN s a 6=tkN s a 5*256+((s.getD (a+5) 0).toNat:Int):=rfl
 have l5:0≤tkN s a 6∧tkN s a 6<281474976710656:=by omega
 rw[←p5]
theorem xs9(s:List UInt8)(a:Nat)(h:a+1≤s.length)(hs:s.length≤100000):SCall pP 282 [.str s,J (a:Int),J 1] (.tuple [J (tk s a 1),J ((a+1:Nat):Int),J 0]):=by
 refine m6 rfl rfl (by kernel_rfl) (w6 qS2 (n:=1000) (hint:=.unit) (keep:=x9 30 []) (p:=xU2) (boxes:=[]) rfl ?_);have e:=tw1 s (a:Int);unfold u7 u9 at e;erw [e];unfold xU3
 have n0:((a:Int)).toNat=a:=by omega
 have jw:i64.wrap ((a:Int)+1)=((a+1:Nat):Int):=by rw[f6 (by omega) (by omega)];omega
 have jl:i64.wrap ((s.length:Int)-(a:Int))=(s.length:Int)-(a:Int):=f6 (by omega) (by omega);have tl:=xP4 s a;rw[xR2]
 have j0:i64.wrap ((a:Int)+0)=((a+0:Nat):Int):=by rw[f6 (by omega) (by omega)];omega
 have k0:((a+0:Nat):Int).toNat=a+0:=by omega
 have q0:=m9 s (a+0);rw[xP8 s a (by omega)];rw[j0,jw,jl];rw[f6 (x:=tkN s a 1) (by omega) (by omega)]
 exact o5 (fun h=>absurd h (by omega)) fun _=>o5 (fun h=>absurd h (by omega)) fun _=>o5 (fun h=>absurd h (by omega)) fun _=>x6 rfl (x6 (ixB (by omega)) (o5 (fun h=>absurd h (by omega)) fun _=>rfl))
theorem xt2(s:List UInt8)(a:Nat)(h:a+1≤s.length)(hs:s.length≤100000):SCall pP 321 [.str s,J (a:Int),J 1] (.tuple [J (tk s a 1),J ((a+1:Nat):Int),J 0]):=by
 refine m6 rfl rfl (by kernel_rfl) (w6 qT3 (n:=1000) (hint:=.unit) (keep:=x9 31 []) (p:=xU9) (boxes:=[]) rfl ?_);have e:=xU8 s (a:Int);unfold u7 u9 at e;erw [e];unfold xV0
 have n0:((a:Int)).toNat=a:=by omega
 have jw:i64.wrap ((a:Int)+1)=((a+1:Nat):Int):=by rw[f6 (by omega) (by omega)];omega
 have jl:i64.wrap ((s.length:Int)-(a:Int))=(s.length:Int)-(a:Int):=f6 (by omega) (by omega);have tl:=xP4 s a;rw[xR2];rw[jw,jl,n0,show((a+1:Nat):Int).toNat=a+1 by omega,nk1 h];rw[f6 (x:=tkN s a 1) (by omega) (by omega)]
 exact o5 (fun h=>absurd h (by omega)) fun _=>o5 (fun h=>absurd h (by omega)) fun _=>o5 (fun h=>absurd h (by omega)) fun _=>x6 (by simp<;>omega) (x6 (decide_eq_true (by rw[dk1 h];simp)) (o5 (fun h=>absurd h (by omega)) fun _=>rfl))
theorem xt1(s:List UInt8)(a:Nat)(h:a+6≤s.length)(hs:s.length≤100000):SCall pP 282 [.str s,J (a:Int),J 6] (.tuple [J (tk s a 6),J ((a+6:Nat):Int),J 0]):=by
 refine m6 rfl rfl (by kernel_rfl) (w6 qS2 (n:=1000) (hint:=.unit) (keep:=x9 30 []) (p:=xU6) (boxes:=[]) rfl ?_);have e:=tw6 s (a:Int);unfold u7 u9 at e;erw [e];unfold xU7
 have n0:((a:Int)).toNat=a:=by omega
 have jw:i64.wrap ((a:Int)+6)=((a+6:Nat):Int):=by rw[f6 (by omega) (by omega)];omega
 have jl:i64.wrap ((s.length:Int)-(a:Int))=(s.length:Int)-(a:Int):=f6 (by omega) (by omega);have tl:=xP6 s a;rw[xR2]
 have j0:i64.wrap ((a:Int)+0)=((a+0:Nat):Int):=by rw[f6 (by omega) (by omega)];omega
 have k0:((a+0:Nat):Int).toNat=a+0:=by omega
 have q0:=m9 s (a+0)
 have j1:i64.wrap ((a:Int)+1)=((a+1:Nat):Int):=by rw[f6 (by omega) (by omega)];omega
 have k1:((a+1:Nat):Int).toNat=a+1:=by omega
 have q1:=m9 s (a+1)
 have j2:i64.wrap ((a:Int)+2)=((a+2:Nat):Int):=by rw[f6 (by omega) (by omega)];omega
 have k2:((a+2:Nat):Int).toNat=a+2:=by omega
 have q2:=m9 s (a+2)
 have j3:i64.wrap ((a:Int)+3)=((a+3:Nat):Int):=by rw[f6 (by omega) (by omega)];omega
 have k3:((a+3:Nat):Int).toNat=a+3:=by omega
 have q3:=m9 s (a+3)
 have j4:i64.wrap ((a:Int)+4)=((a+4:Nat):Int):=by rw[f6 (by omega) (by omega)];omega
 have k4:((a+4:Nat):Int).toNat=a+4:=by omega
 have q4:=m9 s (a+4)
 have j5:i64.wrap ((a:Int)+5)=((a+5:Nat):Int):=by rw[f6 (by omega) (by omega)];omega
 have k5:((a+5:Nat):Int).toNat=a+5:=by omega
 have q5:=m9 s (a+5);rw[xQ2 s a (by omega)];rw[j0,j1,j2,j3,j4,j5,jw,jl];rw[f6 (x:=tkN s a 6) (by omega) (by omega)]
 exact o5 (fun h=>absurd h (by omega)) fun _=>o5 (fun h=>absurd h (by omega)) fun _=>o5 (fun h=>absurd h (by omega)) fun _=>x6 rfl (x6 (ixB (by omega)) (x6 rfl (x6 (ixB (by omega)) (x6 rfl (x6 (ixB (by omega)) (x6 rfl (x6 (ixB (by omega)) (x6 rfl (x6 (ixB (by omega)) (x6 rfl (x6 (ixB (by omega)) (o5 (fun h=>absurd h (by omega)) fun _=>rfl))))))))))))
theorem xt4(s:List UInt8)(a:Nat)(h:a+6≤s.length)(hs:s.length≤100000):SCall pP 321 [.str s,J (a:Int),J 6] (.tuple [J (tk s a 6),J ((a+6:Nat):Int),J 0]):=by
 refine m6 rfl rfl (by kernel_rfl) (w6 qT3 (n:=1000) (hint:=.unit) (keep:=x9 31 []) (p:=xV5) (boxes:=[]) rfl ?_);have e:=xV4 s (a:Int);unfold u7 u9 at e;erw [e];unfold xV6
 have n0:((a:Int)).toNat=a:=by omega
 have jw:i64.wrap ((a:Int)+6)=((a+6:Nat):Int):=by rw[f6 (by omega) (by omega)];omega
 have jl:i64.wrap ((s.length:Int)-(a:Int))=(s.length:Int)-(a:Int):=f6 (by omega) (by omega);have tl:=xP6 s a;rw[xR2];rw[jw,jl,n0,show((a+6:Nat):Int).toNat=a+6 by omega,nk6 h];rw[f6 (x:=tkN s a 6) (by omega) (by omega)]
 exact o5 (fun h=>absurd h (by omega)) fun _=>o5 (fun h=>absurd h (by omega)) fun _=>o5 (fun h=>absurd h (by omega)) fun _=>x6 (by simp<;>omega) (x6 (decide_eq_true (by rw[dk6 h];simp)) (o5 (fun h=>absurd h (by omega)) fun _=>rfl))
theorem xt0(s:List UInt8)(a:Nat)(h:a+4≤s.length)(hs:s.length≤100000):SCall pP 282 [.str s,J (a:Int),J 4] (.tuple [J (tk s a 4),J ((a+4:Nat):Int),J 0]):=by
 refine m6 rfl rfl (by kernel_rfl) (w6 qS2 (n:=1000) (hint:=.unit) (keep:=x9 30 []) (p:=xU4) (boxes:=[]) rfl ?_);have e:=tw4 s (a:Int);unfold u7 u9 at e;erw [e];unfold xU5
 have n0:((a:Int)).toNat=a:=by omega
 have jw:i64.wrap ((a:Int)+4)=((a+4:Nat):Int):=by rw[f6 (by omega) (by omega)];omega
 have jl:i64.wrap ((s.length:Int)-(a:Int))=(s.length:Int)-(a:Int):=f6 (by omega) (by omega);have tl:=xP5 s a;rw[xR2]
 have j0:i64.wrap ((a:Int)+0)=((a+0:Nat):Int):=by rw[f6 (by omega) (by omega)];omega
 have k0:((a+0:Nat):Int).toNat=a+0:=by omega
 have q0:=m9 s (a+0)
 have j1:i64.wrap ((a:Int)+1)=((a+1:Nat):Int):=by rw[f6 (by omega) (by omega)];omega
 have k1:((a+1:Nat):Int).toNat=a+1:=by omega
 have q1:=m9 s (a+1)
 have j2:i64.wrap ((a:Int)+2)=((a+2:Nat):Int):=by rw[f6 (by omega) (by omega)];omega
 have k2:((a+2:Nat):Int).toNat=a+2:=by omega
 have q2:=m9 s (a+2)
 have j3:i64.wrap ((a:Int)+3)=((a+3:Nat):Int):=by rw[f6 (by omega) (by omega)];omega
 have k3:((a+3:Nat):Int).toNat=a+3:=by omega
 have q3:=m9 s (a+3);rw[xQ0 s a (by omega)];rw[j0,j1,j2,j3,jw,jl];rw[f6 (x:=tkN s a 4) (by omega) (by omega)]
 exact o5 (fun h=>absurd h (by omega)) fun _=>o5 (fun h=>absurd h (by omega)) fun _=>o5 (fun h=>absurd h (by omega)) fun _=>x6 rfl (x6 (ixB (by omega)) (x6 rfl (x6 (ixB (by omega)) (x6 rfl (x6 (ixB (by omega)) (x6 rfl (x6 (ixB (by omega)) (o5 (fun h=>absurd h (by omega)) fun _=>rfl))))))))
theorem xt3(s:List UInt8)(a:Nat)(h:a+4≤s.length)(hs:s.length≤100000):SCall pP 321 [.str s,J (a:Int),J 4] (.tuple [J (tk s a 4),J ((a+4:Nat):Int),J 0]):=by
 refine m6 rfl rfl (by kernel_rfl) (w6 qT3 (n:=1000) (hint:=.unit) (keep:=x9 31 []) (p:=xV2) (boxes:=[]) rfl ?_);have e:=xV1 s (a:Int);unfold u7 u9 at e;erw [e];unfold xV3
 have n0:((a:Int)).toNat=a:=by omega
 have jw:i64.wrap ((a:Int)+4)=((a+4:Nat):Int):=by rw[f6 (by omega) (by omega)];omega
 have jl:i64.wrap ((s.length:Int)-(a:Int))=(s.length:Int)-(a:Int):=f6 (by omega) (by omega);have tl:=xP5 s a;rw[xR2];rw[jw,jl,n0,show((a+4:Nat):Int).toNat=a+4 by omega,nk4 h];rw[f6 (x:=tkN s a 4) (by omega) (by omega)]
 exact o5 (fun h=>absurd h (by omega)) fun _=>o5 (fun h=>absurd h (by omega)) fun _=>o5 (fun h=>absurd h (by omega)) fun _=>x6 (by simp<;>omega) (x6 (decide_eq_true (by rw[dk4 h];simp)) (o5 (fun h=>absurd h (by omega)) fun _=>rfl))
theorem xs4(s:List UInt8)(a:Nat)(h:a+4≤s.length)(hs:s.length≤100000):SCall pP 284 [.str s,J (a:Int),J 4] (.tuple [J (sg (tk s a 4)),J ((a+4:Nat):Int),J 0]):=by
 refine m6 rfl rfl (by kernel_rfl) (w6 qS2 (n:=1000) (hint:=.unit) (keep:=x9 34 []) (p:=xK9) (boxes:=[]) rfl ?_);have e:=ti4 s (a:Int);unfold u7 u9 at e;erw [e];unfold xL0
 have n0:((a:Int)).toNat=a:=by omega
 have jw:i64.wrap ((a:Int)+4)=((a+4:Nat):Int):=by rw[f6 (by omega) (by omega)];omega
 have jl:i64.wrap ((s.length:Int)-(a:Int))=(s.length:Int)-(a:Int):=f6 (by omega) (by omega);have tl:=xP5 s a;rw[xR2]
 have j0:i64.wrap ((a:Int)+0)=((a+0:Nat):Int):=by rw[f6 (by omega) (by omega)];omega
 have k0:((a+0:Nat):Int).toNat=a+0:=by omega
 have q0:=m9 s (a+0)
 have j1:i64.wrap ((a:Int)+1)=((a+1:Nat):Int):=by rw[f6 (by omega) (by omega)];omega
 have k1:((a+1:Nat):Int).toNat=a+1:=by omega
 have q1:=m9 s (a+1)
 have j2:i64.wrap ((a:Int)+2)=((a+2:Nat):Int):=by rw[f6 (by omega) (by omega)];omega
 have k2:((a+2:Nat):Int).toNat=a+2:=by omega
 have q2:=m9 s (a+2)
 have j3:i64.wrap ((a:Int)+3)=((a+3:Nat):Int):=by rw[f6 (by omega) (by omega)];omega
 have k3:((a+3:Nat):Int).toNat=a+3:=by omega
 have q3:=m9 s (a+3);rw[xQ0 s a (by omega)];rw[j0,j1,j2,j3,jw,jl];rw[xy7 tl.1 tl.2]
 exact o5 (fun h=>absurd h (by omega)) fun _=>o5 (fun h=>absurd h (by omega)) fun _=>o5 (fun h=>absurd h (by omega)) fun _=>x6 rfl (x6 (ixB (by omega)) (x6 rfl (x6 (ixB (by omega)) (x6 rfl (x6 (ixB (by omega)) (x6 rfl (x6 (ixB (by omega)) (x6 rfl (x6 rfl rfl)))))))))
theorem xs5(s:List UInt8)(a:Nat)(h:a+4≤s.length)(hs:s.length≤100000):SCall pP 322 [.str s,J (a:Int),J 4] (.tuple [J (sg (tk s a 4)),J ((a+4:Nat):Int),J 0]):=by
 refine m6 rfl rfl (by kernel_rfl) (w6 qT3 (n:=1000) (hint:=.unit) (keep:=x9 46 []) (p:=xL2) (boxes:=[]) rfl ?_);have e:=xL1 s (a:Int);unfold u7 u9 at e;erw [e];unfold xL3
 have n0:((a:Int)).toNat=a:=by omega
 have jw:i64.wrap ((a:Int)+4)=((a+4:Nat):Int):=by rw[f6 (by omega) (by omega)];omega
 have jl:i64.wrap ((s.length:Int)-(a:Int))=(s.length:Int)-(a:Int):=f6 (by omega) (by omega);have tl:=xP5 s a;rw[xR2];rw[jw,jl,n0,show((a+4:Nat):Int).toNat=a+4 by omega,nk4 h];rw[dk4 h,f6 (x:=tkN s a 4) (by omega) (by omega),f6 (x:=tkN s a 4-4294967296) (by omega) (by omega)];have q0:=m9 s a;have q1:=m9 s (a+1);have q2:=m9 s (a+2);have q3:=m9 s (a+3)
 have hb:((s.getD a 0).toNat:Int)≥128↔¬tkN s a 4<2147483648:=by simp only[tkN,Nat.add_zero];omega
 refine o5 (fun h=>absurd h (by omega)) (fun _=>o5 (fun h=>absurd h (by omega)) (fun _=>o5 (fun h=>absurd h (by omega)) (fun _=>?_)))
 refine x6 (by simp<;>omega) (x6 (decide_eq_true (by simp<;>omega)) (x6 (by simp) (o5 (fun h=>?_) fun h=>?_)))
 ·have h:¬tkN s a 4<2147483648:=hb.1 h
  refine x6 rfl ?_;rw[show sg (tkN s a 4)=tkN s a 4-4294967296 from if_neg h];rfl
 ·have h:tkN s a 4<2147483648:=by
   rcases Int.lt_or_le (tkN s a 4) 2147483648 with h'|h'
   ·exact h'
   ·exact absurd (hb.2 (by omega)) h
  rw[show sg (tkN s a 4)=tkN s a 4 from if_pos h];rfl
structure Rc where
 kind:Int
 seq:Int
 line:Int
 done:Int
 src:V4
 dst:V4
def Rc.cells(r:Rc):List SV:=[J r.kind,J r.seq,J r.line,J r.done,J r.src.1,J r.src.2.1,J r.src.2.2.1,J r.src.2.2.2,J r.dst.1,J r.dst.2.1,J r.dst.2.2.1,J r.dst.2.2.2]
def Rc.sv(r:Rc):SV:=.agg r.cells
def qL7(c:V4):Bool:=inR c.1 (-2147483648) 2147483647&& (inR c.2.1 (-2147483648) 2147483647&& (inR c.2.2.1 (-2147483648) 2147483647&&inR c.2.2.2 (-2147483648) 2147483647))
def rcB(r:Rc):Bool:=inR r.kind 1 3&& (inR r.seq 1 1099511627776&& (inR r.line 0 1099511627776&& (inR r.done 0 16777216&& (qL7 r.src&&qL7 r.dst))))
theorem yW5{r:Rc}:rcB r=true↔(1≤r.kind∧r.kind≤3)∧(1≤r.seq∧r.seq≤1099511627776)∧(0≤r.line∧r.line≤1099511627776)∧(0≤r.done∧r.done≤16777216)∧((-2147483648≤r.src.1∧r.src.1≤2147483647)∧(-2147483648≤r.src.2.1∧r.src.2.1≤2147483647)∧(-2147483648≤r.src.2.2.1∧r.src.2.2.1≤2147483647)∧-2147483648≤r.src.2.2.2∧r.src.2.2.2≤2147483647)∧(-2147483648≤r.dst.1∧r.dst.1≤2147483647)∧(-2147483648≤r.dst.2.1∧r.dst.2.1≤2147483647)∧(-2147483648≤r.dst.2.2.1∧r.dst.2.2.1≤2147483647)∧-2147483648≤r.dst.2.2.2∧r.dst.2.2.2≤2147483647:=by
 simp only[rcB,qL7,Bool.and_eq_true,v8]
theorem xo2(r:Rc):SCall pP 296 [r.sv] (.bool (rcB r)):=
 o8 mix [] trivial 1000 (let z0:Plan:=.lit (.lit (.lit .all));.fork (.ln 27 (.lit .all)) (.ln 3 (.fork (.ln 23 (.lit .all)) (.ln 3 (.fork (.ln 19 (.lit .all)) (.ln 3 (.fork (.ln 15 (.lit .all)) (.ln 3 (.fork (.ln 11 (.lit .all)) (.ln 3 (.fork (.ln 7 (.lit .all)) (.ln 3 (.fork (.ln 3 (.lit .all)) (.ln 3 (.fork .all (.go (.lit (.go (.lit (.fork z0 (.lit (.lit (.fork .all (.go (.lit (.fork z0 (.lit (.lit (.fork .all (.go (.lit (.fork z0 (.lit (.lit (.fork .all (.go (.lit (.fork z0 (.lit (.lit (.fork .all (.go (.lit (.go (.lit (.go (.lit (.fork z0 (.lit (.lit (.fork .all (.go (.lit (.fork z0 (.lit (.lit (.fork .all (.go (.lit (.fork z0 (.lit (.lit (.fork .all (.go (.lit (.fork z0 (.lit (.lit (.fork .all (.go (.lit (.go (.lit .all)))))))))))))))))))))))))))))))))))))))))))))))))))))))))))))))))))))))))
  (t:=let y0:Tree SV:=.leaf (.bool false);.node (r.kind<1) y0 (.node (r.kind>3) y0 (.node (r.seq<1) y0 (.node (r.seq>1099511627776) y0 (.node (r.line<0) y0 (.node (r.line>1099511627776) y0 (.node (r.done<0) y0 (.node (r.done>16777216) y0 (.req true (.req true (.node (r.src.1 < -2147483648) y0 (.node (r.src.1≥2147483648) y0 (.req true (.node (r.src.2.1 < -2147483648) y0 (.node (r.src.2.1≥2147483648) y0 (.req true (.node (r.src.2.2.1 < -2147483648) y0 (.node (r.src.2.2.1≥2147483648) y0 (.req true (.node (r.src.2.2.2 < -2147483648) y0 (.node (r.src.2.2.2≥2147483648) y0 (.req true (.req true (.node (r.dst.1 < -2147483648) y0 (.node (r.dst.1≥2147483648) y0 (.req true (.node (r.dst.2.1 < -2147483648) y0 (.node (r.dst.2.1≥2147483648) y0 (.req true (.node (r.dst.2.2.1 < -2147483648) y0 (.node (r.dst.2.2.1≥2147483648) y0 (.req true (.node (r.dst.2.2.2 < -2147483648) y0 (.node (r.dst.2.2.2≥2147483648) y0 (.leaf (.bool true))))))))))))))))))))))))))))))))))))
  (by kernel_rfl) (by
   have q:∀b:Bool,(b=true↔rcB r=true)→SV.bool b=SV.bool (rcB r):=fun b h=>by rw[Bool.eq_iff_iff.2 h]
   repeat' first|refine o5 (fun _=>?_) (fun _=>?_)|refine x6 rfl ?_|refine q _ ?_
   all_goals(rw[yW5];simp only[decide_eq_true_eq,Bool.false_eq_true,false_iff,true_iff];omega)) (by kernel_rfl) (by kernel_rfl)
theorem xo3(r:Rc):SCall pP 250 [r.sv] (.bool (rcB r)):=
 o8 mix [] trivial 1000 (let z0:Plan:=.ln 9 (.lit .all);let z1:Plan:=.ln 4 (.lit .all);let z2:Plan:=.ln 5 (.lit .all);.fork (.ln 3 (.fork (.ln 3 (.fork (.ln 3 (.fork (.ln 3 (.fork (.ln 3 (.fork (.ln 3 (.fork (.ln 3 (.fork (.lit (.lit (.go (.lit (.fork z0 (.ln 4 (.fork z1 (.go (.lit (.fork z0 (.ln 4 (.fork z1 (.go (.lit (.fork z0 (.ln 4 (.fork z1 (.go (.lit (.fork z0 (.ln 4 (.fork z1 (.go (.ln 5 (.go (.lit (.fork z2 (.ln 4 (.fork (.lit .all) (.go (.lit (.fork z2 (.ln 4 (.fork (.lit .all) (.go (.lit (.fork z2 (.ln 4 (.fork (.lit .all) (.go (.lit (.fork z2 (.ln 4 (.fork (.lit .all) (.go (.lit (.lit .all))))))))))))))))))))))))))))))))))))))))))))))) (.ln 6 (.lit .all)))) (.ln 10 (.lit .all)))) (.ln 14 (.lit .all)))) (.ln 18 (.lit .all)))) (.ln 22 (.lit .all)))) (.ln 26 (.lit .all)))) (.ln 30 (.lit .all)))) (.ln 34 (.lit .all)))
  (t:=let y0:Tree SV:=.leaf (.bool false);.node (r.kind≥1) (.node (r.kind≤3) (.node (r.seq≥1) (.node (r.seq≤1099511627776) (.node (r.line≥0) (.node (r.line≤1099511627776) (.node (r.done≥0) (.node (r.done≤16777216) (.req true (.node (r.src.1 < -2147483648) y0 (.req true (.node (r.src.1≥2147483648) y0 (.req true (.node (r.src.2.1 < -2147483648) y0 (.req true (.node (r.src.2.1≥2147483648) y0 (.req true (.node (r.src.2.2.1 < -2147483648) y0 (.req true (.node (r.src.2.2.1≥2147483648) y0 (.req true (.node (r.src.2.2.2 < -2147483648) y0 (.req true (.node (r.src.2.2.2≥2147483648) y0 (.req true (.node (r.dst.1 < -2147483648) y0 (.req true (.node (r.dst.1≥2147483648) y0 (.req true (.node (r.dst.2.1 < -2147483648) y0 (.req true (.node (r.dst.2.1≥2147483648) y0 (.req true (.node (r.dst.2.2.1 < -2147483648) y0 (.req true (.node (r.dst.2.2.1≥2147483648) y0 (.req true (.node (r.dst.2.2.2 < -2147483648) y0 (.req true (.node (r.dst.2.2.2≥2147483648) y0 (.leaf (.bool true)))))))))))))))))))))))))))))))))) y0) y0) y0) y0) y0) y0) y0) y0)
  (by kernel_rfl) (by
   have q:∀b:Bool,(b=true↔rcB r=true)→SV.bool b=SV.bool (rcB r):=fun b h=>by rw[Bool.eq_iff_iff.2 h]
   repeat' first|refine o5 (fun _=>?_) (fun _=>?_)|refine x6 rfl ?_|refine q _ ?_
   all_goals(rw[yW5];simp only[decide_eq_true_eq,Bool.false_eq_true,false_iff,true_iff];omega)) (by kernel_rfl) (by kernel_rfl)
def z52(f:FuncId):Fact:=qn0 f fun s=>.req (s.length≤100000) (.leaf (J (crc s)))
def z51:Fact:=z52 300
theorem yk5:z51.ok pP:=qn1 fun s h=>xc7 s (by have:=of_decide_eq_true h;omega)
def z53:Fact:=z52 254
theorem yk6:z53.ok pP:=qn1 fun s h=>xc8 s (by have:=of_decide_eq_true h;omega)
def qm8(f:FuncId)(h:Rc→Tree SV):Fact:=⟨f,fun args=>match args with
 |[.agg [.int .i64 a,.int .i64 b,.int .i64 c,.int .i64 d,.int .i64 p0,.int .i64 p1,.int .i64 p2,.int .i64 p3,.int .i64 q0,.int .i64 q1,.int .i64 q2,.int .i64 q3]] =>some (h ⟨a,b,c,d,(p0,p1,p2,p3),(q0,q1,q2,q3)⟩)
 |_=>none⟩
theorem qm9{P:Program}{f:FuncId}{h:Rc→Tree SV}(k:∀c,(h c).says (SCall P f [c.sv])):(qm8 f h).ok P:=fun args t ht=>by
 simp only[qm8]at ht
 split at ht
 ·cases ht;exact k ⟨_,_,_,_,(_,_,_,_),(_,_,_,_)⟩
 ·cases ht
def qc9:Fact:=qm8 296 fun r=>.leaf (.bool (rcB r))
theorem ys5:qc9.ok pP:=qm9 xo2
def qd0:Fact:=qm8 250 fun r=>.leaf (.bool (rcB r))
theorem ys6:qd0.ok pP:=qm9 xo3
def qf4(f:FuncId):Fact:=⟨f,fun args=>match args with
 |[.int .i64 n,.int .i64 k] =>match k==6 with
  |true=>some (.req (inR n 0 281474976710655) (.leaf (.tuple [.str (beN n 6),J 0])))
  |false=>match k==1 with
   |true=>some (.req (inR n 0 255) (.leaf (.tuple [.str (beN n 1),J 0])))
   |false=>match k==4 with
    |true=>some (.req (inR n 0 4294967295) (.leaf (.tuple [.str (beN n 4),J 0])))
    |false=>match k==2 with
     |true=>some (.req (inR n 0 65535) (.leaf (.tuple [.str (beN n 2),J 0])))
     |false=>none
 |_=>none⟩
def z84(f:FuncId):Fact:=⟨f,fun args=>match args with
 |[.int .i64 n,.int .i64 k] =>match k==4 with
  |true=>some (.req (inR n (-2147483648) 2147483647) (.leaf (.tuple [.str (beN n 4),J 0])))
  |false=>none
 |_=>none⟩
def qf1(f:FuncId):Fact:=⟨f,fun args=>match args with
 |[.str s,.int .i64 a,.int .i64 k] =>match k==6 with
  |true=>some (.req (0≤a&& (a+6≤(s.length:Int)&&s.length≤100000)) (.leaf (.tuple [J (tk s a.toNat 6),J (a+6),J 0])))
  |false=>match k==1 with
   |true=>some (.req (0≤a&& (a+1≤(s.length:Int)&&s.length≤100000)) (.leaf (.tuple [J (tk s a.toNat 1),J (a+1),J 0])))
   |false=>match k==4 with
    |true=>some (.req (0≤a&& (a+4≤(s.length:Int)&&s.length≤100000)) (.leaf (.tuple [J (tk s a.toNat 4),J (a+4),J 0])))
    |false=>none
 |_=>none⟩
def qe5(f:FuncId):Fact:=⟨f,fun args=>match args with
 |[.str s,.int .i64 a,.int .i64 k] =>match k==4 with
  |true=>some (.req (0≤a&& (a+4≤(s.length:Int)&&s.length≤100000)) (.leaf (.tuple [J (sg (tk s a.toNat 4)),J (a+4),J 0])))
  |false=>none
 |_=>none⟩
theorem qf5{f:FuncId}(h6:∀n,0≤n→n<281474976710656→SCall pP f [J n,J 6] (.tuple [.str (beN n 6),J 0]))(h1:∀n,0≤n→n<256→SCall pP f [J n,J 1] (.tuple [.str (beN n 1),J 0]))(h4:∀n,0≤n→n<4294967296→SCall pP f [J n,J 4] (.tuple [.str (beN n 4),J 0]))(h2:∀n,0≤n→n<65536→SCall pP f [J n,J 2] (.tuple [.str (beN n 2),J 0])):(qf4 f).ok pP:=fun args t ht=>by
 simp only[qf4]at ht
 split at ht
 ·rename_i n k
  by_cases e6:k=6
  ·subst e6
   simp at ht;subst ht;intro h;exact h6 _ (v8.1 h).1 (by have:=(v8.1 h).2;omega)
  ·skip
   by_cases e1:k=1
   ·subst e1
    simp at ht;subst ht;intro h;exact h1 _ (v8.1 h).1 (by have:=(v8.1 h).2;omega)
   ·skip
    by_cases e4:k=4
    ·subst e4
     simp at ht;subst ht;intro h;exact h4 _ (v8.1 h).1 (by have:=(v8.1 h).2;omega)
    ·skip
     by_cases e2:k=2
     ·subst e2
      simp at ht;subst ht;intro h;exact h2 _ (v8.1 h).1 (by have:=(v8.1 h).2;omega)
     ·simp[show(k==6)=false from beq_eq_false_iff_ne.2 e6,show(k==1)=false from beq_eq_false_iff_ne.2 e1,show(k==4)=false from beq_eq_false_iff_ne.2 e4,show(k==2)=false from beq_eq_false_iff_ne.2 e2]at ht
 ·cases ht
theorem z85{f:FuncId}(h4:∀n,-2147483648≤n→n<2147483648→SCall pP f [J n,J 4] (.tuple [.str (beN n 4),J 0])):(z84 f).ok pP:=fun args t ht=>by
 simp only[z84]at ht
 split at ht
 ·rename_i n k
  by_cases e4:k=4
  ·subst e4
   simp at ht;subst ht;intro h;exact h4 _ (v8.1 h).1 (by have:=(v8.1 h).2;omega)
  ·simp[show(k==4)=false from beq_eq_false_iff_ne.2 e4]at ht
 ·cases ht
theorem qf2{f:FuncId}(h6:∀ (s:List UInt8) (a:Nat),a+6≤s.length→s.length≤100000→SCall pP f [.str s,J (a:Int),J 6] (.tuple [J (tk s a 6),J ((a+6:Nat):Int),J 0]))(h1:∀ (s:List UInt8) (a:Nat),a+1≤s.length→s.length≤100000→SCall pP f [.str s,J (a:Int),J 1] (.tuple [J (tk s a 1),J ((a+1:Nat):Int),J 0]))(h4:∀ (s:List UInt8) (a:Nat),a+4≤s.length→s.length≤100000→SCall pP f [.str s,J (a:Int),J 4] (.tuple [J (tk s a 4),J ((a+4:Nat):Int),J 0])):(qf1 f).ok pP:=fun args t ht=>by
 simp only[qf1]at ht
 split at ht
 ·rename_i s a k
  by_cases e6:k=6
  ·subst e6
   simp at ht;subst ht;intro h;simp only[Bool.and_eq_true,decide_eq_true_eq]at h;obtain⟨m,rfl⟩:=Int.eq_ofNat_of_zero_le h.1;have q:=h6 s m (by omega) h.2.2;exact q
  ·skip
   by_cases e1:k=1
   ·subst e1
    simp at ht;subst ht;intro h;simp only[Bool.and_eq_true,decide_eq_true_eq]at h;obtain⟨m,rfl⟩:=Int.eq_ofNat_of_zero_le h.1;have q:=h1 s m (by omega) h.2.2;exact q
   ·skip
    by_cases e4:k=4
    ·subst e4
     simp at ht;subst ht;intro h;simp only[Bool.and_eq_true,decide_eq_true_eq]at h;obtain⟨m,rfl⟩:=Int.eq_ofNat_of_zero_le h.1;have q:=h4 s m (by omega) h.2.2;exact q
    ·simp[show(k==6)=false from beq_eq_false_iff_ne.2 e6,show(k==1)=false from beq_eq_false_iff_ne.2 e1,show(k==4)=false from beq_eq_false_iff_ne.2 e4]at ht
 ·cases ht
theorem qe6{f:FuncId}(h4:∀ (s:List UInt8) (a:Nat),a+4≤s.length→s.length≤100000→SCall pP f [.str s,J (a:Int),J 4] (.tuple [J (sg (tk s a 4)),J ((a+4:Nat):Int),J 0])):(qe5 f).ok pP:=fun args t ht=>by
 simp only[qe5]at ht
 split at ht
 ·rename_i s a k
  by_cases e4:k=4
  ·subst e4
   simp at ht;subst ht;intro h;simp only[Bool.and_eq_true,decide_eq_true_eq]at h;obtain⟨m,rfl⟩:=Int.eq_ofNat_of_zero_le h.1;have q:=h4 s m (by omega) h.2.2;exact q
  ·simp[show(k==4)=false from beq_eq_false_iff_ne.2 e4]at ht
 ·cases ht
def fUi:Fact:=qf4 298
theorem yv4:fUi.ok pP:=qf5 xv5 xv2 xv4 xv3
def fIi:Fact:=z84 299
theorem yn8:fIi.ok pP:=z85 xu6
def fTu:Fact:=qf1 282
theorem yv2:fTu.ok pP:=qf2 xt1 xs9 xt0
def fTi:Fact:=qe5 284
theorem yu7:fTi.ok pP:=qe6 xs4
def qf6:Fact:=qf4 279
theorem yv5:qf6.ok pP:=qf5 xv9 xv6 xv8 xv7
def z86:Fact:=z84 280
theorem yn9:z86.ok pP:=z85 xu7
def qf3:Fact:=qf1 321
theorem yv3:qf3.ok pP:=qf2 xt4 xt2 xt3
def qe7:Fact:=qe5 322
theorem yu8:qe7.ok pP:=qe6 xs5
def yK3(s:List UInt8)(n:Int):List UInt8:=s++List.replicate (n-s.length).toNat 0
theorem xm4(s:List UInt8)(n:Int)(h:(s.length:Int)≤n)(hn:n≤65536):SCall pP 253 [.str s,J n] (.tuple [.str (yK3 s n),J 0]):=by
 refine m6 rfl rfl (by kernel_rfl) (w6 qS2 (n:=1000) (hint:=.unit) (keep:=x9 24 []) (p:=yK1) (boxes:=[]) rfl ?_);have e:=yK0 s n;unfold u7 u9 at e;erw [e];unfold yK2;have j:i64.wrap (n-(s.length:Int))=n-(s.length:Int):=w64 (by omega) (by omega)
 have z:(List.map (fun n=>UInt8.ofNat (Int.toNat n)) (List.replicate (n-(s.length:Int)).toNat (0:Int)))=List.replicate (n-(s.length:Int)).toNat 0:=by
  rw[List.map_replicate];rfl
 rw[j,z]
 refine o5 (fun h=>absurd h (by omega)) fun _=>o5 (fun h=>absurd h (by omega)) fun _=>o5 (fun h=>absurd h (by omega)) fun _=>x6 ?_ (x6 (decide_eq_true ?_) rfl)
 ·simp;omega
 ·rw[List.length_replicate];omega
def zY8(r:Rc):List UInt8:=beN r.seq 6++beN r.kind 1++beN r.line 6++beN r.done 4++(beN r.src.1 4++beN r.src.2.1 4++beN r.src.2.2.1 4++beN r.src.2.2.2 4)++(beN r.dst.1 4++beN r.dst.2.1 4++beN r.dst.2.2.1 4++beN r.dst.2.2.2 4)
def enc(r:Rc):List UInt8:=yK3 (zY8 r++beN (crc (zY8 r)) 2) 58++beN r.seq 6
theorem zY9(r:Rc):(zY8 r).length=49:=by simp only[zY8,List.length_append,zw5]
theorem zZ5(r:Rc):(enc r).length=64:=by
 simp only[enc,yK3,List.length_append,zw5,zY9,List.length_replicate];omega
def qc1:Fact:=⟨253,fun args=>match args with
 |[.str s,.int .i64 n] =>some (.req ((s.length:Int)≤n&&n≤65536) (.leaf (.tuple [.str (yK3 s n),J 0])))
 |_=>none⟩
theorem yr7:qc1.ok pP:=fun args t ht=>by
 simp only[qc1]at ht
 split at ht
 ·cases ht
  intro h;simp only[Bool.and_eq_true,decide_eq_true_eq]at h;exact xm4 _ _ h.1 h.2
 ·cases ht
theorem xu2(n:Int)(h:inR n 0 281474976710655=true):SCall pP 251 [J n,J 6] (.str (beN n 6)):=
 o8 mix [qf6] ⟨yv5,trivial⟩ 1000 (.all)
  (t:=.req (inR n 0 281474976710655) (.leaf (SV.str (beN n 6))))
  (by kernel_rfl) (by exact x6 h rfl) (by kernel_rfl) (by kernel_rfl)
theorem xt9(n:Int)(h:inR n 0 255=true):SCall pP 251 [J n,J 1] (.str (beN n 1)):=
 o8 mix [qf6] ⟨yv5,trivial⟩ 1000 (.all)
  (t:=.req (inR n 0 255) (.leaf (SV.str (beN n 1))))
  (by kernel_rfl) (by exact x6 h rfl) (by kernel_rfl) (by kernel_rfl)
theorem xu1(n:Int)(h:inR n 0 4294967295=true):SCall pP 251 [J n,J 4] (.str (beN n 4)):=
 o8 mix [qf6] ⟨yv5,trivial⟩ 1000 (.all)
  (t:=.req (inR n 0 4294967295) (.leaf (SV.str (beN n 4))))
  (by kernel_rfl) (by exact x6 h rfl) (by kernel_rfl) (by kernel_rfl)
theorem xu0(n:Int)(h:inR n 0 65535=true):SCall pP 251 [J n,J 2] (.str (beN n 2)):=
 o8 mix [qf6] ⟨yv5,trivial⟩ 1000 (.all)
  (t:=.req (inR n 0 65535) (.leaf (SV.str (beN n 2))))
  (by kernel_rfl) (by exact x6 h rfl) (by kernel_rfl) (by kernel_rfl)
theorem xn6(c:V4)(h:qL7 c=true):SCall pP 252 [V4.sv c] (.str (beN c.1 4++beN c.2.1 4++beN c.2.2.1 4++beN c.2.2.2 4)):=
 o8 mix [z86] ⟨yn9,trivial⟩ 1000 (.go (.lit (.go (.lit (.go (.lit (.go (.lit (.go (.lit (.all)))))))))))
  (t:=let y0:=(9223372036854775807:Int);.req true (.req (inR c.1 (-2147483648) 2147483647) (.req (((0+(beN c.1 4).length:Nat):Int)≤y0) (.req true (.req (inR c.2.1 (-2147483648) 2147483647) (.req ((((beN c.1 4).length+(beN c.2.1 4).length:Nat):Int)≤y0) (.req true (.req (inR c.2.2.1 (-2147483648) 2147483647) (.req ((((beN c.1 4++beN c.2.1 4).length+(beN c.2.2.1 4).length:Nat):Int)≤y0) (.req true (.req (inR c.2.2.2 (-2147483648) 2147483647) (.req ((((beN c.1 4++beN c.2.1 4++beN c.2.2.1 4).length+(beN c.2.2.2 4).length:Nat):Int)≤y0) (.leaf (SV.str (beN c.1 4++beN c.2.1 4++beN c.2.2.1 4++beN c.2.2.2 4)))))))))))))))
  (by kernel_rfl) (by
   simp only[qL7,Bool.and_eq_true]at h
   exact x6 rfl (x6 h.1 (x6 (decide_eq_true (by simp[zw5])) (x6 rfl (x6 h.2.1 (x6 (decide_eq_true (by simp[zw5])) (x6 rfl (x6 h.2.2.1 (x6 (decide_eq_true (by simp[zw5])) (x6 rfl (x6 h.2.2.2 (x6 (decide_eq_true (by simp[zw5])) rfl)))))))))))) (by kernel_rfl) (by kernel_rfl)
def qf7:Fact:=⟨251,fun args=>match args with
 |[.int .i64 n,.int .i64 k] =>match k==6 with|true=>some (.req (inR n 0 281474976710655) (.leaf (.str (beN n 6))))|false=>match k==1 with|true=>some (.req (inR n 0 255) (.leaf (.str (beN n 1))))|false=>match k==4 with|true=>some (.req (inR n 0 4294967295) (.leaf (.str (beN n 4))))|false=>match k==2 with|true=>some (.req (inR n 0 65535) (.leaf (.str (beN n 2))))|false=>none
 |_=>none⟩
def qc6:Fact:=qn8 252 fun c=>.req (qL7 c) (.leaf (.str (beN c.1 4++beN c.2.1 4++beN c.2.2.1 4++beN c.2.2.2 4)))
theorem ys2:qc6.ok pP:=qo3 xn6
theorem yv6:qf7.ok pP:=fun args t ht=>by
 simp only[qf7]at ht
 split at ht
 ·rename_i n k
  by_cases e6:k=6
  ·subst e6;simp at ht;subst ht;exact xu2 _
  ·by_cases e1:k=1
   ·subst e1;simp at ht;subst ht;exact xt9 _
   ·by_cases e4:k=4
    ·subst e4;simp at ht;subst ht;exact xu1 _
    ·by_cases e2:k=2
     ·subst e2;simp at ht;subst ht;exact xu0 _
     ·simp[show(k==6)=false from beq_eq_false_iff_ne.2 e6,show(k==1)=false from beq_eq_false_iff_ne.2 e1,show(k==4)=false from beq_eq_false_iff_ne.2 e4,show(k==2)=false from beq_eq_false_iff_ne.2 e2]at ht
 ·cases ht
def zZ2(r:Rc):SV:=match rcB r with
 |true=>.tuple [.str (enc r),J 0]
 |false=>.tuple [.str [],J 1]
theorem zZ3(r:Rc):(zZ2 r).data=true:=by unfold zZ2;split<;>rfl
theorem xe2(r:Rc):SCall pP 189 [r.sv] (zZ2 r):=
 o8 mix [qd0,qf7,qc6,z53,qc1] ⟨ys6,yv6,ys2,yk6,yr7,trivial⟩ 1000 (.fork (.all) (.all))
  (t:=let y0:=(9223372036854775807:Int);let y1:=((crc (zY8 r):Nat):Int);let y2:=beN r.src.1 4++beN r.src.2.1 4++beN r.src.2.2.1 4++beN r.src.2.2.2 4;.node (!rcB r) (.leaf (.tuple [SV.str [],J 1])) (.req (inR r.seq 0 281474976710655) (.req (inR r.kind 0 255) (.req ((((beN r.seq 6).length+(beN r.kind 1).length:Nat):Int)≤y0) (.req (inR r.line 0 281474976710655) (.req ((((beN r.seq 6++beN r.kind 1).length+(beN r.line 6).length:Nat):Int)≤y0) (.req (inR r.done 0 4294967295) (.req ((((beN r.seq 6++beN r.kind 1++beN r.line 6).length+(beN r.done 4).length:Nat):Int)≤y0) (.req (qL7 r.src) (.req ((((beN r.seq 6++beN r.kind 1++beN r.line 6++beN r.done 4).length+y2.length:Nat):Int)≤y0) (.req (qL7 r.dst) (.req ((((beN r.seq 6++beN r.kind 1++beN r.line 6++beN r.done 4++y2).length+(beN r.dst.1 4++beN r.dst.2.1 4++beN r.dst.2.2.1 4++beN r.dst.2.2.2 4).length:Nat):Int)≤y0) (.req ((zY8 r).length≤100000) (.req (inR y1 0 65535) (.req ((((zY8 r).length+(beN y1 2).length:Nat):Int)≤y0) (.req ((↑(zY8 r++beN y1 2).length:Int)≤58&&true) (.req (inR r.seq 0 281474976710655) (.req ((((yK3 (zY8 r++beN y1 2) 58).length+(beN r.seq 6).length:Nat):Int)≤y0) (.leaf (.tuple [SV.str (yK3 (zY8 r++beN y1 2) 58++beN r.seq 6),J 0]))))))))))))))))))))
  (by kernel_rfl) (by
   unfold zZ2
   refine f9 (fun v=>by rw[v];rfl) fun v=>?_
   rw[v];have q:=yW5.1 v;have v':=v;simp only[rcB,Bool.and_eq_true]at v';have c:=zM6 (zY8 r);have l:=zY9 r;have e:2=(beN ((crc (zY8 r):Nat):Int) 2).length:=(zw5 _ 2).symm;refine x6 (v8.2 ⟨by omega,by omega⟩) ?_;refine x6 (v8.2 ⟨by omega,by omega⟩) ?_;refine x6 (decide_eq_true (by simp only[List.length_append,zw5,zY9,yK3,List.length_replicate];omega)) ?_;refine x6 (v8.2 ⟨by omega,by omega⟩) ?_;refine x6 (decide_eq_true (by simp only[List.length_append,zw5,zY9,yK3,List.length_replicate];omega)) ?_;refine x6 (v8.2 ⟨by omega,by omega⟩) ?_;refine x6 (decide_eq_true (by simp only[List.length_append,zw5,zY9,yK3,List.length_replicate];omega)) ?_;refine x6 v'.2.2.2.2.1 ?_;refine x6 (decide_eq_true (by simp only[List.length_append,zw5,zY9,yK3,List.length_replicate];omega)) ?_;refine x6 v'.2.2.2.2.2 ?_;refine x6 (decide_eq_true (by simp only[List.length_append,zw5,zY9,yK3,List.length_replicate];omega)) ?_;refine x6 (decide_eq_true (by simp only[List.length_append,zw5,zY9,yK3,List.length_replicate];omega)) ?_;refine x6 (v8.2 ⟨by omega,by omega⟩) ?_;refine x6 (decide_eq_true (by simp only[List.length_append,zw5,zY9,yK3,List.length_replicate];omega)) ?_;refine x6 (by simp only[List.length_append,zw5,zY9,Bool.and_true,decide_eq_true_eq];omega) ?_;refine x6 (v8.2 ⟨by omega,by omega⟩) ?_;refine x6 (decide_eq_true (by simp only[List.length_append,zw5,zY9,yK3,List.length_replicate];omega)) ?_
   exact rfl) (by kernel_rfl) (by exact zZ3 r)
theorem xl2(s:List UInt8)(a:Int)(h:(0≤a&& (a+6≤(s.length:Int)&&s.length≤100000))=true):SCall pP 292 [.str s,J a,J 6] (J (tk s a.toNat 6)):=
 o8 mix [qf3] ⟨yv3,trivial⟩ 1000 (.all)
  (t:=.req (0≤a&& (a+6≤(↑s.length:Int)&&s.length≤100000)) (.leaf (SV.int IntKind.i64 (tk s a.toNat 6))))
  (by kernel_rfl) (by exact x6 h rfl) (by kernel_rfl) (by kernel_rfl)
theorem xl0(s:List UInt8)(a:Int)(h:(0≤a&& (a+1≤(s.length:Int)&&s.length≤100000))=true):SCall pP 292 [.str s,J a,J 1] (J (tk s a.toNat 1)):=
 o8 mix [qf3] ⟨yv3,trivial⟩ 1000 (.all)
  (t:=.req (0≤a&& (a+1≤(↑s.length:Int)&&s.length≤100000)) (.leaf (SV.int IntKind.i64 (tk s a.toNat 1))))
  (by kernel_rfl) (by exact x6 h rfl) (by kernel_rfl) (by kernel_rfl)
theorem xl1(s:List UInt8)(a:Int)(h:(0≤a&& (a+4≤(s.length:Int)&&s.length≤100000))=true):SCall pP 292 [.str s,J a,J 4] (J (tk s a.toNat 4)):=
 o8 mix [qf3] ⟨yv3,trivial⟩ 1000 (.all)
  (t:=.req (0≤a&& (a+4≤(↑s.length:Int)&&s.length≤100000)) (.leaf (SV.int IntKind.i64 (tk s a.toNat 4))))
  (by kernel_rfl) (by exact x6 h rfl) (by kernel_rfl) (by kernel_rfl)
theorem xg0(s:List UInt8)(a:Int)(h0:0≤a)(h1:a+16≤s.length)(h2:s.length≤100000):SCall pP 293 [.str s,J a] (.agg [J (sg (tk s a.toNat 4)),J (sg (tk s (a+4).toNat 4)),J (sg (tk s (a+8).toNat 4)),J (sg (tk s (a+12).toNat 4))]):=
 o8 mix [qe7] ⟨yu8,trivial⟩ 1000 (.go (.lit (.go (.lit (.go (.lit (.go (.lit (.go (.lit (.all)))))))))))
  (t:=.req (0≤i64.wrap (a+0)&& (i64.wrap (a+0)+4≤(↑s.length:Int)&&s.length≤100000)) (.req true (.req (0≤i64.wrap (a+4)&& (i64.wrap (a+4)+4≤(↑s.length:Int)&&s.length≤100000)) (.req true (.req (0≤i64.wrap (a+8)&& (i64.wrap (a+8)+4≤(↑s.length:Int)&&s.length≤100000)) (.req true (.req (0≤i64.wrap (a+12)&& (i64.wrap (a+12)+4≤(↑s.length:Int)&&s.length≤100000)) (.req true (.leaf (.agg [J (sg (tk s (i64.wrap (a+0)).toNat 4)),J (sg (tk s (i64.wrap (a+4)).toNat 4)),J (sg (tk s (i64.wrap (a+8)).toNat 4)),J (sg (tk s (i64.wrap (a+12)).toNat 4))]))))))))))
  (by kernel_rfl) (by
   rw[f6 (x:=a+0) (by omega) (by omega),f6 (x:=a+4) (by omega) (by omega),f6 (x:=a+8) (by omega) (by omega),f6 (x:=a+12) (by omega) (by omega),Int.add_zero]
   have q:∀x:Int,0≤x→x+4≤s.length→(0≤x&& (x+4≤(s.length:Int)&&s.length≤100000))=true:=fun x h k=>by simp;omega
   exact x6 (q _ (by omega) (by omega)) (x6 rfl (x6 (q _ (by omega) (by omega)) (x6 rfl (x6 (q _ (by omega) (by omega)) (x6 rfl (x6 (q _ (by omega) (by omega)) (x6 rfl rfl)))))))) (by kernel_rfl) (by kernel_rfl)
def qa6:Fact:=⟨292,fun args=>match args with
 |[.str s,.int .i64 a,.int .i64 k] =>match k==6 with|true=>some (.req (0≤a&& (a+6≤(s.length:Int)&&s.length≤100000)) (.leaf (J (tk s a.toNat 6))))|false=>match k==1 with|true=>some (.req (0≤a&& (a+1≤(s.length:Int)&&s.length≤100000)) (.leaf (J (tk s a.toNat 1))))|false=>match k==4 with|true=>some (.req (0≤a&& (a+4≤(s.length:Int)&&s.length≤100000)) (.leaf (J (tk s a.toNat 4))))|false=>none
 |_=>none⟩
def z73:Fact:=⟨293,fun args=>match args with
 |[.str s,.int .i64 a] =>some (.req (0≤a&& (a+16≤(s.length:Int)&&s.length≤100000)) (.leaf (.agg [J (sg (tk s a.toNat 4)),J (sg (tk s (a+4).toNat 4)),J (sg (tk s (a+8).toNat 4)),J (sg (tk s (a+12).toNat 4))])))
 |_=>none⟩
def z60:Fact:=qm8 189 fun r=>.node (rcB r) (.leaf (.tuple [.str (enc r),J 0])) (.leaf (.tuple [.str [],J 1]))
theorem ym6:z73.ok pP:=fun args t ht=>by
 simp only[z73]at ht
 split at ht
 ·cases ht
  intro h;simp only[Bool.and_eq_true,decide_eq_true_eq]at h;exact xg0 _ _ h.1 h.2.1 h.2.2
 ·cases ht
theorem yl3:z60.ok pP:=qm9 fun r=>by
 have q:=xe2 r;unfold zZ2 at q;exact⟨fun v=>by rw[v]at q;exact q,fun v=>by rw[v]at q;exact q⟩
theorem yp8:qa6.ok pP:=fun args t ht=>by
 simp only[qa6]at ht
 split at ht
 ·rename_i s a k
  by_cases e6:k=6
  ·subst e6;simp at ht;subst ht;intro h;exact xl2 _ _ (by simpa using h)
  ·by_cases e1:k=1
   ·subst e1;simp at ht;subst ht;intro h;exact xl0 _ _ (by simpa using h)
   ·by_cases e4:k=4
    ·subst e4;simp at ht;subst ht;intro h;exact xl1 _ _ (by simpa using h)
    ·simp[show(k==6)=false from beq_eq_false_iff_ne.2 e6,show(k==1)=false from beq_eq_false_iff_ne.2 e1,show(k==4)=false from beq_eq_false_iff_ne.2 e4]at ht
 ·cases ht
def shF(x:Fw):Bool:=shB x.queue&&shI x.lines
abbrev EvT:=OpT×Int×Int
abbrev xV8:Ty:=.pair xW4 (.pair (.int .i64) (.int .i64))
abbrev LE(l:List EvT):SV:=.list xV8 l
def dEv:EvT:=(dOp,0,0)
def flN(n:Nat):Fl:=⟨List.replicate n (List.replicate 64 0),0,false,0⟩
def qz3(f:Fw):V4:=if y50 f=true then(f.ret.1,f.ret.2.1,f.ret.2.2.1,f.pos.2.2.2)else if f.moving=true then x41 (wsub4 f.pos (q15 f.mo)) f.mo.1.1 else f.pos
def z68:Fact:=qi0 56 fun f i j=>.req (o6 f) (.leaf (b7 f i j).sv)
def z70:Fact:=qh8 55 fun f=>.req (o6 f) (.leaf (flPow f).sv)
def z97:Fact:=z96 59
theorem ym1:z68.ok pP:=qi1 fun f i j h=>xf4 f i j h
theorem ym3:z70.ok pP:=qi7 fun f h=>xf7 f h
def qq4:Plan:=.all
noncomputable def qq5(l:List EvT)(m:Int):Tree Stop:= .leaf (.at (v5 pP 52 0) 28 (j9 28 [(0,.list (((Ty.int IntKind.i64).pair (Ty.bool.pair (((Ty.int IntKind.i64).pair ((Ty.int IntKind.i64).pair ((Ty.int IntKind.i64).pair ((Ty.int IntKind.i64).pair ((Ty.int IntKind.i64).pair ((Ty.int IntKind.i64).pair ((Ty.int IntKind.i64).pair (Ty.int IntKind.i64)))))))).pair ((Ty.int IntKind.i64).pair ((Ty.int IntKind.i64).pair (Ty.int IntKind.i64)))))).pair ((Ty.int IntKind.i64).pair (Ty.int IntKind.i64))) l),(1,J m),(5,J 0)]) [])
theorem fe0(l:List EvT)(m:Int):w9 (Env.of pP (v7 [])) 1000 (j8 pP 52) .unit (x9 28 [0,1,5]) (u9 pP 52) qq4 (u7 pP 52 [LE l,J m]) [] =qq5 l m:=by kernel_rfl
def qq6:Plan:=.fork (.ln 3 (.fork (.fork .all .all) .all)) (.ln 3 (.lit .all))
noncomputable def qq7(l:List EvT)(m i:Int):Tree Stop:= .node (i< (↑l.length:Int)) (.node (i<m) (.req (0≤i&&i< (↑l.length:Int)) (.node ((l.getD i.toNat xV8.dflt).1.2.2.2.1>40) (.leaf (.done (.bool false))) (.leaf (.at (v5 pP 52 0) 28 (j9 28 [(0,.list (((Ty.int IntKind.i64).pair (Ty.bool.pair (((Ty.int IntKind.i64).pair ((Ty.int IntKind.i64).pair ((Ty.int IntKind.i64).pair ((Ty.int IntKind.i64).pair ((Ty.int IntKind.i64).pair ((Ty.int IntKind.i64).pair ((Ty.int IntKind.i64).pair (Ty.int IntKind.i64)))))))).pair ((Ty.int IntKind.i64).pair ((Ty.int IntKind.i64).pair (Ty.int IntKind.i64)))))).pair ((Ty.int IntKind.i64).pair (Ty.int IntKind.i64))) l),(1,J m),(5,J (i64.wrap (i+1)))]) [])))) (.leaf (.done (.bool ((↑l.length:Int)≤m))))) (.leaf (.done (.bool ((↑l.length:Int)≤m))))
theorem fe1(l:List EvT)(m i:Int):w9 (Env.of pP (v7 [])) 1000 (j8 pP 52) .unit (x9 28 [0,1,5]) (v5 pP 52 0) qq6 (j9 28 [(0,LE l),(1,J m),(5,J i)]) [] =qq7 l m i:=by kernel_rfl
theorem xa7(a b:V4):SCall pP 129 [V4.sv a,V4.sv b] (V4.sv (x41 a b)):=
 xw9 (hB (l:=[]) (k:=[]) (j:=[]) (i:=[]) ([] :List Nat) ([] :List Nat) ([] :List Nat) ([] :List Nat) (trivial) o4 o4 o4) 1000 (.go (.lit (.go (.lit (.go (.lit (.go (.lit (.go (.lit (.all)))))))))))
  (t:=.req true (.req true (.req true (.req true (.req true (.req true (.req true (.req true (.req true (.req true (.req true (.req true (.leaf (.agg [J (i64.wrap (a.1+b.1)),J (i64.wrap (a.2.1+b.2.1)),J (i64.wrap (a.2.2.1+b.2.2.1)),J (i64.wrap (a.2.2.2+b.2.2.2))]))))))))))))))
  (by kernel_rfl) (by repeat' (first|exact rfl|refine x6 rfl ?_)) (by kernel_rfl) (by kernel_rfl)
theorem xi9(f:Fw)(kd:Int)(nb:Bool)(c:Gc.C)(n r s:Int)(h:inR f.line 0 1099511627776=true):SCall pP 59 [f.sv,.agg (opL kd nb c n r s)] (J (lineV f nb)):=
 xw9 (hB (l:=[]) (k:=[]) (j:=[]) (i:=[]) ([] :List Nat) ([] :List Nat) ([] :List Nat) ([] :List Nat) (trivial) o4 o4 o4) 1000 (.fork (.all) (.all))
  (t:=.node (nb)
 (.leaf (SV.int IntKind.i64 (i64.wrap (f.line+1))))
 (.leaf (SV.int IntKind.i64 0)))
   (by kernel_rfl) (by
    have h:=v8.1 h;have w:i64.wrap (f.line+1)=f.line+1:=w64 (by omega) (by omega);rw[w]
    exact f4 (fun a=>by subst a;rfl) (fun a=>by subst a;rfl)) (by kernel_rfl) (by kernel_rfl)
theorem yo7:z97.ok pP:=qi9 fun f rest t ht=>by
 split at ht
 ·cases ht
  exact fun h=>xi9 f _ _ ⟨_,_,_,_,_,_,_,_⟩ _ _ _ h
 ·cases ht
def z33:Fact:=qo1 129 fun a b=>.leaf (V4.sv (x41 a b))
theorem yh9:z33.ok pP:=qo2 fun a b=>xa7 a b
theorem xg2(f:Fw)(h:qX5 f=true):SCall pP 60 [f.sv] (V4.sv (qz3 f)):=
 xw9 (hB (l:=[qa1]) (k:=[]) (j:=[]) (i:=[]) ([] :List Nat) ([] :List Nat) ([] :List Nat) ([] :List Nat) (⟨yp2,trivial⟩) o4 o4 o4) 1000 (let z0:Plan:=.fork .all (.go (.lit (.go (.lit (.go (.lit (.go (.lit (.go (.lit .all))))))))));let z1:Plan:=.fork (.ln 6 (.fork (.ln 7 (.fork .all z0)) (.ln 8 z0))) (.ln 15 z0);.fork (.ln 3 (.fork (.ln 7 (.lit .all)) (.ln 3 z1))) (.ln 7 z1))
  (t:=let y0:Tree SV:=.node (!f.moving) (.leaf (.agg [J f.pos.1,J f.pos.2.1,J f.pos.2.2.1,J f.pos.2.2.2])) (.req true (.req true (.req true (.req true (.req true (.req true (.req true (.req true (.req true (.req true (.req true (.req true (.req true (.req true (.req true (.req true (.leaf (.agg [J (i64.wrap (i64.wrap (f.pos.1-(q15 f.mo).1)+f.mo.1.1.1)),J (i64.wrap (i64.wrap (f.pos.2.1-(q15 f.mo).2.1)+f.mo.1.1.2.1)),J (i64.wrap (i64.wrap (f.pos.2.2.1-(q15 f.mo).2.2.1)+f.mo.1.1.2.2.1)),J (i64.wrap (i64.wrap (f.pos.2.2.2-(q15 f.mo).2.2.2)+f.mo.1.1.2.2.2))]))))))))))))))))));let y2:Tree SV:=.req true (.req true (.req true (.req true (.leaf (.agg [J f.ret.1,J f.ret.2.1,J f.ret.2.2.1,J f.pos.2.2.2])))));let y1:Tree SV:=.node (!f.moving) (.node ((↑f.queue.length:Int)>0) (.req (0< (↑f.lines.length:Int)) (.node (f.lines.getD 0 0==0) y2 y0)) y0) y0;.node (f.moving) (.node (f.active==0) y2 y1) y1)
  (by kernel_rfl) (by
   have gr:y50 f=true→V4.sv (f.ret.1,f.ret.2.1,f.ret.2.2.1,f.pos.2.2.2)=V4.sv (qz3 f):=fun a=>by unfold qz3;rw[if_pos a]
   have gm:y50 f=false→f.moving=true→V4.sv (x41 (wsub4 f.pos (q15 f.mo)) f.mo.1.1)=V4.sv (qz3 f):=fun a m=>by unfold qz3;rw[if_neg (by rw[a];exact Bool.false_ne_true),if_pos m]
   have gp:y50 f=false→f.moving=false→V4.sv f.pos=V4.sv (qz3 f):=fun a m=>by unfold qz3;rw[if_neg (by rw[a];exact Bool.false_ne_true),if_neg (by rw[m];exact Bool.false_ne_true)]
   have ln:=qX6.1 h
   refine f4 (fun m=>?_) fun m=>?_
   ·have no:∀{P:Prop},f.moving=false→P:=fun q=>by rw[m]at q;cases q
    refine q95 (fun a=>x6 rfl (x6 rfl (x6 rfl (x6 rfl ?_)))) fun a=>?_
    ·exact gr (by rw[y53 m,a];rfl)
    have a:y50 f=false:=by rw[y53 m];exact beq_eq_false_iff_ne.2 a
    exact f9 (fun q=>no q) fun _=>f9 (fun q=>no q) fun _=>x6 rfl (x6 rfl (x6 rfl (x6 rfl (x6 rfl (x6 rfl (x6 rfl (x6 rfl (x6 rfl (x6 rfl (x6 rfl (x6 rfl (x6 rfl (x6 rfl (x6 rfl (x6 rfl (gm a m))))))))))))))))
   ·have no:∀{P:Prop},f.moving=true→P:=fun q=>by rw[m]at q;cases q
    refine f9 (fun _=>o5 (fun p=>x6 (decide_eq_true (by omega)) (q95 (fun z=>x6 rfl (x6 rfl (x6 rfl (x6 rfl ?_)))) fun z=>f9 (fun _=>?_) fun q=>no q)) fun p=>f9 (fun _=>?_) fun q=>no q) fun q=>no q
    ·refine gr ?_
     rw[y52 m];exact qE5.2 ⟨by omega,z⟩
    ·refine gp ?_ m
     rw[y52 m,Bool.eq_false_iff];exact fun q=>z (qE5.1 q).2
    ·refine gp ?_ m
     rw[y52 m,Bool.eq_false_iff];intro q;have:=(qE5.1 q).1;omega) (by kernel_rfl) (by kernel_rfl)
def qu5:Plan:=.ln 4 (.go (.lit (.go (.lit (.go (.lit (.go (.lit (.go (.lit (.go (.lit (.go (.lit .all))))))))))))))
noncomputable def qu6(u:Unit):Tree Stop:= .req true (.req true (.req true (.req true (.req true (.req true (.req true (.req true (.req true (.req true (.req true (.req true (.leaf (.done (.tuple [.agg [.list Ty.str ([List.map (fun n=>UInt8.ofNat (Int.toNat n)) (List.replicate 64 0)] ++[List.map (fun n=>UInt8.ofNat (Int.toNat n)) (List.replicate 64 0)] ++[List.map (fun n=>UInt8.ofNat (Int.toNat n)) (List.replicate 64 0)] ++[List.map (fun n=>UInt8.ofNat (Int.toNat n)) (List.replicate 64 0)] ++[List.map (fun n=>UInt8.ofNat (Int.toNat n)) (List.replicate 64 0)] ++[List.map (fun n=>UInt8.ofNat (Int.toNat n)) (List.replicate 64 0)]),J 0,.bool false,J 0],J 0]))))))))))))))
theorem fn6(u:Unit):w9 (Env.of pP (v7 [])) 1000 (j8 pP 51) .str (x9 25 []) (u9 pP 51) qu5 (u7 pP 51 [J 6]) [] =qu6 u:=by kernel_rfl
def qu3:Plan:=.ln 4 (.go (.lit (.go (.lit (.go (.lit (.go (.lit (.go (.lit .all))))))))))
noncomputable def qu4(u:Unit):Tree Stop:= .req true (.req true (.req true (.req true (.req true (.req true (.req true (.req true (.leaf (.done (.tuple [.agg [.list Ty.str ([List.map (fun n=>UInt8.ofNat (Int.toNat n)) (List.replicate 64 0)] ++[List.map (fun n=>UInt8.ofNat (Int.toNat n)) (List.replicate 64 0)] ++[List.map (fun n=>UInt8.ofNat (Int.toNat n)) (List.replicate 64 0)] ++[List.map (fun n=>UInt8.ofNat (Int.toNat n)) (List.replicate 64 0)]),J 0,.bool false,J 0],J 0]))))))))))
theorem fn4(u:Unit):w9 (Env.of pP (v7 [])) 1000 (j8 pP 51) .str (x9 25 []) (u9 pP 51) qu3 (u7 pP 51 [J 4]) [] =qu4 u:=by kernel_rfl
def z75:Fact:=qh6 60 fun f=>.req (qX5 f) (.leaf (V4.sv (qz3 f)))
theorem ym8:z75.ok pP:=qh7 fun f h=>xg2 f h
end Go.Proofs.YtnkaepnblikcdaaGreat
namespace Go.Sx
open Go.RowKit
theorem setT_flat{β:Type}:∀ (d:Nat) (t:Tb β) (i:Nat) (v:Option β),(∃t',∀ (α:Type) (k:Tb β→Tree α),xx6 d t i v k=k t')∨∃n,∀ (α:Type) (k:Tb β→Tree α),xx6 d t i v k=.fail n
 |0,t,i,v=>.inr ⟨3,fun _ _=>rfl⟩
 |d+1,.e,0,v=>.inl ⟨_,fun _ _=>rfl⟩
 |d+1,.n l u r,0,v=>.inl ⟨_,fun _ _=>rfl⟩
 |d+1,.e,j+1,v=>by
  by_cases hj:j % 2=0
  ·have e:∀ (α:Type) (k:Tb β→Tree α),xx6 (d+1) .e (j+1) v k=xx6 d .e (j / 2) v fun l=>k (.n l none .e):=fun α k=>by
    change Tb.pick j (fun i=>xx6 d .e i v fun l=>k (.n l none .e)) (fun i=>xx6 d .e i v fun r=>k (.n .e none r))=_
    rw[Tb.pick_even hj]
   rcases setT_flat d .e (j / 2) v with⟨t',h⟩|⟨n,h⟩
   ·exact .inl ⟨_,fun α k=>by rw[e,h]⟩
   ·exact .inr ⟨n,fun α k=>by rw[e,h]⟩
  ·have e:∀ (α:Type) (k:Tb β→Tree α),xx6 (d+1) .e (j+1) v k=xx6 d .e (j / 2) v fun r=>k (.n .e none r):=fun α k=>by
    change Tb.pick j (fun i=>xx6 d .e i v fun l=>k (.n l none .e)) (fun i=>xx6 d .e i v fun r=>k (.n .e none r))=_
    rw[Tb.pick_odd hj]
   rcases setT_flat d .e (j / 2) v with⟨t',h⟩|⟨n,h⟩
   ·exact .inl ⟨_,fun α k=>by rw[e,h]⟩
   ·exact .inr ⟨n,fun α k=>by rw[e,h]⟩
 |d+1,.n l u r,j+1,v=>by
  by_cases hj:j % 2=0
  ·have e:∀ (α:Type) (k:Tb β→Tree α),xx6 (d+1) (.n l u r) (j+1) v k=xx6 d l (j / 2) v fun l=>k (.n l u r):=fun α k=>by
    change Tb.pick j (fun i=>xx6 d l i v fun l=>k (.n l u r)) (fun i=>xx6 d r i v fun r=>k (.n l u r))=_
    rw[Tb.pick_even hj]
   rcases setT_flat d l (j / 2) v with⟨t',h⟩|⟨n,h⟩
   ·exact .inl ⟨_,fun α k=>by rw[e,h]⟩
   ·exact .inr ⟨n,fun α k=>by rw[e,h]⟩
  ·have e:∀ (α:Type) (k:Tb β→Tree α),xx6 (d+1) (.n l u r) (j+1) v k=xx6 d r (j / 2) v fun r=>k (.n l u r):=fun α k=>by
    change Tb.pick j (fun i=>xx6 d l i v fun l=>k (.n l u r)) (fun i=>xx6 d r i v fun r=>k (.n l u r))=_
    rw[Tb.pick_odd hj]
   rcases setT_flat d r (j / 2) v with⟨t',h⟩|⟨n,h⟩
   ·exact .inl ⟨_,fun α k=>by rw[e,h]⟩
   ·exact .inr ⟨n,fun α k=>by rw[e,h]⟩
section
variable {α:Type} {Φ:α→Prop}
theorem xx9{β:Type}{d:Nat}{t:Tb β}{i:Nat}{v:Option β}{k:Tb β→Tree α}(h:∀t',ze3 t i v t'→(k t').says Φ):(xx6 d t i v k).says Φ:=by
 rcases setT_flat d t i v with⟨t',h1⟩|⟨n,h1⟩
 ·rw[h1]
  obtain⟨t2,g1,g2⟩:=qG7 (L:=fun x=>x=t') d t i v .leaf (by rw[h1];exact rfl);obtain rfl:t2=t':=g2;exact h _ g1
 ·rw[h1];trivial
theorem Mem.set_says{m:Mem}{id:Nat}{b:Option Box}{k:Mem→Tree α}(h:∀m',zc0 m id b m'→(k m').says Φ):(m.set id b k).says Φ:=
 xx9 fun tb htb=>h _ ⟨htb,rfl⟩
end
theorem yd6{w:World}{g o:Nat}{arr:Array Value}{e:TypeId}{fr:Nat×Nat}(hg:w.heap[g]? =some (.cells arr e fr))(hu:xX9 arr fr)(hl:o<arr.size):w.frozen? ⟨g,o,none⟩=false:=by
 have:=hu o hl;simp only[World.frozen?,hg]
 by_cases h2:fr.1≤o
 ·have h3:¬o<fr.2:=fun h3=>this ⟨h2,h3⟩
  simp[h3]
 ·simp[h2]
inductive Wk (nz:Bool) (boxes:List (Option Box)) (fz:List Nat):SV→SV→Prop where
 |same (x:SV):Wk nz boxes fz x x
 |top (x:SV):Wk nz boxes fz x .top
 |nil (h:nz=true):Wk nz boxes fz .nilS (.row boxes.length)
 |frz {id:Nat} {t:Ty} {l:List t.T} (hid:id∈fz) (hb:boxes[id]? =some (some (.rows t l))):Wk nz boxes fz (.row id) (.list t l)
def WkL(nz:Bool)(boxes:List (Option Box))(fz:List Nat):List SV→List SV→Prop
 |[],[] =>True
 |x::xs,y::ys=>Wk nz boxes fz x y∧WkL nz boxes fz xs ys
 |_,_=>False
def WkK(nz:Bool)(boxes:List (Option Box))(fz:List Nat):List (Nat×SV)→List (Nat×SV)→Prop
 |[],[] =>True
 |x::xs,y::ys=>x.1=y.1∧Wk nz boxes fz x.2 y.2∧WkK nz boxes fz xs ys
 |_,_=>False
inductive WkB (nz:Bool) (boxes:List (Option Box)) (fz:List Nat):Box→Box→Prop where
 |same (B:Box):WkB nz boxes fz B B
 |cells {cs ds:List SV} (h:WkL nz boxes fz cs ds):WkB nz boxes fz (.cells cs) (.cells ds)
def ze5(nz:Bool)(boxes:List (Option Box))(fz:List Nat):Nat→List (Option Box)→List (Option Box)→Prop
 |_,[],[] =>nz=false
 |_,[],some (.rows _ [])::[] =>True
 |i,_::bs,none::bs'=>ze5 nz boxes fz (i+1) bs bs'
 |i,some B::bs,some B'::bs'=>i∉fz∧WkB nz boxes fz B B'∧ze5 nz boxes fz (i+1) bs bs'
 |_,_,_=>False
section
variable {nz:Bool} {boxes:List (Option Box)} {fz:List Nat}
theorem WkL.length:∀{l l':List SV},WkL nz boxes fz l l'→l'.length=l.length
 |[],[],_=>rfl
 |x::xs,y::ys,h=>by simp[WkL.length h.2]
theorem WkL.get:∀{l l':List SV},WkL nz boxes fz l l'→∀{i:Nat} {y:SV},l'[i]? =some y→∃x,l[i]? =some x∧Wk nz boxes fz x y
 |[],[],_,i,y,h=>by simp at h
 |x::xs,z::ys,h,0,y,hy=>by
  simp at hy;subst hy;exact⟨x,rfl,h.1⟩
 |x::xs,z::ys,h,i+1,y,hy=>by
  simpa using WkL.get h.2 (i:=i) (y:=y) (by simpa using hy)
theorem WkK.lookup:∀{ks ks':List (Nat×SV)},WkK nz boxes fz ks ks'→∀i,Wk nz boxes fz ((ks.lookup i).getD .top) ((ks'.lookup i).getD .top)
 |[],[],_,i=>.same _
 |x::xs,y::ys,h,i=>by
  obtain⟨h1,h2,h3⟩:=h;obtain⟨a,x⟩:=x;obtain⟨b,y⟩:=y;dsimp only at h1 h2;subst h1;simp only[List.lookup]
  cases(i==a)with
  |true=>exact h2
  |false=>exact WkK.lookup h3 i
theorem xz7{n:Nat}{ks ks':List (Nat×SV)}(h:WkK nz boxes fz ks ks'):WkL nz boxes fz (j9 n ks) (j9 n ks'):=by
 unfold j9
 induction List.range n with
 |nil=>trivial
 |cons i l ih=>exact⟨h.lookup i,ih⟩
theorem ze5.len:∀{i:Nat} {bs bs':List (Option Box)},ze5 nz boxes fz i bs bs'→bs.length≤bs'.length
 |_,[],[],_=>Nat.le_refl _
 |_,[],some (.rows _ [])::[],_=>by simp
 |i,_::bs,none::bs',h=>by simpa using ze5.len (i:=i+1) (bs:=bs) (bs':=bs') h
 |i,some B::bs,some B'::bs',h=>by simpa using ze5.len (i:=i+1) h.2.2
theorem ze5.len2(hz:nz=true):∀{i:Nat} {bs bs':List (Option Box)},ze5 nz boxes fz i bs bs'→bs.length<bs'.length
 |_,[],[],h=>by rw[show nz=false from h]at hz;cases hz
 |_,[],some (.rows _ [])::[],_=>by simp
 |i,_::bs,none::bs',h=>by simpa using ze5.len2 hz (i:=i+1) (bs:=bs) (bs':=bs') h
 |i,some B::bs,some B'::bs',h=>by simpa using ze5.len2 hz (i:=i+1) h.2.2
theorem ze5.get:∀{i:Nat} {bs bs':List (Option Box)},ze5 nz boxes fz i bs bs'→∀{j:Nat} {B':Box},(bs'[j]?).join=some B'→(∃B,(bs[j]?).join=some B∧i+j∉fz∧WkB nz boxes fz B B')∨(j=bs.length∧∃t,B'=.rows t [])
 |_,[],[],_,j,B',h=>by simp at h
 |_,[],some (.rows t [])::[],_,0,B',h=>by
  simp at h;subst h;exact .inr ⟨rfl,t,rfl⟩
 |_,[],some (.rows t [])::[],_,j+1,B',h=>by simp at h
 |i,_::bs,none::bs',h,0,B',hj=>by simp at hj
 |i,x::bs,none::bs',h,j+1,B',hj=>by
  have:=ze5.get (i:=i+1) (bs:=bs) (bs':=bs') h (j:=j) (B':=B') (by simpa using hj)
  simpa[Nat.add_assoc,Nat.add_comm 1 j]using this
 |i,some B::bs,some C::bs',h,0,B',hj=>by
  simp at hj;subst hj;exact .inl ⟨B,rfl,by simpa using h.1,h.2.1⟩
 |i,some B::bs,some C::bs',h,j+1,B',hj=>by
  have:=ze5.get (i:=i+1) h.2.2 (j:=j) (B':=B') (by simpa using hj)
  simpa[Nat.add_assoc,Nat.add_comm 1 j]using this
theorem zd5.weak{ds:List Deferred}{slots slots':List SV}{boxes':List (Option Box)}{fr fr':Fr}{m m':Mem}(hc:Canon slots boxes fr m)(hc':Canon slots' boxes' fr' m')(hs:WkL nz boxes fz slots slots')(hb:ze5 nz boxes fz 0 boxes boxes'){w0:World}{R0:RSet}{ρ:Rho}{w:World}{a:Act}(h:zd5 ds w0 R0 ρ w fr m a):
  zd5 ds w0 R0 (upd ρ boxes.length (0,0,0)) w fr' m' a∧∀b,RO w0 R0 ρ w m b→RO w0 R0 (upd ρ boxes.length (0,0,0)) w m' b:=by
 obtain⟨h1,h2,h3⟩:=h;have hlen:=hb.len;have hn:m.next=boxes.length:=hc.next;have hn':m'.next=boxes'.length:=hc'.next
 -- where each box comes from
 have hg:∀id B',m'.get id=some B'→(∃B,m.get id=some B∧id≠boxes.length∧id∉fz∧WkB nz boxes fz B B')∨(id=boxes.length∧∃t,B'=.rows t []):=fun id B' hB=>by
  rw[hc'.box]at hB;rcases hb.get hB with⟨B,k1,k2,k3⟩|k
  ·refine .inl ⟨B,by rw[hc.box];exact k1,fun e=>?_,by simpa using k2,k3⟩
   subst e;simp at k1
  ·exact .inr k
 have hsol:∀{B B':Box} {r:Nat×Nat×Nat},WkB nz boxes fz B B'→(xA0 r B'↔xA0 r B):=fun hw=>by
  cases hw with
  |same=>exact Iff.rfl
  |cells=>exact Iff.rfl
 have hro:∀b,RO w0 R0 ρ w m b→RO w0 R0 (upd ρ boxes.length (0,0,0)) w m' b:=fun b hb2=>by
  rcases hb2 with hb2|⟨k1,k2,k3,k4⟩
  ·exact .inl hb2
  ·refine .inr ⟨k1,k2,fun id B' hB hs'=>?_,k4⟩
   rcases hg id B' hB with⟨B,g1,g2,g3,g4⟩|⟨rfl,t,rfl⟩
   ·rw[t6 _ _ g2]at hs' ⊢
    exact k3 id B g1 ((hsol g4).1 hs')
   ·rw[p7]at hs';exact absurd hs' (Nat.lt_irrefl _)
 have e:Ext (RO w0 R0 ρ w m) ρ m.next w (RO w0 R0 (upd ρ boxes.length (0,0,0)) w m') (upd ρ boxes.length (0,0,0)) m'.next w:=⟨by omega,fun id hid=>t6 _ _ (by omega),fun b hb2=>⟨hro b hb2,rfl⟩⟩
 have hval:∀ (x y:SV) (v:Value),Wk nz boxes fz x y→Rep (RO w0 R0 ρ w m) ρ m.next w x v→Rep (RO w0 R0 (upd ρ boxes.length (0,0,0)) w m') (upd ρ boxes.length (0,0,0)) m'.next w y v:=by
  intro x y v hw hr
  cases hw with
  |same=>exact Rep.mono e _ _ hr
  |top=>trivial
  |nil hz=>
   rw[show v=_ from hr];have hx:=hb.len2 hz;exact⟨by omega,none,by rw[p7],fun h0=>by rw[p7]at h0;exact absurd h0 (Nat.lt_irrefl _)⟩
  |frz hid hb1=>
   rename_i id t l;obtain⟨_,a,hu,ha⟩:=hr
   have hgid:m.get id=some (.rows t l):=by rw[hc.box,hb1];rfl
   obtain⟨b1,b2,hp⟩:=h1.box id _ hgid;refine⟨a,(ρ id).2.2,by rw[hu,b1],b2,fun h0=>?_⟩;have h0:0< (ρ id).2.2:=Nat.lt_of_lt_of_le h0 b2;obtain⟨arr,el,fr,k1,k2,k3,k4⟩:=hp h0;refine⟨(ρ id).1,0,ha h0,.inr ⟨h1.lo id _ hgid h0,h1.hi id _ hgid h0,fun id' B' hB hs' heq=>?_,h1.hid.2 id _ hgid h0⟩,fun i hi=>?_⟩
   ·rcases hg id' B' hB with⟨B,g1,g2,g3,g4⟩|⟨rfl,t,rfl⟩
    ·rw[t6 _ _ g2]at hs' heq
     have:=h1.inj id' id B _ g1 hgid ((hsol g4).1 hs') h0 heq;subst this;exact g3 hid
    ·rw[p7]at hs';exact absurd hs' (Nat.lt_irrefl _)
   ·obtain⟨cs,c1,c2,c3⟩:=k4 i hi
    refine⟨cs,c1,fun j hj=>?_,p8.mono e.keep _ _ _ c3⟩;rw[cell_of_row w _ _ arr el fr k1,Nat.zero_add];exact c2 j hj
 have hvalL:∀ (xs ys:List SV) (vs:List Value),WkL nz boxes fz xs ys→j7 (RO w0 R0 ρ w m) ρ m.next w xs vs→j7 (RO w0 R0 (upd ρ boxes.length (0,0,0)) w m') (upd ρ boxes.length (0,0,0)) m'.next w ys vs:=by
  intro xs
  induction xs with
  |nil=>
   intro ys vs hw hr
   cases ys with
   |nil=>exact hr
   |cons _ _=>cases hw
  |cons x xs ih=>
   intro ys vs hw hr
   cases ys with
   |nil=>cases hw
   |cons y ys=>
    obtain⟨u,us,rfl,r1,r2⟩:=hr;exact⟨u,us,rfl,hval x y u hw.1 r1,ih ys us hw.2 r2⟩
 refine⟨⟨⟨h1.below,fun id B' hB=>?_,fun id B' hB hs'=>?_,fun id B' hB hs'=>?_,fun id id' B' C' hB hC hs1 hs2 heq=>?_,fun id B' hB=>?_,h1.hid.1,fun id B' hB hs'=>?_⟩,⟨?_,fun t=>?_⟩,h3⟩,hro⟩
 ·rw[hn']
  rw[hc'.box]at hB;rcases Nat.lt_or_ge id boxes'.length with k|k
  ·exact k
  ·rw[List.getElem?_eq_none k]at hB;cases hB
 ·rcases hg id B' hB with⟨B,g1,g2,g3,g4⟩|⟨rfl,t,rfl⟩
  ·rw[t6 _ _ g2]at hs' ⊢;exact h1.lo id B g1 ((hsol g4).1 hs')
  ·rw[p7]at hs';exact absurd hs' (Nat.lt_irrefl _)
 ·rcases hg id B' hB with⟨B,g1,g2,g3,g4⟩|⟨rfl,t,rfl⟩
  ·rw[t6 _ _ g2]at hs' ⊢;exact h1.hi id B g1 ((hsol g4).1 hs')
  ·rw[p7]at hs';exact absurd hs' (Nat.lt_irrefl _)
 ·rcases hg id B' hB with⟨B,g1,g2,g3,g4⟩|⟨rfl,t,rfl⟩
  ·rcases hg id' C' hC with⟨C,g1',g2',g3',g4'⟩|⟨rfl,t',rfl⟩
   ·rw[t6 _ _ g2]at hs1 heq;rw[t6 _ _ g2']at hs2 heq
    exact h1.inj id id' B C g1 g1' ((hsol g4).1 hs1) ((hsol g4').1 hs2) heq
   ·rw[p7]at hs2;exact absurd hs2 (Nat.lt_irrefl _)
  ·rw[p7]at hs1;exact absurd hs1 (Nat.lt_irrefl _)
 ·rcases hg id B' hB with⟨B,g1,g2,g3,g4⟩|⟨rfl,t,rfl⟩
  ·rw[t6 _ _ g2]
   cases g4 with
   |same=>exact za2.mono e _ (fun _=>rfl) (h1.box id _ g1)
   |cells hw=>
    obtain⟨arr,el,fr2,k1,k2,k3⟩:=h1.box id _ g1;exact⟨arr,el,fr2,k1,k2,hvalL _ _ _ hw k3⟩
  ·rw[p7]
   exact⟨rfl,Nat.le_refl _,fun h0=>absurd h0 (Nat.lt_irrefl _)⟩
 ·rcases hg id B' hB with⟨B,g1,g2,g3,g4⟩|⟨rfl,t,rfl⟩
  ·rw[t6 _ _ g2]at hs' ⊢;exact h1.hid.2 id B g1 ((hsol g4).1 hs')
  ·rw[p7]at hs';exact absurd hs' (Nat.lt_irrefl _)
 ·rw[hc'.size,hs.length,←hc.size];exact h2.1
 ·rw[hc'.get t,List.getD_eq_getElem?_getD]
  cases hx:slots'[t]? with
  |none=>
   have ht:slots'.length≤t:=by simpa using hx
   have:a.tmps.getD t Go.undef=Go.undef:=by
    rw[Array.getD_eq_getD_getElem?,Array.getElem?_eq_none (by rw[←h2.1,hc.size,←hs.length];exact ht)];rfl
   rw[this];exact rfl
  |some y=>
   obtain⟨x,hx1,hw⟩:=hs.get hx;refine hval x y _ hw ?_;have:=h2.2 t;rw[hc.get t,List.getD_eq_getElem?_getD,hx1]at this;exact this
end
theorem y89{P:Program}(nz:Bool){fn:Func}{v:SV}{items:List Item}{slots slots':List SV}{boxes boxes':List (Option Box)}(fz:List Nat)(hs:WkL nz boxes fz slots slots')(hb:ze5 nz boxes fz 0 boxes boxes')(h:b9 P fn v items slots' boxes'):b9 P fn v items slots boxes:=by
 intro fr m hc w0 R0 ρ w a hS b cs;obtain⟨fr',m',hc'⟩:=Canon.of (slots:=slots') (boxes:=boxes');obtain⟨h1,h2⟩:=zd5.weak hc hc' hs hb hS;obtain⟨ρ',w',a',todo,u,q1,q2,q3,q4,q5,q6⟩:=h fr' m' hc' w0 R0 _ w a h1 b cs;exact⟨ρ',w',a',todo,u,q1,q2,fun b hb2=>q3 b (h2 b hb2),q4,q5,q6⟩
end Go.Sx
namespace Go.Proofs.YtnkaepnblikcdaaGreat
open Go.Sx
section
variable {f g:Fw} {line:Int} {c:Gc.C}
end
def y40(d:V4):V4:=(0,0,d.2.2.1,0)
def y42(d:V4):V4:=(d.1,d.2.1,0,0)
def y46(f:Fw)(d:V4):Bool:=(!nz4 (y40 d)||zk6 f (y40 d) 0)&& (!(backOk f (y40 d)&&nz4 (y42 d))||zk6 (f8 f (y40 d)) (y42 d) 0)
theorem y47{f:Fw}{d:V4}:y46 f d=true↔(nz4 (y40 d)=true→zk6 f (y40 d) 0=true)∧(backOk f (y40 d)=true→nz4 (y42 d)=true→zk6 (f8 f (y40 d)) (y42 d) 0=true):=by
 unfold y46
 cases nz4 (y40 d)<;>cases nz4 (y42 d)<;>cases backOk f (y40 d)<;>simp
def y45(f:Fw)(d:V4):Bool:=backOk f (y40 d)&&backOk (f8 f (y40 d)) (y42 d)
def y44(f:Fw)(d:V4):Fw:=f8 (f8 f (y40 d)) (y42 d)
theorem nzC{d:V4}:nz4 (y40 d)=true↔¬d.2.2.1=0:=by unfold nz4 y40;simp
theorem nzD{d:V4}:nz4 (y42 d)=true↔¬d.1=0∨¬d.2.1=0:=by unfold nz4 y42;simp
section
variable {f g:Fw} {line:Int} {r:V4}
end
section
variable {f:Fw} {line:Int} {c:Gc.C}
end
section
variable {f:Fw} {line:Int} {c:Gc.C}
end
section
variable {f g:Fw} {line:Int} {c:Gc.C}
end
theorem x67{n:Int}(h:(Lit.int .i64 n).wf=true): -9223372036854775808≤n∧n≤9223372036854775807:=by
 have h:((-9223372036854775808:Int)≤n&&n≤(9223372036854775807:Int))=true:=h
 simpa using h
theorem xy8{x:Fw}(h:v6 x=true):shF x=true:=by
 have v:=t9 h;have l:=v.len;have k:=v.lens;unfold shF shB shI;rw[Bool.and_eq_true,decide_eq_true_eq,decide_eq_true_eq];omega
def yN8(l:Fl):Bool:=(l.pages.all fun p=>decide ((p.length:Int)≤100))&&(l.pages.length:Int)≤20
theorem yN9{l:Fl}:yN8 l=true↔(∀i,i<l.pages.length→((l.pages.getD i []).length:Int)≤100)∧(l.pages.length:Int)≤20:=by
 simp only[yN8,Bool.and_eq_true,List.all_eq_true,decide_eq_true_eq];refine and_congr ⟨fun h i hi=>?_,fun h x hx=>?_⟩ Iff.rfl
 ·rw[List.getD_eq_getElem?_getD,List.getElem?_eq_getElem hi];exact h _ (List.getElem_mem hi)
 ·obtain⟨i,hi,rfl⟩:=List.getElem_of_mem hx
  have:=h i hi;rw[List.getD_eq_getElem?_getD,List.getElem?_eq_getElem hi]at this;exact this
def evN(x:EvT):Int:=opN x.1
def qr6(l:List EvT)(m:Int):Bool:=(l.all fun x=>decide (evN x≤40))&&(l.length:Int)≤m
theorem qr7{l:List EvT}{m:Int}:qr6 l m=true↔(∀i,i<l.length→evN (l.getD i dEv)≤40)∧(l.length:Int)≤m:=by
 simp only[qr6,Bool.and_eq_true,List.all_eq_true,decide_eq_true_eq];refine and_congr ⟨fun h i hi=>?_,fun h x hx=>?_⟩ Iff.rfl
 ·rw[List.getD_eq_getElem?_getD,List.getElem?_eq_getElem hi];exact h _ (List.getElem_mem hi)
 ·obtain⟨i,hi,rfl⟩:=List.getElem_of_mem hx
  have:=h i hi;rw[List.getD_eq_getElem?_getD,List.getElem?_eq_getElem hi]at this;exact this
theorem qq8(l:List EvT)(m:Int)(hl:l.length≤9223372036854775807):∀ (k i:Nat),i+k=l.length→(∀t,t<i→evN (l.getD t dEv)≤40)→
  b9 pP (j8 pP 52) (.bool (qr6 l m)) (v5 pP 52 0) (j9 28 [(0,LE l),(1,J m),(5,J i)]) []
 |k,i,hi,hb=>by
  refine w6 k00 (n:=1000) (hint:=.unit) (keep:=x9 28 [0,1,5]) (p:=qq6) rfl ?_;erw [fe1 l m i];unfold qq7
  have t0:(i:Int).toNat=i:=by omega
  have fin:(¬(i:Int)<l.length∨¬(i:Int)<m)→SV.bool ((l.length:Int)≤m)=.bool (qr6 l m):=fun h=>by
   refine congrArg SV.bool (Bool.eq_iff_iff.2 ?_);rw[qr7,decide_eq_true_eq];refine⟨fun a=>⟨fun t ht=>hb t (by omega),a⟩,fun a=>a.2⟩
  rw[t0]
  match k,hi with
  |0,hi=>exact o5 (fun a=>absurd a (by omega)) fun a=>fin (.inl a)
  |k+1,hi=>
   have w1:i64.wrap ((i:Int)+1)=((i+1:Nat):Int):=by rw[w64 (by omega) (by omega)];omega
   rw[w1]
   refine o5 (fun a=>o5 (fun b=>x6 (by simp;omega) (o5 (fun c=>?_) (fun c=>?_))) fun b=>fin (.inr b)) fun a=>fin (.inl a)
   ·show SV.bool false=_
    refine congrArg SV.bool (Eq.symm (Bool.eq_false_iff.2 fun h=>?_));have:=(qr7.1 h).1 i (by omega);have c:evN (l.getD i dEv)>40:=c;omega
   ·refine⟨o9 _ _,qq8 l m hl k (i+1) (by omega) fun t ht=>?_⟩
    rcases Nat.lt_or_ge t i with q|q
    ·exact hb t q
    ·obtain rfl:t=i:=by omega
     have c:¬evN (l.getD t dEv)>40:=c;omega
theorem xe8(l:List EvT)(m:Int)(hl:l.length≤9223372036854775807):SCall pP 52 [LE l,J m] (.bool (qr6 l m)):=by
 refine m6 rfl rfl (by kernel_rfl) (w6 k00 (n:=1000) (hint:=.unit) (keep:=x9 28 [0,1,5]) (p:=qq4) (boxes:=[]) rfl ?_);have q:=fe0 l m;unfold u7 u9 at q;erw [q];unfold qq5;exact⟨o9 _ _,qq8 l m hl l.length 0 (by omega) fun t ht=>absurd ht (Nat.not_lt_zero _)⟩
def qW5(l:List EvT):Bool:=Nat.ble l.length 9223372036854775807
theorem qW6{l:List EvT}:qW5 l=true↔l.length≤9223372036854775807:=by unfold qW5;rw[Nat.ble_eq]
def z62:Fact:=⟨52,fun args=>match args with
 |[.list (.pair (.pair (.int .i64) (.pair .bool (.pair (.pair (.int .i64) (.pair (.int .i64) (.pair (.int .i64) (.pair (.int .i64) (.pair (.int .i64) (.pair (.int .i64) (.pair (.int .i64) (.int .i64)))))))) (.pair (.int .i64) (.pair (.int .i64) (.int .i64)))))) (.pair (.int .i64) (.int .i64))) l,.int .i64 m] =>some (.req (qW5 l) (.leaf (.bool (qr6 l m))))
 |_=>none⟩
theorem yl5:z62.ok pP:=fun args t ht=>by
 simp only[z62]at ht
 split at ht
 ·cases ht
  exact fun h=>xe8 _ _ (qW6.1 h)
 ·cases ht
theorem xn7(a b:V4):SCall pP 106 [V4.sv a,V4.sv b,J 1] (V4.sv (x41 a b)):=
 o8 mix [] trivial 1000 (.go (.lit (.go (.lit (.go (.lit (.go (.lit (.go (.lit (.all)))))))))))
  (t:=.req true (.req true (.req true (.req true (.req true (.req true (.req true (.req true (.req true (.req true (.req true (.req true (.leaf (.agg [J (i64.wrap (a.1+i64.wrap (1*b.1))),J (i64.wrap (a.2.1+i64.wrap (1*b.2.1))),J (i64.wrap (a.2.2.1+i64.wrap (1*b.2.2.1))),J (i64.wrap (a.2.2.2+i64.wrap (1*b.2.2.2)))]))))))))))))))
  (by kernel_rfl) (by
   have w1:∀x y:Int,i64.wrap (x+i64.wrap (1*y))=i64.wrap (x+y):=fun x y=>by
    rw[IntKind.wrap_i64,IntKind.wrap_i64,IntKind.wrap_i64];omega
   rw[w1,w1,w1,w1]
   refine x6 rfl (x6 rfl (x6 rfl (x6 rfl (x6 rfl (x6 rfl (x6 rfl (x6 rfl (x6 rfl (x6 rfl (x6 rfl (x6 rfl rfl)))))))))))) (by kernel_rfl) (by kernel_rfl)
theorem xn3(a b:V4):SCall pP 106 [V4.sv a,V4.sv b,J (-1)] (V4.sv (wsub4 a b)):=
 o8 mix [] trivial 1000 (.go (.lit (.go (.lit (.go (.lit (.go (.lit (.go (.lit (.all)))))))))))
  (t:=.req true (.req true (.req true (.req true (.req true (.req true (.req true (.req true (.req true (.req true (.req true (.req true (.leaf (.agg [J (i64.wrap (a.1+i64.wrap (-1*b.1))),J (i64.wrap (a.2.1+i64.wrap (-1*b.2.1))),J (i64.wrap (a.2.2.1+i64.wrap (-1*b.2.2.1))),J (i64.wrap (a.2.2.2+i64.wrap (-1*b.2.2.2)))]))))))))))))))
  (by kernel_rfl) (by
   have w1:∀x y:Int,i64.wrap (x+i64.wrap (-1*y))=i64.wrap (x-y):=fun x y=>by
    rw[IntKind.wrap_i64,IntKind.wrap_i64,IntKind.wrap_i64];omega
   rw[w1,w1,w1,w1]
   refine x6 rfl (x6 rfl (x6 rfl (x6 rfl (x6 rfl (x6 rfl (x6 rfl (x6 rfl (x6 rfl (x6 rfl (x6 rfl (x6 rfl rfl)))))))))))) (by kernel_rfl) (by kernel_rfl)
theorem xn9(c:V4):SCall pP 105 [V4.sv c] (.bool (v9 c)):=
 o8 mix [] trivial 1000 (let z0:Plan:=.lit (.lit (.lit .all));.go (.lit (.fork z0 (.lit (.lit (.fork .all (.go (.lit (.fork z0 (.lit (.lit (.fork .all (.go (.lit (.fork z0 (.lit (.lit (.fork .all (.go (.lit (.fork z0 (.lit (.lit (.fork .all (.go (.lit .all))))))))))))))))))))))))))
  (t:=let y0:Tree SV:=.leaf (.bool false);.req true (.node (c.1 < -16777216) y0 (.node (c.1>16777216) y0 (.req true (.node (c.2.1 < -16777216) y0 (.node (c.2.1>16777216) y0 (.req true (.node (c.2.2.1 < -16777216) y0 (.node (c.2.2.1>16777216) y0 (.req true (.node (c.2.2.2 < -16777216) y0 (.node (c.2.2.2>16777216) y0 (.leaf (.bool true))))))))))))))
  (by kernel_rfl) (by
   have q:∀b:Bool,(b=true↔v9 c=true)→SV.bool b=SV.bool (v9 c):=fun b h=>by rw[Bool.eq_iff_iff.2 h]
   have nf:=@r8 c;refine x6 rfl (o5 (fun a=>q _ ?_) fun a=>o5 (fun a2=>q _ ?_) fun a2=>x6 rfl (o5 (fun b=>q _ ?_) fun b=>o5 (fun b2=>q _ ?_) fun b2=>x6 rfl (o5 (fun d=>q _ ?_) fun d=>o5 (fun d2=>q _ ?_) fun d2=>x6 rfl (o5 (fun e=>q _ ?_) fun e=>o5 (fun e2=>q _ ?_) fun e2=>q _ ?_))))
   all_goals(rw[nf];simp only[Bool.false_eq_true,false_iff,true_iff];omega)) (by kernel_rfl) (by kernel_rfl)
def yQ2:Plan:=.fork (.ln 3 (.fork .all .all)) (.ln 3 (.lit .all))
noncomputable def yQ3(f:Fw):Tree Stop:= .node (f.moving) (.node (f.active>0) (.leaf (.done (J f.active))) (.leaf (.at (v5 pP 203 0) 28 (j9 28 [(1,.ptr 0 0),(15,.list (Ty.int IntKind.i64) f.lines),(16,J (↑f.lines.length:Int)),(17,J 0)]) [some (.cells (Fw.cells f))]))) (.leaf (.at (v5 pP 203 0) 28 (j9 28 [(1,.ptr 0 0),(15,.list (Ty.int IntKind.i64) f.lines),(16,J (↑f.lines.length:Int)),(17,J 0)]) [some (.cells (Fw.cells f))]))
theorem po0(f:Fw):w9 (Env.of pP (v7 [])) 1000 (j8 pP 203) .unit (x9 28 [1,15,16,17]) (u9 pP 203) yQ2 (u7 pP 203 [f.sv]) [] =yQ3 f:=by kernel_rfl
def yQ4:Plan:=.fork (.fork (.all) (.all)) (.all)
noncomputable def yQ5(f:Fw)(i:Int):Tree Stop:= .node (i< (↑f.lines.length:Int)) (.req (0≤i&&i< (↑f.lines.length:Int)) (.node (f.lines.getD i.toNat 0>0) (.leaf (.done (J (f.lines.getD i.toNat 0)))) (.leaf (.at (v5 pP 203 0) 28 (j9 28 [(1,.ptr 0 0),(15,.list (Ty.int IntKind.i64) f.lines),(16,J (↑f.lines.length:Int)),(17,J (i64.wrap (i+1)))]) [some (.cells (Fw.cells f))])))) (.leaf (.done (J (i64.wrap (f.line+1)))))
theorem po1(f:Fw)(i:Int):w9 (Env.of pP (v7 [])) 1000 (j8 pP 203) .unit (x9 28 [1,15,16,17]) (v5 pP 203 0) yQ4 (j9 28 [(1,.ptr 0 0),(15,LI f.lines),(16,J f.lines.length),(17,J i)]) [some (.cells f.cells)] =yQ5 f i:=by kernel_rfl
theorem xn8(f:Fw)(h:f.lines.length=f.queue.length):SCall pP 204 [f.sv] (.bool (y50 f)):=
 o8 mix [] trivial 1000 (.fork .all (.fork (.ln 4 (.lit .all)) (.ln 4 (.lit .all))))
  (t:=.node (f.moving)
 (.leaf (SV.bool (f.active==0)))
 (.node ((↑f.queue.length:Int)>0)
  (.req (0< (↑f.lines.length:Int)) (.leaf (SV.bool (f.lines.getD 0 0==0))))
  (.leaf (SV.bool false))))
   (by kernel_rfl) (by
    unfold y50
    refine f4 (fun m=>by rw[m];rfl) fun m=>o5 (fun k=>?_) fun k=>?_
    ·rw[m]
     refine x6 (decide_eq_true (by omega)) ?_
     cases hl:f.lines with
     |nil=>rw[hl]at h;simp at h;omega
     |cons n l=>rfl
    ·rw[m]
     have:f.lines=[] :=List.eq_nil_of_length_eq_zero (by omega)
     rw[this];rfl) (by kernel_rfl) (by kernel_rfl)
abbrev eL:SV:=.list Ty.unit []
def zI7:Plan:=.fork (.fork (.all) (.all)) (.fork (.all) (.all))
noncomputable def zI8(f:Fw):Tree Stop:= .node (f.queue.isEmpty) (.node (f.lines.isEmpty) (.leaf (.done (.agg [J f.ma.x.num,J f.ma.x.den,J f.ma.x.speed,J f.ma.x.accel,J f.ma.x.jerk,J f.ma.x.min,J f.ma.x.max,J f.ma.y.num,J f.ma.y.den,J f.ma.y.speed,J f.ma.y.accel,J f.ma.y.jerk,J f.ma.y.min,J f.ma.y.max,J f.ma.z.num,J f.ma.z.den,J f.ma.z.speed,J f.ma.z.accel,J f.ma.z.jerk,J f.ma.z.min,J f.ma.z.max,J f.ma.e.num,J f.ma.e.den,J f.ma.e.speed,J f.ma.e.accel,J f.ma.e.jerk,J f.ma.e.min,J f.ma.e.max,.bool f.ma.xy,J f.ma.ticks,J f.mode,.bool f.homed,J f.pos.1,J f.pos.2.1,J f.pos.2.2.1,J f.pos.2.2.2,J f.loc.1,J f.loc.2.1,J f.loc.2.2,J f.e,J f.feed,eL,eL,J f.mo.1.1.1,J f.mo.1.1.2.1,J f.mo.1.1.2.2.1,J f.mo.1.1.2.2.2,J f.mo.1.2.1,J f.mo.1.2.2.1,J f.mo.1.2.2.2.1,J f.mo.1.2.2.2.2,J f.mo.2.1,J f.mo.2.2,.bool f.moving,J f.active,.bool f.back,J f.ret.1,J f.ret.2.1,J f.ret.2.2.1,J f.ret.2.2.2,J f.dwell,J f.waits,J f.c0.target,J f.c0.kp,J f.c0.ki,J f.c0.scale,J f.c0.sum,J f.c0.limit,J f.c1.target,J f.c1.kp,J f.c1.ki,J f.c1.scale,J f.c1.sum,J f.c1.limit,J f.g0.low,J f.g0.high,J f.g0.watch,J f.g0.rise,J f.g0.band,J f.g0.base,J f.g0.count,J f.g0.idle,J f.g0.quiet,J f.g0.fault,.bool f.g0.door,J f.g1.low,J f.g1.high,J f.g1.watch,J f.g1.rise,J f.g1.band,J f.g1.base,J f.g1.count,J f.g1.idle,J f.g1.quiet,J f.g1.fault,.bool f.g1.door,J f.fan,J f.line,J f.ticks,J f.cold,J f.r0,J f.r1]))) (.req ((0+f.lines.length)*8≤140737488355328) (.leaf (.done (.agg [J f.ma.x.num,J f.ma.x.den,J f.ma.x.speed,J f.ma.x.accel,J f.ma.x.jerk,J f.ma.x.min,J f.ma.x.max,J f.ma.y.num,J f.ma.y.den,J f.ma.y.speed,J f.ma.y.accel,J f.ma.y.jerk,J f.ma.y.min,J f.ma.y.max,J f.ma.z.num,J f.ma.z.den,J f.ma.z.speed,J f.ma.z.accel,J f.ma.z.jerk,J f.ma.z.min,J f.ma.z.max,J f.ma.e.num,J f.ma.e.den,J f.ma.e.speed,J f.ma.e.accel,J f.ma.e.jerk,J f.ma.e.min,J f.ma.e.max,.bool f.ma.xy,J f.ma.ticks,J f.mode,.bool f.homed,J f.pos.1,J f.pos.2.1,J f.pos.2.2.1,J f.pos.2.2.2,J f.loc.1,J f.loc.2.1,J f.loc.2.2,J f.e,J f.feed,eL,.list (Ty.int IntKind.i64) f.lines,J f.mo.1.1.1,J f.mo.1.1.2.1,J f.mo.1.1.2.2.1,J f.mo.1.1.2.2.2,J f.mo.1.2.1,J f.mo.1.2.2.1,J f.mo.1.2.2.2.1,J f.mo.1.2.2.2.2,J f.mo.2.1,J f.mo.2.2,.bool f.moving,J f.active,.bool f.back,J f.ret.1,J f.ret.2.1,J f.ret.2.2.1,J f.ret.2.2.2,J f.dwell,J f.waits,J f.c0.target,J f.c0.kp,J f.c0.ki,J f.c0.scale,J f.c0.sum,J f.c0.limit,J f.c1.target,J f.c1.kp,J f.c1.ki,J f.c1.scale,J f.c1.sum,J f.c1.limit,J f.g0.low,J f.g0.high,J f.g0.watch,J f.g0.rise,J f.g0.band,J f.g0.base,J f.g0.count,J f.g0.idle,J f.g0.quiet,J f.g0.fault,.bool f.g0.door,J f.g1.low,J f.g1.high,J f.g1.watch,J f.g1.rise,J f.g1.band,J f.g1.base,J f.g1.count,J f.g1.idle,J f.g1.quiet,J f.g1.fault,.bool f.g1.door,J f.fan,J f.line,J f.ticks,J f.cold,J f.r0,J f.r1]))))) (.req ((0+f.queue.length)*64≤140737488355328) (.node (f.lines.isEmpty) (.leaf (.done (.agg [J f.ma.x.num,J f.ma.x.den,J f.ma.x.speed,J f.ma.x.accel,J f.ma.x.jerk,J f.ma.x.min,J f.ma.x.max,J f.ma.y.num,J f.ma.y.den,J f.ma.y.speed,J f.ma.y.accel,J f.ma.y.jerk,J f.ma.y.min,J f.ma.y.max,J f.ma.z.num,J f.ma.z.den,J f.ma.z.speed,J f.ma.z.accel,J f.ma.z.jerk,J f.ma.z.min,J f.ma.z.max,J f.ma.e.num,J f.ma.e.den,J f.ma.e.speed,J f.ma.e.accel,J f.ma.e.jerk,J f.ma.e.min,J f.ma.e.max,.bool f.ma.xy,J f.ma.ticks,J f.mode,.bool f.homed,J f.pos.1,J f.pos.2.1,J f.pos.2.2.1,J f.pos.2.2.2,J f.loc.1,J f.loc.2.1,J f.loc.2.2,J f.e,J f.feed,.list t4 f.queue,eL,J f.mo.1.1.1,J f.mo.1.1.2.1,J f.mo.1.1.2.2.1,J f.mo.1.1.2.2.2,J f.mo.1.2.1,J f.mo.1.2.2.1,J f.mo.1.2.2.2.1,J f.mo.1.2.2.2.2,J f.mo.2.1,J f.mo.2.2,.bool f.moving,J f.active,.bool f.back,J f.ret.1,J f.ret.2.1,J f.ret.2.2.1,J f.ret.2.2.2,J f.dwell,J f.waits,J f.c0.target,J f.c0.kp,J f.c0.ki,J f.c0.scale,J f.c0.sum,J f.c0.limit,J f.c1.target,J f.c1.kp,J f.c1.ki,J f.c1.scale,J f.c1.sum,J f.c1.limit,J f.g0.low,J f.g0.high,J f.g0.watch,J f.g0.rise,J f.g0.band,J f.g0.base,J f.g0.count,J f.g0.idle,J f.g0.quiet,J f.g0.fault,.bool f.g0.door,J f.g1.low,J f.g1.high,J f.g1.watch,J f.g1.rise,J f.g1.band,J f.g1.base,J f.g1.count,J f.g1.idle,J f.g1.quiet,J f.g1.fault,.bool f.g1.door,J f.fan,J f.line,J f.ticks,J f.cold,J f.r0,J f.r1]))) (.req ((0+f.lines.length)*8≤140737488355328) (.leaf (.done (.agg [J f.ma.x.num,J f.ma.x.den,J f.ma.x.speed,J f.ma.x.accel,J f.ma.x.jerk,J f.ma.x.min,J f.ma.x.max,J f.ma.y.num,J f.ma.y.den,J f.ma.y.speed,J f.ma.y.accel,J f.ma.y.jerk,J f.ma.y.min,J f.ma.y.max,J f.ma.z.num,J f.ma.z.den,J f.ma.z.speed,J f.ma.z.accel,J f.ma.z.jerk,J f.ma.z.min,J f.ma.z.max,J f.ma.e.num,J f.ma.e.den,J f.ma.e.speed,J f.ma.e.accel,J f.ma.e.jerk,J f.ma.e.min,J f.ma.e.max,.bool f.ma.xy,J f.ma.ticks,J f.mode,.bool f.homed,J f.pos.1,J f.pos.2.1,J f.pos.2.2.1,J f.pos.2.2.2,J f.loc.1,J f.loc.2.1,J f.loc.2.2,J f.e,J f.feed,.list t4 f.queue,.list (Ty.int IntKind.i64) f.lines,J f.mo.1.1.1,J f.mo.1.1.2.1,J f.mo.1.1.2.2.1,J f.mo.1.1.2.2.2,J f.mo.1.2.1,J f.mo.1.2.2.1,J f.mo.1.2.2.2.1,J f.mo.1.2.2.2.2,J f.mo.2.1,J f.mo.2.2,.bool f.moving,J f.active,.bool f.back,J f.ret.1,J f.ret.2.1,J f.ret.2.2.1,J f.ret.2.2.2,J f.dwell,J f.waits,J f.c0.target,J f.c0.kp,J f.c0.ki,J f.c0.scale,J f.c0.sum,J f.c0.limit,J f.c1.target,J f.c1.kp,J f.c1.ki,J f.c1.scale,J f.c1.sum,J f.c1.limit,J f.g0.low,J f.g0.high,J f.g0.watch,J f.g0.rise,J f.g0.band,J f.g0.base,J f.g0.count,J f.g0.idle,J f.g0.quiet,J f.g0.fault,.bool f.g0.door,J f.g1.low,J f.g1.high,J f.g1.watch,J f.g1.rise,J f.g1.band,J f.g1.base,J f.g1.count,J f.g1.idle,J f.g1.quiet,J f.g1.fault,.bool f.g1.door,J f.fan,J f.line,J f.ticks,J f.cold,J f.r0,J f.r1]))))))
theorem cln(f:Fw):w9 (Env.of pP (v7 [])) 1000 (j8 pP 104) .unit (x9 14 []) (u9 pP 104) zI7 (u7 pP 104 [f.sv]) [] =zI8 f:=by kernel_rfl
inductive EmpL:SV→SV→Prop where
 |same (x:SV):EmpL x x
 |emp (t:Ty):EmpL eL (.list t [])
def zb0:List SV→List SV→Prop
 |[],[] =>True
 |x::xs,y::ys=>EmpL x y∧zb0 xs ys
 |_,_=>False
theorem EmpL.rep{R:Nat→Prop}{ρ:Rho}{n:Nat}{w:World}{x y:SV}{v:Value}(h:EmpL x y)(hr:Rep R ρ n w x v):Rep R ρ n w y v:=by
 cases h with
 |same=>exact hr
 |emp t=>
  obtain⟨A,cap,h1,h2,_⟩:=hr;exact⟨A,cap,h1,h2,fun h=>absurd h (Nat.lt_irrefl _)⟩
theorem zb0.rep{R:Nat→Prop}{ρ:Rho}{n:Nat}{w:World}:∀{xs ys:List SV} {vs:List Value},zb0 xs ys→j7 R ρ n w xs vs→j7 R ρ n w ys vs
 |[],[],_,_,hr=>hr
 |x::xs,y::ys,_,h,hr=>by
  obtain⟨u,us,rfl,h1,h2⟩:=hr;exact⟨u,us,rfl,h.1.rep h1,h.2.rep h2⟩
def zI5(f:Fw)(q l:SV):List SV:=f.cells.take 41++(q::l::f.cells.drop 43)
theorem zI6(f:Fw){q l:SV}(hq:EmpL q (LB f.queue))(hl:EmpL l (LI f.lines)):zb0 (zI5 f q l) f.cells:=by
 obtain⟨⟩:=f;dsimp only at hq hl
 repeat(first|exact trivial|refine⟨.same _,?_⟩|refine⟨hq,?_⟩|refine⟨hl,?_⟩)
theorem xc2(f:Fw)(h:shF f=true):SCall pP 104 [f.sv] f.sv:=by
 have h1:f.queue.length≤1000:=of_decide_eq_true ((Bool.and_eq_true _ _).mp h).1;have h2:f.lines.length≤1000:=of_decide_eq_true ((Bool.and_eq_true _ _).mp h).2
 have key:∀q l:SV,(zI5 f q l).length=102→f5 (zI5 f q l)=true→EmpL q (LB f.queue)→EmpL l (LI f.lines)→(zI8 f).holds (fun o=>match o with
   |.done v'=>v'=.agg (zI5 f q l)
   |.at items' size slots' boxes'=>slots'.length=size∧b9 pP (j8 pP 104) (.agg (zI5 f q l)) items' slots' boxes')→SCall pP 104 [f.sv] f.sv:=fun q l _ hd hq hl ht=>by
  refine xx0 (v:=.agg (zI5 f q l)) (m6 rfl hd (by kernel_rfl) (w6 qS2 (n:=1000) (hint:=.unit) (keep:=x9 14 []) (p:=zI7) (boxes:=[]) hd ?_)) fun R ρ n w u hu=>?_
  ·have e:=cln f
   unfold u7 u9 at e;erw [e];exact ht
  ·obtain⟨ws,hu1,hu2⟩:=hu
   exact⟨ws,hu1,(zI6 f hq hl).rep hu2⟩
 by_cases a:f.queue=[]
 ·have ea:EmpL eL (LB f.queue):=by rw[a];exact .emp _
  by_cases b:f.lines=[]
  ·have eb:EmpL eL (LI f.lines):=by rw[b];exact .emp _
   refine key eL eL rfl rfl ea eb ?_;unfold zI8
   exact f4 (fun _=>f4 (fun _=>rfl) fun k=>absurd k (by rw[b];simp)) fun k=>absurd k (by rw[a];simp)
  ·refine key eL (LI f.lines) rfl rfl ea (.same _) ?_
   unfold zI8
   exact f4 (fun _=>f4 (fun k=>absurd (List.isEmpty_iff.1 k) b) fun _=>x6 (decide_eq_true (by omega)) rfl) fun k=>absurd k (by rw[a];simp)
 ·by_cases b:f.lines=[]
  ·have eb:EmpL eL (LI f.lines):=by rw[b];exact .emp _
   refine key (LB f.queue) eL rfl rfl (.same _) eb ?_;unfold zI8
   exact f4 (fun k=>absurd (List.isEmpty_iff.1 k) a) fun _=>x6 (decide_eq_true (by omega)) (f4 (fun _=>rfl) fun k=>absurd k (by rw[b];simp))
  ·refine key (LB f.queue) (LI f.lines) rfl rfl (.same _) (.same _) ?_
   unfold zI8
   exact f4 (fun k=>absurd (List.isEmpty_iff.1 k) a) fun _=>x6 (decide_eq_true (by omega)) (f4 (fun k=>absurd (List.isEmpty_iff.1 k) b) fun _=>x6 (decide_eq_true (by omega)) rfl)
theorem yQ6(f:Fw)(hl:f.lines.length≤1000)(hn:0≤f.line∧f.line≤1099511627776):∀ (k i:Nat) (v:Int),i+k=f.lines.length→v=qs9 (f.lines.drop i) (f.line+1)→
  b9 pP (j8 pP 203) (J v) (v5 pP 203 0) (j9 28 [(1,.ptr 0 0),(15,LI f.lines),(16,J f.lines.length),(17,J i)]) [some (.cells f.cells)]
 |k,i,v,hi,hv=>by
  refine w6 qS2 (n:=1000) (hint:=.unit) (keep:=x9 28 [1,15,16,17]) (p:=yQ4) rfl ?_;erw [po1 f i];unfold yQ5
  have t0:(i:Int).toNat=i:=by omega
  have w1:i64.wrap ((i:Int)+1)=((i+1:Nat):Int):=by rw[w64 (by omega) (by omega)];omega
  have w2:i64.wrap (f.line+1)=f.line+1:=w64 (by omega) (by omega);rw[t0,w1,w2]
  match k,hi with
  |0,hi=>
   rw[List.drop_eq_nil_of_le (by omega)]at hv;subst hv
   exact o5 (fun a=>absurd a (by omega)) fun _=>rfl
  |k+1,hi=>
   rw[zU7 (d:=(0:Int)) (by omega:i<f.lines.length)]at hv;unfold qs9 at hv
   refine o5 (fun _=>x6 (by simp;omega) (o5 (fun c=>?_) fun c=>?_)) fun a=>absurd (by omega) a
   ·rw[if_pos c]at hv;subst hv;rfl
   ·rw[if_neg c]at hv
    exact⟨o9 _ _,yQ6 f hl hn k (i+1) v (by omega) hv⟩
theorem xn4(f:Fw)(h:xy9 f=true):SCall pP 203 [f.sv] (J (e9 f)):=by
 obtain⟨s1,s2,s3,s4,s5,s6⟩:=xz0.1 h;refine m6 rfl rfl (by kernel_rfl) (w6 qS2 (n:=1000) (hint:=.unit) (keep:=x9 28 [1,15,16,17]) (p:=yQ2) (boxes:=[]) rfl ?_);have e:=po0 f;unfold u7 u9 at e;erw [e];unfold yQ3
 have go:∀v,e9 f=v→v=qs9 f.lines (f.line+1)→b9 pP (j8 pP 203) (J (e9 f)) (v5 pP 203 0) (j9 28 [(1,.ptr 0 0),(15,LI f.lines),(16,J f.lines.length),(17,J (0:Nat))]) [some (.cells f.cells)] :=fun v h1 h2=>by
  rw[h1];exact yQ6 f (by omega) s4 f.lines.length 0 v (by omega) (by rw[List.drop_zero];exact h2)
 refine f4 (fun m=>o5 (fun a=>?_) fun a=>⟨o9 _ _,?_⟩) fun m=>⟨o9 _ _,?_⟩
 ·have:e9 f=f.active:=if_pos ⟨m,a⟩
  rw[this];rfl
 ·exact go _ rfl (if_neg (fun k=>a k.2))
 ·exact go _ rfl (if_neg (fun k=>by rw[m]at k;cases k.1))
def z46:Fact:=qh6 104 fun f=>.req (shF f) (.leaf f.sv)
theorem yk0:z46.ok pP:=qh7 fun f h=>xc2 f h
def qb6:Fact:=qh6 203 fun f=>.req (xy9 f) (.leaf (J (e9 f)))
theorem yr1:qb6.ok pP:=qh7 fun f h=>xn4 f h
def qb7:Fact:=qh6 204 fun f=>.req (qX5 f) (.leaf (.bool (y50 f)))
theorem yr3:qb7.ok pP:=qh7 fun f h=>xn8 f (qX6.1 h)
def qb8:Fact:=qn8 105 fun c=>.leaf (.bool (v9 c))
theorem yr4:qb8.ok pP:=qo3 xn9
def fPP:Fact:=⟨106,fun args=>match args with
 |[.agg [.int .i64 a0,.int .i64 a1,.int .i64 a2,.int .i64 a3],.agg [.int .i64 b0,.int .i64 b1,.int .i64 b2,.int .i64 b3],.int .i64 s] =>match s==1 with
  |true=>some (.leaf (V4.sv (x41 (a0,a1,a2,a3) (b0,b1,b2,b3))))
  |false=>match s== -1 with
   |true=>some (.leaf (V4.sv (wsub4 (a0,a1,a2,a3) (b0,b1,b2,b3))))
   |false=>none
 |_=>none⟩
theorem yr2:fPP.ok pP:=fun args t ht=>by
 simp only[fPP]at ht
 split at ht
 ·split at ht
  ·rename_i hs
   have hs:=beq_iff_eq.1 hs;subst hs;cases ht;exact xn7 (_,_,_,_) (_,_,_,_)
  ·split at ht
   ·rename_i hs
    have hs:=beq_iff_eq.1 hs;subst hs;cases ht;exact xn3 (_,_,_,_) (_,_,_,_)
   ·cases ht
 ·cases ht
def n8(s:List UInt8):Rc:=⟨tk s 6 1,tk s 0 6,tk s 7 6,tk s 13 4,(sg (tk s 17 4),sg (tk s 21 4),sg (tk s 25 4),sg (tk s 29 4)),(sg (tk s 33 4),sg (tk s 37 4),sg (tk s 41 4),sg (tk s 45 4))⟩
def rcZ:Rc:=⟨0,0,0,0,(0,0,0,0),(0,0,0,0)⟩
def zQ0(s:List UInt8):Bool:=rcB (n8 s)&&s==enc (n8 s)
def zQ5(s:List UInt8):SV:=match decide (s.length<64)with
 |true=>.tuple [rcZ.sv,J 6]
 |false=>match zQ0 s with
  |true=>.tuple [(n8 s).sv,J 0]
  |false=>.tuple [rcZ.sv,J 19]
theorem zQ6(s:List UInt8):(zQ5 s).data=true:=by unfold zQ5;split<;>(try split)<;>rfl
theorem xd0(s:List UInt8)(h:s.length≤100000):SCall pP 263 [.str s] (zQ5 s):=
 o8 mix [qa6,z73,z60] ⟨yp8,ym6,yl3,trivial⟩ 1000 (.fork .all (.fork (.ln 4 (.fork .all .all)) (.ln 4 (.lit .all))))
  (t:=let y0:=Rc.mk (tk s 6 1) (tk s 0 6) (tk s 7 6) (tk s 13 4) (sg (tk s 17 4),sg (tk s 21 4),sg (tk s 25 4),sg (tk s 29 4)) (sg (tk s 33 4),sg (tk s 37 4),sg (tk s 41 4),sg (tk s 45 4));let y1:Tree SV:=.leaf (.tuple [.agg [J 0,J 0,J 0,J 0,J 0,J 0,J 0,J 0,J 0,J 0,J 0,J 0],J 19]);let y2:=(↑s.length:Int);let y3:=s.length≤100000;.node (y2<64) (.leaf (.tuple [.agg [J 0,J 0,J 0,J 0,J 0,J 0,J 0,J 0,J 0,J 0,J 0,J 0],J 6])) (.req (6≤y2&&decide y3) (.req (7≤y2&&decide y3) (.req (13≤y2&&decide y3) (.req (17≤y2&&decide y3) (.req (33≤y2&&decide y3) (.req (49≤y2&&decide y3) (.node (rcB y0) (.node (!s==enc y0) y1 (.leaf (.tuple [.agg [J (tk s 6 1),J (tk s 0 6),J (tk s 7 6),J (tk s 13 4),J (sg (tk s 17 4)),J (sg (tk s 21 4)),J (sg (tk s 25 4)),J (sg (tk s 29 4)),J (sg (tk s 33 4)),J (sg (tk s 37 4)),J (sg (tk s 41 4)),J (sg (tk s 45 4))],J 0]))) y1))))))))
  (by kernel_rfl) (by
   have qq:∀x:Int,x≤49→64≤s.length→(x≤(s.length:Int)&&s.length≤100000)=true:=fun x a b=>by simp;omega
   unfold zQ5;refine o5 (fun a=>?_) (fun a=>?_)
   ·rw[decide_eq_true (show s.length<64 by omega)];rfl
   ·rw[decide_eq_false (show ¬s.length<64 by omega)]
    have b:64≤s.length:=by omega
    have e:zQ0 s=(rcB (n8 s)&&s==enc (n8 s)):=rfl;refine x6 (qq _ (by decide) b) (x6 (qq _ (by decide) b) (x6 (qq _ (by decide) b) (x6 (qq _ (by decide) b) (x6 (qq _ (by decide) b) (x6 (qq _ (by decide) b) (f4 (fun v=>?_) fun v=>?_))))))
    ·have v:rcB (n8 s)=true:=v
     refine f9 (fun w=>?_) fun w=>?_
     ·have w:(s==enc (n8 s))=false:=w
      rw[e,v,w];rfl
     ·have w:(s==enc (n8 s))=true:=w
      rw[e,v,w];rfl
    ·have v:rcB (n8 s)=false:=v
     rw[e,v];rfl) (by kernel_rfl) (by exact zQ6 s)
theorem zw3(n:Int):∀ (w j:Nat),j<w→((beN n w).getD j 0).toNat=(n / 256 ^ (w-1-j) % 256).toNat
 |0,j,h=>by omega
 |w+1,0,h=>by
  simp only[beN,List.getD_cons_zero,Nat.add_sub_cancel,Nat.sub_zero]
  have:(n / 256 ^ w % 256).toNat<256:=by omega
  rw[UInt8.toNat_ofNat'];exact Nat.mod_eq_of_lt this
 |w+1,j+1,h=>by
  simp only[beN,List.getD_cons_succ];rw[zw3 n w j (by omega),show w+1-1-(j+1)=w-1-j by omega]
theorem zr8{pre mid post:List UInt8}{j:Nat}(h:j<mid.length):(pre++(mid++post)).getD (pre.length+j) 0=mid.getD j 0:=by
 simp only[List.getD_eq_getElem?_getD];rw[List.getElem?_append_right (by omega),Nat.add_sub_cancel_left,List.getElem?_append_left h]
theorem xQ9{s pre post:List UInt8}{n:Int}{a:Nat}(h:s=pre++(beN n 1++post))(ha:pre.length=a)(h0:0≤n)(h1:n<256):tk s a 1=n:=by
 subst h ha
 have e:=fun j hj=>zr8 (pre:=pre) (mid:=beN n 1) (post:=post) (j:=j) (by rw[zw5];exact hj)
 rw[xR2];simp only[tkN];rw[e 0 (by omega),zw3 n 1 0 (by omega)];omega
theorem xR0{s pre post:List UInt8}{n:Int}{a:Nat}(h:s=pre++(beN n 4++post))(ha:pre.length=a):tk s a 4=n % 4294967296:=by
 subst h ha
 have e:=fun j hj=>zr8 (pre:=pre) (mid:=beN n 4) (post:=post) (j:=j) (by rw[zw5];exact hj)
 rw[xR2];simp only[tkN];rw[e 0 (by omega),e 1 (by omega),e 2 (by omega),e 3 (by omega),zw3 n 4 0 (by omega),zw3 n 4 1 (by omega),zw3 n 4 2 (by omega),zw3 n 4 3 (by omega)];simp only[Nat.reduceSub,Int.reducePow];omega
theorem dig{m:Int}{x:Nat}(h:x=(m % 256).toNat):m / 256*256+(x:Int)=m:=by omega
theorem xR9{x0 x1 x2 x3 x4 x5:Nat}{n:Int}(h0:0≤n)(h1:n<281474976710656)(e0:x0=(n / 1099511627776 % 256).toNat)(e1:x1=(n / 4294967296 % 256).toNat)(e2:x2=(n / 16777216 % 256).toNat)(e3:x3=(n / 65536 % 256).toNat)(e4:x4=(n / 256 % 256).toNat)(e5:x5=(n % 256).toNat):
  (((((0*256+(x0:Int))*256+x1)*256+x2)*256+x3)*256+x4)*256+x5=n:=by
 have d1:n / 4294967296 / 256=n / 1099511627776:=by clear e0 e1 e2 e3 e4 e5;omega
 have d2:n / 16777216 / 256=n / 4294967296:=by clear e0 e1 e2 e3 e4 e5;omega
 have d3:n / 65536 / 256=n / 16777216:=by clear e0 e1 e2 e3 e4 e5;omega
 have d4:n / 256 / 256=n / 65536:=by clear e0 e1 e2 e3 e4 e5;omega
 have q0:0*256+(x0:Int)=n / 1099511627776:=by clear d1 d2 d3 d4 e1 e2 e3 e4 e5;omega
 rw[q0,←d1,dig e1,←d2,dig e2,←d3,dig e3,←d4,dig e4,dig e5]
theorem xR1{s pre post:List UInt8}{n:Int}{a:Nat}(h:s=pre++(beN n 6++post))(ha:pre.length=a)(h0:0≤n)(h1:n<281474976710656):tk s a 6=n:=by
 subst h ha
 have e:=fun j hj=>zr8 (pre:=pre) (mid:=beN n 6) (post:=post) (j:=j) (by rw[zw5];exact hj)
 have g:=fun j hj=>zw3 n 6 j hj
 rw[xR2];simp only[tkN];refine xR9 h0 h1 ?_ ?_ ?_ ?_ ?_ ?_
 ·rw[e 0 (by omega),g 0 (by omega)];rfl
 ·rw[e 1 (by omega),g 1 (by omega)];rfl
 ·rw[e 2 (by omega),g 2 (by omega)];rfl
 ·rw[e 3 (by omega),g 3 (by omega)];rfl
 ·rw[e 4 (by omega),g 4 (by omega)];rfl
 ·rw[e 5 (by omega),g 5 (by omega)]
  simp only[Nat.reduceSub,Int.pow_zero,Int.ediv_one]
theorem xy6{n:Int}(h0: -2147483648≤n)(h1:n≤2147483647):sg (n % 4294967296)=n:=by
 unfold sg;split<;>omega
theorem zQ7{r:Rc}(h:rcB r=true):n8 (enc r)=r:=by
 obtain⟨hk,hs,hl,hd,⟨a1,a2,a3,a4⟩,b1,b2,b3,b4⟩:=yW5.1 h;have ap:=@List.append_assoc UInt8
 have go:∀{x:List UInt8} {pre mid post:List UInt8},pre++(mid++post)=x→x=pre++(mid++post):=fun h=>h.symm
 have len:∀ (n:Int) (w:Nat),(beN n w).length=w:=zw5
 have s4:∀{n:Int} (pre post:List UInt8) {a:Nat},enc r=pre++(beN n 4++post)→pre.length=a→-2147483648≤n→n≤2147483647→sg (tk (enc r) a 4)=n:=fun pre post _ h ha h0 h1=>by rw[xR0 h ha,xy6 h0 h1]
 obtain⟨kind,seq,line,done,⟨p1,p2,p3,p4⟩,⟨q1,q2,q3,q4⟩⟩:=r
 dsimp only at *
 unfold n8;rw[Rc.mk.injEq];refine⟨?_,?_,?_,?_,?_,?_⟩
 ·exact xQ9 (pre:=beN seq 6) (by simp only[enc,zY8,yK3,ap];rfl) (len _ _) (by omega) (by omega)
 ·exact xR1 (pre:=[]) (by simp only[enc,zY8,yK3,ap,List.nil_append];rfl) rfl (by omega) (by omega)
 ·exact xR1 (pre:=beN seq 6++beN kind 1) (by simp only[enc,zY8,yK3,ap];rfl) (by simp only[List.length_append,len]) (by omega) (by omega)
 ·rw[xR0 (n:=done) (pre:=beN seq 6++(beN kind 1++beN line 6)) (by simp only[enc,zY8,yK3,ap];rfl) (by simp only[List.length_append,len])];omega
 ·refine Prod.ext ?_ (Prod.ext ?_ (Prod.ext ?_ ?_))<;>dsimp only
  ·exact s4 (beN seq 6++(beN kind 1++(beN line 6++beN done 4))) _ (by simp only[enc,zY8,yK3,ap];rfl) (by simp only[List.length_append,len]) (by omega) (by omega)
  ·exact s4 (beN seq 6++(beN kind 1++(beN line 6++(beN done 4++beN p1 4)))) _ (by simp only[enc,zY8,yK3,ap];rfl) (by simp only[List.length_append,len]) (by omega) (by omega)
  ·exact s4 (beN seq 6++(beN kind 1++(beN line 6++(beN done 4++(beN p1 4++beN p2 4))))) _ (by simp only[enc,zY8,yK3,ap];rfl) (by simp only[List.length_append,len]) (by omega) (by omega)
  ·exact s4 (beN seq 6++(beN kind 1++(beN line 6++(beN done 4++(beN p1 4++(beN p2 4++beN p3 4)))))) _ (by simp only[enc,zY8,yK3,ap];rfl) (by simp only[List.length_append,len]) (by omega) (by omega)
 ·refine Prod.ext ?_ (Prod.ext ?_ (Prod.ext ?_ ?_))<;>dsimp only
  ·exact s4 (beN seq 6++(beN kind 1++(beN line 6++(beN done 4++(beN p1 4++(beN p2 4++(beN p3 4++beN p4 4))))))) _ (by simp only[enc,zY8,yK3,ap];rfl) (by simp only[List.length_append,len]) (by omega) (by omega)
  ·exact s4 (beN seq 6++(beN kind 1++(beN line 6++(beN done 4++(beN p1 4++(beN p2 4++(beN p3 4++(beN p4 4++beN q1 4)))))))) _ (by simp only[enc,zY8,yK3,ap];rfl) (by simp only[List.length_append,len]) (by omega) (by omega)
  ·exact s4 (beN seq 6++(beN kind 1++(beN line 6++(beN done 4++(beN p1 4++(beN p2 4++(beN p3 4++(beN p4 4++(beN q1 4++beN q2 4))))))))) _ (by simp only[enc,zY8,yK3,ap];rfl) (by simp only[List.length_append,len]) (by omega) (by omega)
  ·exact s4 (beN seq 6++(beN kind 1++(beN line 6++(beN done 4++(beN p1 4++(beN p2 4++(beN p3 4++(beN p4 4++(beN q1 4++(beN q2 4++beN q3 4)))))))))) _ (by simp only[enc,zY8,yK3,ap];rfl) (by simp only[List.length_append,len]) (by omega) (by omega)
theorem zQ1{r:Rc}(h:rcB r=true):zQ0 (enc r)=true:=by
 unfold zQ0;rw[zQ7 h,h];simp
theorem zQ2{s:List UInt8}:zQ0 s=true↔rcB (n8 s)=true∧s=enc (n8 s):=by
 simp only[zQ0,Bool.and_eq_true,beq_iff_eq]
theorem zZ4(r:Rc):(enc r).take 6=beN r.seq 6:=by
 have:enc r=beN r.seq 6++(enc r).drop 6:=by
  have e:enc r=beN r.seq 6++(beN r.kind 1++(beN r.line 6++(beN r.done 4++(beN r.src.1 4++(beN r.src.2.1 4++(beN r.src.2.2.1 4++(beN r.src.2.2.2 4++(beN r.dst.1 4++(beN r.dst.2.1 4++(beN r.dst.2.2.1 4++(beN r.dst.2.2.2 4++(beN (crc (zY8 r)) 2++(List.replicate (58-((zY8 r++beN (crc (zY8 r)) 2).length:Int)).toNat 0++beN r.seq 6))))))))))))):=by
   simp only[enc,zY8,yK3,List.append_assoc]
  conv=>rhs;rw[e]
  rw[List.drop_left' (zw5 _ _)];exact e
 rw[this,List.take_left' (zw5 _ _)]
theorem zZ6(r:Rc):(enc r).drop 58=beN r.seq 6:=by
 have l:(yK3 (zY8 r++beN (crc (zY8 r)) 2) 58).length=58:=by simp only[yK3,List.length_append,zw5,zY9,List.length_replicate];omega
 unfold enc;rw[List.drop_left' l]
theorem zw4{a b:Int}(ha:0≤a∧a<281474976710656)(hb:0≤b∧b<281474976710656)(h:beN a 6=beN b 6):a=b:=by
 have h1:=xR1 (s:=beN a 6) (pre:=[]) (post:=[]) (n:=a) (by simp) rfl ha.1 ha.2;have h2:=xR1 (s:=beN b 6) (pre:=[]) (post:=[]) (n:=b) (by simp) rfl hb.1 hb.2;rw[h]at h1;exact h1.symm.trans h2
def pgA(q:Int)(s:List UInt8):Prop:=s.length=64∧s.drop 58=beN q 6
def pgB(S q:Int)(s:List UInt8):Prop:=s.length=64∧s.take 6=beN S 6∧s.drop 63=beN q 1
theorem yN5{q:Int}{s:List UInt8}(h:pgA q s):s.drop 63=beN q 1:=by
 have:s.drop 63=(s.drop 58).drop 5:=by rw[List.drop_drop]
 rw[this,h.2];rfl
theorem zQ9{s:List UInt8}(h:zQ0 s=true):s.take 6=beN (n8 s).seq 6∧s.drop 58=beN (n8 s).seq 6∧1≤(n8 s).seq∧(n8 s).seq≤1099511627776:=by
 obtain⟨h1,h2⟩:=zQ2.1 h;have r:=(yW5.1 h1).2.1;refine⟨?_,?_,r.1,r.2⟩
 ·conv=>lhs;rw[h2]
  exact zZ4 _
 ·conv=>lhs;rw[h2]
  exact zZ6 _
theorem yN3{q:Int}{s:List UInt8}(h:pgA q s)(hq:0≤q∧q<281474976710656)(d:zQ0 s=true):(n8 s).seq=q:=by
 obtain⟨_,h2,h3,h4⟩:=zQ9 d;exact zw4 (by omega) hq (h2.symm.trans h.2)
theorem zw6{a b:Int}(h:beN a 1=beN b 1):a % 256=b % 256:=by
 have h1:=zw3 a 1 0 (by omega);have h2:=zw3 b 1 0 (by omega);rw[h]at h1;rw[h1]at h2;simp only[Nat.reduceSub,Int.pow_zero,Int.ediv_one]at h2;omega
theorem yN7{S q:Int}{s:List UInt8}(h:pgB S q s)(hS:0≤S∧S<281474976710656)(hne:¬S % 256=q % 256):zQ0 s=false:=by
 rw[Bool.eq_false_iff];intro d;obtain⟨h1,h2,h3,h4⟩:=zQ9 d;have e:(n8 s).seq=S:=zw4 (by omega) hS (h1.symm.trans h.2.1)
 have:s.drop 63=beN S 1:=by
  have:s.drop 63=(s.drop 58).drop 5:=by rw[List.drop_drop]
  rw[this,h2,e];rfl
 exact hne (zw6 (this.symm.trans h.2.2))
theorem xT8{r:Rc}{s:List UInt8}{k:Nat}(hs:s.length=64)(hk:k≤64):((enc r).take k++s.drop k).length=64:=by
 rw[List.length_append,List.length_take,List.length_drop,zZ5];omega
theorem xT6{r:Rc}{s:List UInt8}{k j:Nat}(hk:k≤j)(hk':k≤64):((enc r).take k++s.drop k).drop j=s.drop j:=by
 have:((enc r).take k).length=k:=by rw[List.length_take,zZ5];omega
 rw[List.drop_append,this,List.drop_eq_nil_of_le (by omega),List.nil_append,List.drop_drop,show k+(j-k)=j by omega]
theorem xT7{r:Rc}{s:List UInt8}{k:Nat}(hk:6≤k)(hk':k≤64):((enc r).take k++s.drop k).take 6=beN r.seq 6:=by
 have:((enc r).take k).length=k:=by rw[List.length_take,zZ5];omega
 rw[List.take_append_of_le_length (by omega),List.take_take,show min 6 k=6 by omega,zZ4]
theorem xT4{q:Int}{r:Rc}{s:List UInt8}{k:Nat}(h:pgA q s)(hk:k≤64):pgA q ((enc r).take k++s.drop k)∨pgB r.seq q ((enc r).take k++s.drop k)∨(enc r).take k++s.drop k=enc r:=by
 by_cases h1:k≤58
 ·exact .inl ⟨xT8 h.1 hk,by rw[xT6 h1 hk];exact h.2⟩
 ·by_cases h2:k≤63
  ·exact .inr (.inl ⟨xT8 h.1 hk,xT7 (by omega) hk,by rw[xT6 h2 hk];exact yN5 h⟩)
  ·obtain rfl:k=64:=by omega
   refine .inr (.inr ?_);rw[List.take_of_length_le (by rw[zZ5];omega),List.drop_eq_nil_of_le (by have:=h.1;omega),List.append_nil]
theorem xT5{q:Int}{r:Rc}{s:List UInt8}{k:Nat}(h:pgB r.seq q s)(hk:k≤64):pgB r.seq q ((enc r).take k++s.drop k)∨(enc r).take k++s.drop k=enc r:=by
 by_cases h2:k≤63
 ·refine .inl ⟨xT8 h.1 hk,?_,by rw[xT6 h2 hk];exact h.2.2⟩
  by_cases h1:6≤k
  ·exact xT7 h1 hk
  ·have l:((enc r).take k).length=k:=by rw[List.length_take,zZ5];omega
   rw[List.take_append,l,List.take_take,show min 6 k=k by omega]
   have e1:(enc r).take k=(beN r.seq 6).take k:=by rw[←zZ4,List.take_take,show min k 6=k by omega]
   have e2:(s.drop k).take (6-k)=(beN r.seq 6).drop k:=by rw[←h.2.1,List.drop_take]
   rw[e1,e2,List.take_append_drop]
 ·obtain rfl:k=64:=by omega
  refine .inr ?_;rw[List.take_of_length_le (by rw[zZ5];omega),List.drop_eq_nil_of_le (by have:=h.1;omega),List.append_nil]
theorem yN4(r:Rc):pgA r.seq (enc r):=⟨zZ5 r,zZ6 r⟩
theorem yN6:pgA 0 (List.replicate 64 0):=⟨rfl,rfl⟩
def yY3(n:Int)(i:Nat)(s:List UInt8):Option Rc:=match zQ0 s&& (n8 s).seq.tmod n==(i:Int)with
 |true=>some (n8 s)
 |false=>none
theorem yY4{n:Int}{i:Nat}{s:List UInt8}{r:Rc}:yY3 n i s=some r↔zQ0 s=true∧(n8 s).seq.tmod n=(i:Int)∧n8 s=r:=by
 unfold yY3
 split
 ·rename_i h;rw[Bool.and_eq_true,beq_iff_eq]at h;simp[h]
 ·rename_i h
  rw[Bool.and_eq_false_iff]at h;simp only[reduceCtorEq,false_iff,not_and];intro h1 h2;rcases h with h|h
  ·rw[h1]at h;cases h
  ·rw[h2]at h;simp at h
def yZ3(n:Int):Nat→List (List UInt8)→List Rc
 |_,[] =>[]
 |i,s::l=>match yY3 n i s with
  |some r=>r::yZ3 n (i+1) l
  |none=>yZ3 n (i+1) l
theorem yZ4{n:Int}{i:Nat}{s:List UInt8}{l:List (List UInt8)}:yZ3 n i (s::l)=match yY3 n i s with
  |some r=>r::yZ3 n (i+1) l
  |none=>yZ3 n (i+1) l:=rfl
theorem q45{n:Int}{r:Rc}:∀{l:List (List UInt8)} {i:Nat},r∈yZ3 n i l↔∃j,j<l.length∧yY3 n (i+j) (l.getD j [])=some r
 |[],i=>by simp[yZ3]
 |s::l,i=>by
  have ih:=@q45 n r l (i+1)
  have key:(∃j,j< (s::l).length∧yY3 n (i+j) ((s::l).getD j [])=some r)↔yY3 n i s=some r∨∃j,j<l.length∧yY3 n (i+1+j) (l.getD j [])=some r:=by
   constructor
   ·rintro ⟨j,hj,h⟩
    cases j with
    |zero=>exact .inl h
    |succ j=>exact .inr ⟨j,by simpa using hj,by rw[show i+1+j=i+(j+1) by omega];simpa using h⟩
   ·rintro (h|⟨j,hj,h⟩)
    ·exact⟨0,by simp,h⟩
    ·exact⟨j+1,by simpa using hj,by rw[show i+(j+1)=i+1+j by omega];simpa using h⟩
  rw[key,←ih,yZ4]
  split
  ·rename_i r' h;rw[h,List.mem_cons];simp[eq_comm]
  ·rename_i h;rw[h];simp
def zS5:List Rc→Prop
 |[] =>True
 |r::l=>(∀x∈l,x.seq≠r.seq)∧zS5 l
theorem yZ5{n:Int}:∀{l:List (List UInt8)} {i:Nat},zS5 (yZ3 n i l)
 |[],i=>trivial
 |s::l,i=>by
  unfold yZ3
  split
  ·rename_i r h
   refine⟨fun x hx e=>?_,yZ5⟩;obtain⟨j,_,hj⟩:=q45.1 hx;obtain⟨_,h1,rfl⟩:=yY4.1 hj;obtain⟨_,h2,rfl⟩:=yY4.1 h;rw[e]at h1;omega
  ·exact yZ5
def qM6(r:Rc):List Rc→List Rc
 |[] =>[r]
 |x::l=>match decide (r.seq<x.seq)with
  |true=>r::x::l
  |false=>x::qM6 r l
def xA2(l:List Rc):List Rc:=l.foldl (fun acc r=>qM6 r acc) []
def zr0:List Rc→Prop
 |[] =>True
 |r::l=>(∀x∈l,r.seq≤x.seq)∧zr0 l
theorem qM9(r:Rc):∀l:List Rc,(qM6 r l).Perm (r::l)
 |[] =>.refl _
 |x::l=>by
  unfold qM6
  split
  ·exact .refl _
  ·exact((qM9 r l).cons x).trans (List.Perm.swap r x l)
theorem qM7(r:Rc):∀l:List Rc,zr0 l→zr0 (qM6 r l)
 |[],_=>⟨fun x hx=>(by cases hx),trivial⟩
 |x::l,h=>by
  unfold qM6
  split
  ·rename_i hd
   have hd:=of_decide_eq_true hd;refine⟨fun y hy=>?_,h⟩;rcases List.mem_cons.1 hy with rfl|hy
   ·omega
   ·have:=h.1 y hy;omega
  ·rename_i hd
   have hd:=of_decide_eq_false hd;refine⟨fun y hy=>?_,qM7 r l h.2⟩;rcases List.mem_cons.1 ((qM9 r l).mem_iff.1 hy)with rfl|hy
   ·omega
   ·exact h.1 y hy
theorem xA5(l:List Rc):(xA2 l).Perm l:=by
 have:∀ (l acc:List Rc),(l.foldl (fun acc r=>qM6 r acc) acc).Perm (l.reverse++acc):=by
  intro l
  induction l with
  |nil=>intro acc;exact .refl _
  |cons x l ih=>
   intro acc;rw[List.foldl_cons,List.reverse_cons,List.append_assoc];exact(ih (qM6 x acc)).trans ((qM9 x acc).append_left l.reverse)
 have h:=this l [];rw[List.append_nil]at h;exact h.trans (List.reverse_perm l)
theorem xA3(l:List Rc):zr0 (xA2 l):=by
 have:∀ (l acc:List Rc),zr0 acc→zr0 (l.foldl (fun acc r=>qM6 r acc) acc):=by
  intro l
  induction l with
  |nil=>intro acc h;exact h
  |cons x l ih=>intro acc h;exact ih _ (qM7 x acc h)
 exact this l [] trivial
theorem zS6:∀{l:List Rc},zS5 l↔(l.map (·.seq)).Nodup
 |[] =>by simp[zS5]
 |r::l=>by
  simp only[zS5,List.map_cons,List.nodup_cons,zS6 (l:=l),List.mem_map,not_exists,not_and]
theorem zS7{a b:List Rc}(h:a.Perm b)(d:zS5 a):zS5 b:=zS6.2 ((h.map _).nodup_iff.1 (zS6.1 d))
theorem xA9:∀{a b:List Rc},a.Perm b→zr0 a→zr0 b→zS5 a→a=b
 |[],b,h,_,_,_=>(List.Perm.nil_eq h)
 |x::a,[],h,_,_,_=>absurd h.symm (by simp)
 |x::a,y::b,h,ha,hb,d=>by
  have hx:x∈y::b:=h.mem_iff.1 List.mem_cons_self;have hy:y∈x::a:=h.mem_iff.2 List.mem_cons_self
  have e:x=y:=by
   rcases List.mem_cons.1 hx with e|hx
   ·exact e
   ·rcases List.mem_cons.1 hy with e|hy
    ·exact e.symm
    ·have h1:=ha.1 y hy
     have h2:=hb.1 x hx;exact absurd (by omega) (d.1 y hy)
  subst e;rw[xA9 h.cons_inv ha.2 hb.2 d.2]
theorem zr1:∀{l:List Rc} {r:Rc},zr0 l→l.getLast? =some r→∀x∈l,x.seq≤r.seq
 |[],_,_,h=>by cases h
 |[y],r,_,h=>by
  simp at h;subst h;intro x hx;rcases List.mem_cons.1 hx with rfl|hx
  ·exact Int.le_refl _
  ·cases hx
 |y::z::l,r,ha,h=>by
  rw[List.getLast?_cons_cons]at h;intro x hx;rcases List.mem_cons.1 hx with rfl|hx
  ·exact ha.1 r (List.mem_of_getLast? h)
  ·exact zr1 ha.2 h x hx
theorem qV3{l:List Rc}{r:Rc}(d:zS5 l)(hm:r∈l)(h:∀x∈l,x.seq≤r.seq):(xA2 l).getLast? =some r:=by
 have p:=xA5 l;have hm':r∈xA2 l:=p.mem_iff.2 hm
 cases hl:(xA2 l).getLast? with
 |none=>rw[List.getLast?_eq_none_iff]at hl;rw[hl]at hm';cases hm'
 |some z=>
  have h1:=zr1 (xA3 l) hl r hm';have hz:z∈l:=p.mem_iff.1 (List.mem_of_getLast? hl);have h2:=h z hz
  have key:∀{l:List Rc},zS5 l→r∈l→z∈l→z.seq=r.seq→z=r:=by
   intro l
   induction l with
   |nil=>intro _ h;cases h
   |cons x l ih=>
    intro d h1 h2 e;rcases List.mem_cons.1 h1 with e1|h3
    ·rcases List.mem_cons.1 h2 with e2|h4
     ·rw[e1,e2]
     ·exact absurd (by rw[e,e1]) (d.1 z h4)
    ·rcases List.mem_cons.1 h2 with e2|h4
     ·exact absurd (by rw[←e,e2]) (d.1 r h3)
     ·exact ih d.2 h3 h4 e
  rw[key d hm hz (by omega)]
theorem qV4{l:List Rc}(h:l=[]):(xA2 l).getLast? =none:=by subst h;rfl
theorem xA4{l l':List Rc}(d:zS5 l)(p:l'.Perm l)(h:zr0 l'):l'=xA2 l:=
 xA9 (p.trans (xA5 l).symm) h (xA3 l) (zS7 p.symm d)
theorem qM8{r:Rc}:∀{a b:List Rc},zr0 (a++b)→(∀x∈a,x.seq≤r.seq)→(∀x∈b,r.seq<x.seq)→qM6 r (a++b)=a++r::b
 |[],[],_,_,_=>rfl
 |[],y::b,_,_,h=>by
  show qM6 r (y::b)=_;unfold qM6;rw[decide_eq_true (h y List.mem_cons_self)];rfl
 |x::a,b,h,h1,h2=>by
  show qM6 r (x::(a++b))=_;unfold qM6;have:=h1 x List.mem_cons_self;rw[decide_eq_false (by omega)];show x::qM6 r (a++b)=_;rw[qM8 h.2 (fun y hy=>h1 y (List.mem_cons_of_mem _ hy)) h2];rfl
def wrE(f:Fl)(i:Int)(data:List UInt8):Int:=match qC7 f i&&data.length=64 with
 |false=>1
 |true=>match f.dead||f.fuse==1 with
  |true=>17
  |false=>0
def wrF(f:Fl)(i:Int)(data:List UInt8):Fl:=match qC7 f i&&data.length=64&&!f.dead with
 |false=>f
 |true=>match f.fuse==1 with
  |true=>⟨f.pages.set i.toNat (data.take f.keep.toNat++(f.pages.getD i.toNat []).drop f.keep.toNat),0,true,0⟩
  |false=>⟨f.pages.set i.toNat data,if f.fuse-1>0 then f.fuse-1 else 0,f.dead,f.keep⟩
def zo3(f:Fl):List Rc:=match flB f&&!f.dead with
 |true=>xA2 (yZ3 f.pages.length 0 f.pages)
 |false=>[]
def lastO(f:Fl):Option Rc:=(zo3 f).getLast?
def qU5(f:Fl):Int:=match lastO f with
 |some r=>r.seq
 |none=>0
def apE(f:Fl)(r:Rc):Int:=match rcB r&&flB f with
 |false=>1
 |true=>match f.dead with
  |true=>17
  |false=>match r.seq==qU5 f+1 with
   |false=>11
   |true=>wrE f (r.seq.tmod f.pages.length) (enc r)
def apF(f:Fl)(r:Rc):Fl:=match rcB r&&flB f&&!f.dead&&r.seq==qU5 f+1 with
 |true=>wrF f (r.seq.tmod f.pages.length) (enc r)
 |false=>f
def yb5(f:Fl)(r:Rc):Rc:={r with seq:=qU5 f+1}
def yY5(f:Fl)(r:Rc):Int:=apE f (yb5 f r)
def t8(f:Fl)(r:Rc):Fl:=apF f (yb5 f r)
def qOf(L:Int)(i:Int):Int:=if L<i then 0 else L-(L-i) % 6
structure Jn (f:Fl) (L:Int) (last:Option Rc):Prop where
 len:f.pages.length=6
 fl:flB f=true
 live:f.dead=false
 L0:0≤L
 L1:L≤1000000
 pg:∀i:Nat,i<6→pgA (qOf L i) (f.pages.getD i [])∨((i:Int)=(L+1) % 6∧pgB (L+1) (qOf L i) (f.pages.getD i []))
 none:last=none↔L=0
 some:∀r,last=some r→r.seq=L∧rcB r=true∧f.pages.getD (L % 6).toNat [] =enc r
theorem yT9{L i:Int}(h:0≤L)(hL:L≤1000000)(hi:0≤i∧i<6):0≤qOf L i∧qOf L i≤L:=by
 unfold qOf;split<;>omega
theorem yT7{L i:Int}(h:0≤L)(hi:0≤i∧i<6)(e:¬i=(L+1) % 6):qOf (L+1) i=qOf L i:=by
 unfold qOf;split<;>split<;>omega
theorem yT8{L:Int}(h:0≤L):qOf (L+1) ((L+1) % 6)=L+1:=by
 unfold qOf;split<;>omega
theorem yT6{L:Int}(h:0≤L):¬(L+1) % 256=qOf L ((L+1) % 6) % 256:=by
 unfold qOf;split<;>omega
theorem yL2{f:Fl}{L:Int}{last:Option Rc}(j:Jn f L last){i:Nat}(hi:i<6)(d:zQ0 (f.pages.getD i [])=true):(n8 (f.pages.getD i [])).seq=qOf L i:=by
 have r:=yT9 (i:=(i:Int)) j.L0 j.L1 (by omega);have l1:=j.L1;have l0:=j.L0;rcases j.pg i hi with h|⟨e,h⟩
 ·exact yN3 h (by omega) d
 ·have:=yN7 h (by omega) (by rw[e];exact yT6 j.L0)
  rw[this]at d;cases d
theorem qU2{f:Fl}{L:Int}{last:Option Rc}(j:Jn f L last):lastO f=last:=by
 have l0:=j.L0;have l1:=j.L1;unfold lastO zo3;rw[j.fl,j.live];show(xA2 (yZ3 (f.pages.length:Int) 0 f.pages)).getLast? =last;rw[j.len]
 have le:∀x∈yZ3 (6:Nat) 0 f.pages,x.seq≤L:=fun x hx=>by
  obtain⟨i,hi,h⟩:=q45.1 hx;obtain⟨h1,h2,rfl⟩:=yY4.1 h;rw[yL2 j (by have:=j.len;omega) h1];exact(yT9 (i:=(i:Int)) l0 l1 (by have:=j.len;omega)).2
 cases last with
 |none=>
  have e0:=j.none.1 rfl;refine qV4 ?_
  cases hr:yZ3 (6:Nat) 0 f.pages with
  |nil=>rfl
  |cons x l=>
   have hx:x∈yZ3 (6:Nat) 0 f.pages:=by rw[hr];exact List.mem_cons_self
   have h1:=le x hx;obtain⟨i,hi,h⟩:=q45.1 hx;obtain⟨h2,_,rfl⟩:=yY4.1 h;have:=(zQ9 h2).2.2;omega
 |some r=>
  obtain⟨h1,h2,h3⟩:=j.some r rfl;refine qV3 yZ5 (q45.2 ⟨(L % 6).toNat,by have:=j.len;omega,yY4.2 ⟨by rw[h3];exact zQ1 h2,?_,by rw[h3];exact zQ7 h2⟩⟩) (fun x hx=>by rw[h1];exact le x hx);rw[h3,zQ7 h2,h1,Int.tmod_eq_emod_of_nonneg l0];show L % 6=_;omega
theorem qU7{f:Fl}{L:Int}{last:Option Rc}(j:Jn f L last):qU5 f=L:=by
 unfold qU5;rw[qU2 j]
 cases last with
 |none=>exact(j.none.1 rfl).symm
 |some r=>exact(j.some r rfl).1
theorem qx5{α:Type}{l:List α}{i j:Nat}{x d:α}(h:i<l.length):(l.set i x).getD j d=if i=j then x else l.getD j d:=by
 simp only[List.getD_eq_getElem?_getD,List.getElem?_set]
 split
 ·rename_i e;subst e;simp[h]
 ·rfl
theorem xy4{l:List (List UInt8)}{i:Nat}{x:List UInt8}(h:∀p∈l,p.length=64)(hx:x.length=64):∀p∈l.set i x,p.length=64:=fun p hp=>by
 rcases List.mem_or_eq_of_mem_set hp with h1|rfl
 ·exact h p h1
 ·exact hx
theorem yc1{L:Int}(h0:0≤L)(h1:L≤1000000):(L+1).tmod ((6:Nat):Int)=(L+1) % 6∧0≤(L+1) % 6∧(L+1) % 6<6:=by
 rw[Int.tmod_eq_emod_of_nonneg (by omega)]
 refine⟨rfl,?_,?_⟩<;>omega
theorem yW7{f:Fl}{L:Int}{last:Option Rc}(j:Jn f L last){r:Rc}(h:rcB {r with seq:=1}=true):rcB (yb5 f r)=true:=by
 have l0:=j.L0;have l1:=j.L1;have e:=qU7 j;have:=yW5.1 h;refine yW5.2 ?_;simp only[yb5,e];dsimp only at this;exact⟨this.1,⟨by omega,by omega⟩,this.2.2⟩
theorem qR7{f:Fl}{L:Int}{last:Option Rc}(j:Jn f L last)(hL:L+1≤1000000){r:Rc}(hr:rcB {r with seq:=1}=true)(hf:¬f.fuse=1):yY5 f r=0∧Jn (t8 f r) (L+1) (some (yb5 f r))∧(t8 f r).keep=f.keep∧(t8 f r).fuse=if f.fuse-1>0 then f.fuse-1 else 0:=by
 have l0:=j.L0;have e:=qU7 j;have hrc:=yW7 j hr
 have es:(yb5 f r).seq=L+1:=by simp only[yb5,e]
 obtain⟨p1,p2,p3⟩:=yc1 l0 j.L1;have fb:=qt3.1 j.fl
 have hb:qC7 f ((L+1) % 6)=true:=by
  unfold qC7;rw[j.fl,j.len];exact v8.2 ⟨by omega,by omega⟩
 have hw:(qC7 f ((L+1) % 6)&&(enc (yb5 f r)).length=64)=true:=by rw[hb,zZ5];rfl
 have hfu:(f.fuse==1)=false:=by simpa using hf
 have eE:yY5 f r=0:=by
  unfold yY5 apE;rw[hrc,j.fl,es,e,j.len,p1];simp only[Bool.and_self,j.live,beq_self_eq_true];unfold wrE;rw[hw,j.live,hfu];rfl
 have eF:t8 f r=⟨f.pages.set ((L+1) % 6).toNat (enc (yb5 f r)),if f.fuse-1>0 then f.fuse-1 else 0,false,f.keep⟩:=by
  unfold t8 apF;rw[hrc,j.fl,es,e,j.len,p1,j.live];simp only[Bool.and_self,Bool.not_false,beq_self_eq_true];unfold wrF;rw[hw,j.live,hfu];rfl
 have hi:((L+1) % 6).toNat<f.pages.length:=by have:=j.len;omega
 refine⟨eE,?_,by rw[eF],by rw[eF]⟩;rw[eF];refine⟨by simp[j.len],qt3.2 ⟨xy4 fb.1 (zZ5 _),by simp[j.len],by simp[j.len],?_,fb.2.2.2.2⟩,rfl,by omega,hL,fun i hi6=>?_,⟨fun h=>(by cases h),fun h=>(by omega)⟩,fun r' h'=>?_⟩
 ·dsimp only;split<;>omega
 ·dsimp only
  rw[qx5 hi]
  split
  ·rename_i ei
   have ei:(i:Int)=(L+1) % 6:=by omega
   refine .inl ?_;rw[ei,yT8 l0,←es];exact yN4 _
  ·rename_i ei
   have ei:¬(i:Int)=(L+1) % 6:=by omega
   refine .inl ?_;rw[yT7 l0 (by omega) ei];rcases j.pg i hi6 with h|⟨h,_⟩
   ·exact h
   ·exact absurd h ei
 ·injection h' with h'
  subst h';refine⟨es,hrc,?_⟩;dsimp only;rw[qx5 hi,if_pos rfl]
theorem qR6{f:Fl}{L:Int}{last:Option Rc}(j:Jn f L last)(hL:L+1≤1000000){r:Rc}(hr:rcB {r with seq:=1}=true)(hf:f.fuse=1):yY5 f r=17∧∀k,0≤k→k≤64→(Jn {t8 f r with dead:=false,keep:=k} L last∨Jn {t8 f r with dead:=false,keep:=k} (L+1) (some (yb5 f r)))∧(t8 f r).fuse=0:=by
 have l0:=j.L0;have e:=qU7 j;have hrc:=yW7 j hr
 have es:(yb5 f r).seq=L+1:=by simp only[yb5,e]
 obtain⟨p1,p2,p3⟩:=yc1 l0 j.L1;have fb:=qt3.1 j.fl
 have hb:qC7 f ((L+1) % 6)=true:=by
  unfold qC7;rw[j.fl,j.len];exact v8.2 ⟨by omega,by omega⟩
 have hw:(qC7 f ((L+1) % 6)&&(enc (yb5 f r)).length=64)=true:=by rw[hb,zZ5];rfl
 have hfu:(f.fuse==1)=true:=by simpa using hf
 have eE:yY5 f r=17:=by
  unfold yY5 apE;rw[hrc,j.fl,es,e,j.len,p1];simp only[Bool.and_self,j.live,beq_self_eq_true];unfold wrE;rw[hw,j.live,hfu];rfl
 have eF:t8 f r=⟨f.pages.set ((L+1) % 6).toNat ((enc (yb5 f r)).take f.keep.toNat++(f.pages.getD ((L+1) % 6).toNat []).drop f.keep.toNat),0,true,0⟩:=by
  unfold t8 apF;rw[hrc,j.fl,es,e,j.len,p1,j.live];simp only[Bool.and_self,Bool.not_false,beq_self_eq_true];unfold wrF;rw[hw,j.live,hfu];rfl
 have hi:((L+1) % 6).toNat<f.pages.length:=by have:=j.len;omega
 refine⟨eE,fun k hk0 hk1=>⟨?_,by rw[eF]⟩⟩;rw[eF];have hpg:=j.pg ((L+1) % 6).toNat (by omega)
 have hki:f.keep.toNat≤64:=by omega
 have ei:((((L+1) % 6).toNat:Nat):Int)=(L+1) % 6:=by omega
 rw[ei]at hpg
 have hl64:(f.pages.getD ((L+1) % 6).toNat []).length=64:=by rcases hpg with h|⟨_,h⟩<;>exact h.1
 have len64:=xT8 (r:=yb5 f r) hl64 hki
 have other:∀t:List UInt8,∀i:Nat,i<6→¬(i:Int)=(L+1) % 6→(f.pages.set ((L+1) % 6).toNat t).getD i [] =f.pages.getD i [] :=fun t i _ hn=>by
  rw[qx5 hi,if_neg (by omega)]
 have own:∀t:List UInt8,(f.pages.set ((L+1) % 6).toNat t).getD ((L+1) % 6).toNat [] =t:=fun t=>by rw[qx5 hi,if_pos rfl]
 have tri:pgA (qOf L ((L+1) % 6)) ((enc (yb5 f r)).take f.keep.toNat++(f.pages.getD ((L+1) % 6).toNat []).drop f.keep.toNat)∨pgB (L+1) (qOf L ((L+1) % 6)) ((enc (yb5 f r)).take f.keep.toNat++(f.pages.getD ((L+1) % 6).toNat []).drop f.keep.toNat)∨(enc (yb5 f r)).take f.keep.toNat++(f.pages.getD ((L+1) % 6).toNat []).drop f.keep.toNat=enc (yb5 f r):=by
  rcases hpg with h|⟨_,h⟩
  ·have:=xT4 (r:=yb5 f r) h hki
   rw[es]at this;exact this
  ·have h':pgB (yb5 f r).seq (qOf L ((L+1) % 6)) (f.pages.getD ((L+1) % 6).toNat []):=by rw[es];exact h
   have:=xT5 h' hki;rw[es]at this;exact .inr this
 have flb:∀t:List UInt8,t.length=64→flB {pages:=f.pages.set ((L+1) % 6).toNat t,fuse:=0,dead:=false,keep:=k}=true:=fun t ht=>qt3.2 ⟨xy4 fb.1 ht,by simp[j.len],by simp[j.len],⟨Int.le_refl _,Int.zero_le_ofNat 1048576⟩,hk0,hk1⟩
 generalize (enc (yb5 f r)).take f.keep.toNat++(f.pages.getD ((L+1) % 6).toNat []).drop f.keep.toNat=t at len64 tri ⊢;rcases tri with h|h|h
 ·refine .inl ⟨by simp[j.len],flb t len64,rfl,l0,j.L1,fun i hi6=>?_,j.none,fun r' h'=>?_⟩
  ·dsimp only
   by_cases hn:(i:Int)=(L+1) % 6
   ·obtain rfl:i=((L+1) % 6).toNat:=by omega
    rw[own,ei];exact .inl h
   ·rw[other t i hi6 hn];exact j.pg i hi6
  ·obtain⟨q1,q2,q3⟩:=j.some r' h'
   exact⟨q1,q2,by dsimp only;rw[other t _ (by omega) (by omega)];exact q3⟩
 ·refine .inl ⟨by simp[j.len],flb t len64,rfl,l0,j.L1,fun i hi6=>?_,j.none,fun r' h'=>?_⟩
  ·dsimp only
   by_cases hn:(i:Int)=(L+1) % 6
   ·obtain rfl:i=((L+1) % 6).toNat:=by omega
    rw[own,ei];exact .inr ⟨rfl,h⟩
   ·rw[other t i hi6 hn];exact j.pg i hi6
  ·obtain⟨q1,q2,q3⟩:=j.some r' h'
   exact⟨q1,q2,by dsimp only;rw[other t _ (by omega) (by omega)];exact q3⟩
 ·refine .inr ⟨by simp[j.len],flb t len64,rfl,by omega,hL,fun i hi6=>?_,⟨fun h=>(by cases h),fun h=>(by omega)⟩,fun r' h'=>?_⟩
  ·dsimp only
   by_cases hn:(i:Int)=(L+1) % 6
   ·obtain rfl:i=((L+1) % 6).toNat:=by omega
    rw[own,ei,yT8 l0,h,←es];exact .inl (yN4 _)
   ·rw[other t i hi6 hn,yT7 l0 (by omega) hn]
    rcases j.pg i hi6 with h|⟨h,_⟩
    ·exact .inl h
    ·exact absurd h hn
  ·injection h' with h'
   subst h';exact⟨es,hrc,by dsimp only;rw[own,h]⟩
theorem qR4:Jn ⟨List.replicate 6 (List.replicate 64 0),0,false,0⟩ 0 none:=by
 refine⟨rfl,rfl,rfl,by decide,by decide,fun i hi=>.inl ?_,⟨fun _=>rfl,fun _=>rfl⟩,fun r h=>(by cases h)⟩
 have:(List.replicate 6 (List.replicate 64 (0:UInt8))).getD i [] =List.replicate 64 0:=by
  rw[List.getD_eq_getElem?_getD,List.getElem?_replicate,if_pos hi];rfl
 rw[this]
 have:qOf 0 (i:Int)=0:=by unfold qOf;split<;>omega
 rw[this];exact yN6
end Go.Proofs.YtnkaepnblikcdaaGreat
namespace Go.Sx
open Go.RowKit
theorem xw5 {P : Program} {f : FuncId} {fn : Func} {args : List SV} {v : SV} (hd : f5 args = true) (hv : v.data = true) (hf : P.funcs[f]? = some fn) (hb : fn.body.isSome = true) (hn : (fn.name == "runtime.NumGoroutine") = false)
  (h:∀ (R:Nat→Prop) (w:World) (vs:List Value),(∀b,R b→b<w.heap.size)→Gnd w→j7 R (fun _=>(0,0,0)) 0 w args vs→
    Calls P f vs.toArray w fun e w'=>∃u,e=.returned u∧Below w.heap.size w w'∧Rep (fun b=>R b∨(w.heap.size≤b∧b<w'.heap.size)) (fun _=>(0,0,0)) 0 w' v u):SCall P f args v:=by
 intro m w0 R0 ρ w vs hm hvs;obtain⟨body,hb⟩:=Option.isSome_iff_exists.1 hb;rw[zD6 hf hb hn];obtain⟨o1,o2⟩:=yI5 hm ρ;have hvs':=j7.data (R':=RO w0 R0 ρ w m) (ρ':=fun _=>(0,0,0)) (n':=0) (fun b hb=>hb) args vs hd hvs
 refine Calls.mono (h (RO w0 R0 ρ w m) w vs (fun b hb=>hm.ro_lt hb) hm.gnd hvs') fun e w' ⟨u,he,g1,g3⟩=>⟨u,he,?_⟩
 have g:MRel w (RS w0 R0 ρ w m) ρ w' ⟨0,.e⟩:=⟨⟨g1,hm.gnd⟩,fun id B h=>(by cases h),fun id B h=>(by cases h),fun id B h=>(by cases h),fun id id' B B' h=>(by cases h),fun id B h=>(by cases h),fun b hb=>⟨Nat.lt_of_lt_of_le (hm.ro_lt hb) g1.size,g1.block b (hm.ro_lt hb)⟩,fun id B h=>(by cases h)⟩;have hst:=Hand.start hm g;obtain⟨k1,k2⟩:=hst.finish hm g;refine⟨ρ,k1,k2,Rep.data (fun b hb=>?_) v u hv g3⟩;rcases hb with hb|hb
 ·exact hst.ro b (.inr (.inl ⟨hb,hm.ro_lt hb⟩))
 ·exact hst.ro b (.inr (.inr ⟨hb.1,hb.2,(fun id B h=>by cases h),fun hr=>by have:=hm.ro_lt hr;omega⟩))
end Go.Sx
namespace Go.Proofs.YtnkaepnblikcdaaGreat
open Go.Sx Go.RowKit Go.Lib
theorem xJ9:Tryz.t5.bytes=1:=by kernel_rfl
def yJ9(w:World)(s:List UInt8)(k:Nat):Array Value:=
 ⟨s.map fun b=>Value.int .u8 b.toNat⟩++(Builtin.zeroCells #[Value.int .u8 0] k++Builtin.zeroCells #[Value.int .u8 0] (grownCap (bytesWorld w 5 ⟨⟨s⟩⟩) (s.length+k) s.length 5-(s.length+k)))
def yK4(w:World)(s:List UInt8)(k:Nat):World:=((bytesWorld w 5 ⟨⟨s⟩⟩).alloc (.cells (yJ9 w s k) 5)).drew
theorem jc7(k:Nat):Builtin.zeroCells #[Value.int .u8 0] k=⟨List.replicate k (.int .u8 0)⟩:=by
 unfold Builtin.zeroCells;apply Array.ext
 ·simp
 ·intro i h1 h2
  simp[Nat.mod_one]
theorem yK8(w:World)(s:List UInt8):(loadCellsFrom ⟨w.heap.size,0,none⟩ 0 s.length #[]).run pP (bytesWorld w 5 ⟨⟨s⟩⟩).drew=.ok ⟨s.map fun b=>Value.int .u8 b.toNat⟩ (bytesWorld w 5 ⟨⟨s⟩⟩).drew:=by
 have h:=run_loadCells_list (P:=pP) (bytesWorld w 5 ⟨⟨s⟩⟩).drew ⟨w.heap.size,0,none⟩ (s.map fun b=>Value.int .u8 b.toNat) (fun j v hj=>by
  have hj':j<s.length:=by
   have:=(List.getElem?_eq_some_iff.1 hj).1
   simpa using this
  have h1:(bytesWorld w 5 ⟨⟨s⟩⟩).drew.cell? ((⟨w.heap.size,0,none⟩:Addr).add j)=(bytesWorld w 5 ⟨⟨s⟩⟩).cell? ⟨w.heap.size,j,none⟩:=by rw[Addr.add_lit,Nat.zero_add];rfl
  rw[h1,bytesWorld_cell w 5 ⟨⟨s⟩⟩ j hj'];rw[List.getElem?_map,List.getElem?_eq_getElem hj']at hj;simp only[Option.map_some,Option.some.injEq]at hj;rw[←hj]
  simp[List.getD_eq_getElem?_getD,List.getElem?_eq_getElem hj'])
 rw[List.length_map]at h;exact h
theorem yK6(w:World)(s:List UInt8)(k:Nat)(cap:Nat):(convert 154 9 (.slice (some ⟨(bytesWorld w 5 ⟨⟨s⟩⟩).heap.size,0,none⟩) (s.length+k) cap)).run pP (yK4 w s k)=.ok (.string ⟨⟨s++List.replicate k 0⟩⟩) (yK4 w s k):=by
 have h:=run_convert_bytes_back (P:=pP) (yK4 w s k) 154 9 5 ⟨(bytesWorld w 5 ⟨⟨s⟩⟩).heap.size,0,none⟩ cap (s++List.replicate k 0) Tryz.underlying154 Tryz.underlying5 Tryz.underlying9 (fun j hj=>by
  rw[Addr.add_lit,Nat.zero_add];show((bytesWorld w 5 ⟨⟨s⟩⟩).alloc (.cells (yJ9 w s k) 5)).cell? _=_;rw[World.cell?_alloc_mark];unfold yJ9;rw[jc7,jc7]
  by_cases h:j<s.length
  ·rw[Array.getElem?_append_left (by simpa using h),List.getElem_append_left h,←Array.getElem?_toList]
   simp[List.getElem?_eq_getElem h]
  ·rw[List.length_append,List.length_replicate]at hj
   rw[Array.getElem?_append_right (by simpa using h),Array.getElem?_append_left (by simp;omega),List.getElem_append_right (by omega),←Array.getElem?_toList]
   simp[List.getElem?_replicate];omega)
 rw[List.length_append,List.length_replicate]at h;exact h
theorem yK5(w:World)(s:List UInt8)(k:Nat):Below w.heap.size w (yK4 w s k):=by
 refine⟨rfl,rfl,rfl,?_,fun j hj=>?_⟩
 ·show w.heap.size≤((bytesWorld w 5 ⟨⟨s⟩⟩).heap.push _).size
  rw[Array.size_push,bytesWorld_size];omega
 ·show((bytesWorld w 5 ⟨⟨s⟩⟩).heap.push _)[j]? =_
  rw[Array.getElem?_push,if_neg (by rw[bytesWorld_size];omega)];exact bytesWorld_at_old w 5 _ j hj
set_option maxHeartbeats 4000000 in
theorem yK9(s:List UInt8)(k:Nat)(w:World)(h0:0<s.length)(hk:0<k)(hn:s.length+k≤65536):
  Calls pP 301 #[.string ⟨⟨s⟩⟩,.int .i64 ((s.length+k:Nat):Int)] w fun e w'=>e=.returned (.tuple #[.string ⟨⟨s++List.replicate k 0⟩⟩,.int .i64 0])∧w'=yK4 w s k:=by
 obtain⟨n,hnn⟩:∃n,n=s.length+k:=⟨_,rfl⟩;rw[←hnn]
 have h1:s.length<n:=by omega
 have h2:n≤65536:=by omega
 have hsub:(n:Int)-(s.length:Int)=(k:Int):=by omega
 have hN:Hid (n=s.length+k):=hnn;have hk2:Hid (s.length+k≤65536):=hn;clear hnn hn;have hC2:Hid (s.length≤grownCap w s.length 0 5):=grownCap_ge _ _ _ _;have hL:=yK8 w s;have hV:=yK6 w s k
 have hq:Hid (¬(281474976710656<Builtin.nextslicecap (s.length+k) s.length)):=by
  have:Builtin.nextslicecap (s.length+k) s.length*1≤281474976710656:=growslice_fits (by omega) (by have:=hk2.out;omega);show ¬_;omega
 go_enter Tryz.func301,Tryz.ntmps301
 go_wp2
 rw[Lib.run_convert_string_bytes w 9 154 5 ⟨⟨s⟩⟩ Tryz.underlying9 Tryz.underlying154 Tryz.underlying5];simp only[Result.andThen];rw[Oper.upon_value]
 go_wp2
 ·rename_i h1 h2;exfalso;rw[xJ9]at h1;have:=hk2.out;omega
 ·rename_i h1 h2;exfalso;rw[xJ9]at h1;have:=hk2.out;omega
 ·rename_i h1 h2 h3 h4;exfalso;rw[xJ9]at h1;have:=hq.out;omega
 ·erw [hV]
  simp only[Result.andThen];rw[Oper.upon_value]
  go_wp2
  go_ret2
  exact⟨rfl,rfl⟩
theorem xm3(s:List UInt8)(n:Int)(h0:0<s.length)(h:(s.length:Int)<n)(hn:n≤65536):SCall pP 301 [.str s,J n] (.tuple [.str (yK3 s n),J 0]):=by
 refine xw5 (fn:=Tryz.f301) rfl rfl Tryz.func301 (by kernel_rfl) (by kernel_rfl) fun R w vs hR hg hvs=>?_
 obtain⟨u,us,rfl,h1,u2,us2,rfl,h2,h3⟩:=hvs;rw[show us2=[]from h3,show u=_ from h1,show u2=_ from h2];obtain⟨k,hk⟩:∃k:Nat,n=((s.length+k:Nat):Int):=⟨(n-s.length).toNat,by omega⟩;subst hk
 refine(yK9 s k w h0 (by omega) (by omega)).mono fun e w' ⟨he,hw⟩=>⟨_,he,by rw[hw];exact yK5 w s k,?_⟩
 refine⟨_,rfl,_,_,rfl,?_,_,_,rfl,rfl,rfl⟩;show Value.string _=Value.string _
 have:(((s.length+k:Nat):Int)-(s.length:Int)).toNat=k:=by omega
 simp only[yK3,this]
def qc0:Fact:=⟨301,fun args=>match args with
 |[.str s,.int .i64 n] =>some (.req (0<s.length&& ((s.length:Int)<n&&n≤65536)) (.leaf (.tuple [.str (yK3 s n),J 0])))
 |_=>none⟩
theorem yr6:qc0.ok pP:=fun args t ht=>by
 simp only[qc0]at ht
 split at ht
 ·cases ht
  intro h;simp only[Bool.and_eq_true,decide_eq_true_eq]at h;exact xm3 _ _ h.1 h.2.1 h.2.2
 ·cases ht
open Go.Sx
def x83:Plan:=let z0:Plan:=.fork (.ln 3 (.lit .all)) (.ln 3 (.fork .all (.fork .all (.fork .all .all))));.fork z0 z0
noncomputable def x84(f:Fl)(i:Int)(d:List UInt8):Tree Stop:= .node (f.pages.isEmpty) (.req (o6 f) (.node (!qC7 f i) (.leaf (.done (.tuple [.agg [.list Ty.str [],J f.fuse,.bool f.dead,J f.keep],J 1]))) (.node ((↑d.length:Int) != 64) (.leaf (.done (.tuple [.agg [.list Ty.str [],J f.fuse,.bool f.dead,J f.keep],J 1]))) (.node (f.dead) (.leaf (.done (.tuple [.agg [.list Ty.str [],J f.fuse,.bool f.dead,J f.keep],J 17]))) (.req (0≤i&&i< (↑f.pages.length:Int)) (.node (f.fuse==1) (.req (0≤f.keep&&f.keep≤(↑d.length:Int)) (.req ((List.map (fun b=>(↑b.toNat:Int)) (List.take f.keep.toNat d)).length≤(List.map (fun b=>(↑b.toNat:Int)) (f.pages.getD i.toNat ([] :List UInt8))).length&&!(List.map (fun b=>(↑b.toNat:Int)) (f.pages.getD i.toNat ([] :List UInt8))).isEmpty) (.req (0≤i&&i<0) (.fail 6)))) (.req ((List.map (fun b=>(↑b.toNat:Int)) d).length≤(List.map (fun b=>(↑b.toNat:Int)) (f.pages.getD i.toNat ([] :List UInt8))).length&&!(List.map (fun b=>(↑b.toNat:Int)) (f.pages.getD i.toNat ([] :List UInt8))).isEmpty) (.req (0≤i&&i<0) (.fail 6))))))))) (.req ((0+f.pages.length)*16≤140737488355328) (.req (o6 f) (.node (!qC7 f i) (.leaf (.done (.tuple [.agg [.list Ty.str f.pages,J f.fuse,.bool f.dead,J f.keep],J 1]))) (.node ((↑d.length:Int) != 64) (.leaf (.done (.tuple [.agg [.list Ty.str f.pages,J f.fuse,.bool f.dead,J f.keep],J 1]))) (.node (f.dead) (.leaf (.done (.tuple [.agg [.list Ty.str f.pages,J f.fuse,.bool f.dead,J f.keep],J 17]))) (.req (0≤i&&i< (↑f.pages.length:Int)) (.node (f.fuse==1) (.req (0≤f.keep&&f.keep≤(↑d.length:Int)) (.req ((List.map (fun b=>(↑b.toNat:Int)) (List.take f.keep.toNat d)).length≤(List.map (fun b=>(↑b.toNat:Int)) (f.pages.getD i.toNat ([] :List UInt8))).length&&!(List.map (fun b=>(↑b.toNat:Int)) (f.pages.getD i.toNat ([] :List UInt8))).isEmpty) (.req (0≤i&&i< (↑f.pages.length:Int)) (.req (i.toNat<f.pages.length) (.leaf (.done (.tuple [.agg [.list Ty.str (f.pages.set i.toNat (List.map (fun n=>UInt8.ofNat (Int.toNat n)) (List.map (fun b=>(↑b.toNat:Int)) (List.take f.keep.toNat d)++List.drop (List.map (fun b=>(↑b.toNat:Int)) (List.take f.keep.toNat d)).length (List.map (fun b=>(↑b.toNat:Int)) (f.pages.getD i.toNat ([] :List UInt8)))))),J 0,.bool true,J 0],J 17]))))))) (.req ((List.map (fun b=>(↑b.toNat:Int)) d).length≤(List.map (fun b=>(↑b.toNat:Int)) (f.pages.getD i.toNat ([] :List UInt8))).length&&!(List.map (fun b=>(↑b.toNat:Int)) (f.pages.getD i.toNat ([] :List UInt8))).isEmpty) (.req (0≤i&&i< (↑f.pages.length:Int)) (.req (i.toNat<f.pages.length) (.leaf (.done (.tuple [.agg [.list Ty.str (f.pages.set i.toNat (List.map (fun n=>UInt8.ofNat (Int.toNat n)) (List.map (fun b=>(↑b.toNat:Int)) d++List.drop (List.map (fun b=>(↑b.toNat:Int)) d).length (List.map (fun b=>(↑b.toNat:Int)) (f.pages.getD i.toNat ([] :List UInt8)))))),J (if i64.wrap (f.fuse-1)>0 then i64.wrap (f.fuse-1)else 0),.bool f.dead,J f.keep],J 0])))))))))))))
theorem wrp(f:Fl)(i:Int)(d:List UInt8):w9 (Env.ofB pP (v7 [z80]) (d7 []) (d9 []) (d8 []) (x8 []) (x8 [130]) (x8 []) (x8 [])) 1000 (j8 pP 267) .str (x9 65 []) (u9 pP 267) x83 (u7 pP 267 [f.sv,J i,.str d]) [] =x84 f i d:=by kernel_rfl
def x85:Plan:=let z0:Plan:=.fork (.ln 12 (.lit .all)) (.lit (.lit (.fork (.ln 9 (.lit .all)) (.ln 5 (.fork (.ln 3 (.lit .all)) (.ln 3 (.fork .all (.fork .all (.fork .all .all)))))))));.fork z0 z0
noncomputable def x86(f:Fl)(i:Int)(d:List UInt8):Tree Stop:= .node (f.pages.isEmpty) (.req (o6 f) (.node (!flB f) (.leaf (.done (.tuple [.agg [.list Ty.str [],J f.fuse,.bool f.dead,J f.keep],J 1]))) (.node (i<0) (.leaf (.done (.tuple [.agg [.list Ty.str [],J f.fuse,.bool f.dead,J f.keep],J 1]))) (.node (i≥(↑f.pages.length:Int)) (.leaf (.done (.tuple [.agg [.list Ty.str [],J f.fuse,.bool f.dead,J f.keep],J 1]))) (.node ((↑d.length:Int) != 64) (.leaf (.done (.tuple [.agg [.list Ty.str [],J f.fuse,.bool f.dead,J f.keep],J 1]))) (.node (f.dead) (.leaf (.done (.tuple [.agg [.list Ty.str [],J f.fuse,.bool f.dead,J f.keep],J 17]))) (.node (f.fuse==1) (.req (0≤f.keep&&f.keep≤(↑d.length:Int)) (.req (0≤i&&i< (↑f.pages.length:Int)) (.req (0≤f.keep&&f.keep≤((List.length (f.pages.getD i.toNat ([] :List UInt8)):Nat):Int)) (.req ((((List.take f.keep.toNat d).length+(List.drop f.keep.toNat (f.pages.getD i.toNat ([] :List UInt8))).length:Nat):Int)≤(9223372036854775807:Int)) (.req (0≤i&&i<0) (.fail 6)))))) (.req (0≤i&&i<0) (.fail 6))))))))) (.req ((0+f.pages.length)*16≤140737488355328) (.req (o6 f) (.node (!flB f) (.leaf (.done (.tuple [.agg [.list Ty.str f.pages,J f.fuse,.bool f.dead,J f.keep],J 1]))) (.node (i<0) (.leaf (.done (.tuple [.agg [.list Ty.str f.pages,J f.fuse,.bool f.dead,J f.keep],J 1]))) (.node (i≥(↑f.pages.length:Int)) (.leaf (.done (.tuple [.agg [.list Ty.str f.pages,J f.fuse,.bool f.dead,J f.keep],J 1]))) (.node ((↑d.length:Int) != 64) (.leaf (.done (.tuple [.agg [.list Ty.str f.pages,J f.fuse,.bool f.dead,J f.keep],J 1]))) (.node (f.dead) (.leaf (.done (.tuple [.agg [.list Ty.str f.pages,J f.fuse,.bool f.dead,J f.keep],J 17]))) (.node (f.fuse==1) (.req (0≤f.keep&&f.keep≤(↑d.length:Int)) (.req (0≤i&&i< (↑f.pages.length:Int)) (.req (0≤f.keep&&f.keep≤((List.length (f.pages.getD i.toNat ([] :List UInt8)):Nat):Int)) (.req ((((List.take f.keep.toNat d).length+(List.drop f.keep.toNat (f.pages.getD i.toNat ([] :List UInt8))).length:Nat):Int)≤(9223372036854775807:Int)) (.req (0≤i&&i< (↑f.pages.length:Int)) (.req (i.toNat<f.pages.length) (.leaf (.done (.tuple [.agg [.list Ty.str (f.pages.set i.toNat (List.take f.keep.toNat d++List.drop f.keep.toNat (f.pages.getD i.toNat ([] :List UInt8)))),J 0,.bool true,J 0],J 17]))))))))) (.req (0≤i&&i< (↑f.pages.length:Int)) (.req (i.toNat<f.pages.length) (.leaf (.done (.tuple [.agg [.list Ty.str (f.pages.set i.toNat d),J (if i64.wrap (f.fuse-1)>0 then i64.wrap (f.fuse-1)else 0),.bool f.dead,J f.keep],J 0])))))))))))))
theorem wrr(f:Fl)(i:Int)(d:List UInt8):w9 (Env.ofB pP (v7 [z65]) (d7 []) (d9 []) (d8 []) (x8 []) (x8 [131]) (x8 []) (x8 [])) 1000 (j8 pP 190) .str (x9 69 []) (u9 pP 190) x85 (u7 pP 190 [f.sv,J i,.str d]) [] =x86 f i d:=by kernel_rfl
def zY6(r:Rc):List UInt8:=beN r.seq 6++beN r.kind 1++beN r.line 6++beN r.done 4++beN r.src.fst 4++beN r.src.snd.fst 4++beN r.src.snd.snd.fst 4++beN r.src.snd.snd.snd 4++beN r.dst.fst 4++beN r.dst.snd.fst 4++beN r.dst.snd.snd.fst 4++beN r.dst.snd.snd.snd 4
theorem zY7(r:Rc):zY6 r=zY8 r:=by simp only[zY6,zY8,List.append_assoc]
theorem xd9(r:Rc):SCall pP 266 [r.sv] (zZ2 r):=
 o8 mix [qc9,fUi,fIi,z51,qc0] ⟨ys5,yv4,yn8,yk5,yr6,trivial⟩ 1000 (.fork (.all) (.go (.lit (.go (.lit (.go (.lit (.go (.lit (.go (.lit (.go (.lit (.go (.lit (.go (.lit (.go (.lit (.go (.lit (.go (.lit (.go (.lit (.go (.lit (.all))))))))))))))))))))))))))))
  (t:=let y0:=(9223372036854775807:Int);let y1:=zY6 r++beN ((crc (zY6 r):Nat):Int) 2;.node (!rcB r) (.leaf (.tuple [SV.str [],J 1])) (.req (inR r.seq 0 281474976710655) (.req (((0+(beN r.seq 6).length:Nat):Int)≤y0) (.req (inR r.kind 0 255) (.req ((((beN r.seq 6).length+(beN r.kind 1).length:Nat):Int)≤y0) (.req (inR r.line 0 281474976710655) (.req ((((beN r.seq 6++beN r.kind 1).length+(beN r.line 6).length:Nat):Int)≤y0) (.req (inR r.done 0 4294967295) (.req ((((beN r.seq 6++beN r.kind 1++beN r.line 6).length+(beN r.done 4).length:Nat):Int)≤y0) (.req true (.req true (.req (inR r.src.1 (-2147483648) 2147483647) (.req ((((beN r.seq 6++beN r.kind 1++beN r.line 6++beN r.done 4).length+(beN r.src.1 4).length:Nat):Int)≤y0) (.req true (.req (inR r.src.2.1 (-2147483648) 2147483647) (.req ((((beN r.seq 6++beN r.kind 1++beN r.line 6++beN r.done 4++beN r.src.1 4).length+(beN r.src.2.1 4).length:Nat):Int)≤y0) (.req true (.req (inR r.src.2.2.1 (-2147483648) 2147483647) (.req ((((beN r.seq 6++beN r.kind 1++beN r.line 6++beN r.done 4++beN r.src.1 4++beN r.src.2.1 4).length+(beN r.src.2.2.1 4).length:Nat):Int)≤y0) (.req true (.req (inR r.src.2.2.2 (-2147483648) 2147483647) (.req ((((beN r.seq 6++beN r.kind 1++beN r.line 6++beN r.done 4++beN r.src.1 4++beN r.src.2.1 4++beN r.src.2.2.1 4).length+(beN r.src.2.2.2 4).length:Nat):Int)≤y0) (.req true (.req true (.req (inR r.dst.1 (-2147483648) 2147483647) (.req ((((beN r.seq 6++beN r.kind 1++beN r.line 6++beN r.done 4++beN r.src.1 4++beN r.src.2.1 4++beN r.src.2.2.1 4++beN r.src.2.2.2 4).length+(beN r.dst.1 4).length:Nat):Int)≤y0) (.req true (.req (inR r.dst.2.1 (-2147483648) 2147483647) (.req ((((beN r.seq 6++beN r.kind 1++beN r.line 6++beN r.done 4++beN r.src.1 4++beN r.src.2.1 4++beN r.src.2.2.1 4++beN r.src.2.2.2 4++beN r.dst.1 4).length+(beN r.dst.2.1 4).length:Nat):Int)≤y0) (.req true (.req (inR r.dst.2.2.1 (-2147483648) 2147483647) (.req ((((beN r.seq 6++beN r.kind 1++beN r.line 6++beN r.done 4++beN r.src.1 4++beN r.src.2.1 4++beN r.src.2.2.1 4++beN r.src.2.2.2 4++beN r.dst.1 4++beN r.dst.2.1 4).length+(beN r.dst.2.2.1 4).length:Nat):Int)≤y0) (.req true (.req (inR r.dst.2.2.2 (-2147483648) 2147483647) (.req ((((beN r.seq 6++beN r.kind 1++beN r.line 6++beN r.done 4++beN r.src.1 4++beN r.src.2.1 4++beN r.src.2.2.1 4++beN r.src.2.2.2 4++beN r.dst.1 4++beN r.dst.2.1 4++beN r.dst.2.2.1 4).length+(beN r.dst.2.2.2 4).length:Nat):Int)≤y0) (.req ((zY6 r).length≤100000) (.req (inR ((crc (zY6 r):Nat):Int) 0 65535) (.req ((((zY6 r).length+(beN ((crc (zY6 r):Nat):Int) 2).length:Nat):Int)≤y0) (.req (0<y1.length&& ((↑y1.length:Int)<58&&true)) (.req (inR r.seq 0 281474976710655) (.req ((((yK3 y1 58).length+(beN r.seq 6).length:Nat):Int)≤y0) (.leaf (.tuple [SV.str (yK3 y1 58++beN r.seq 6),J 0])))))))))))))))))))))))))))))))))))))))))))
  (by kernel_rfl) (by
   unfold zZ2
   refine f9 (fun v=>by rw[v];rfl) fun v=>?_
   rw[v];have q:=yW5.1 v;have c:=zM6 (zY8 r);have l:=zY9 r;rw[zY7]
   have R:∀{x lo hi:Int},lo≤x→x≤hi→inR x lo hi=true:=fun a b=>v8.2 ⟨a,b⟩
   have D:∀{x:Nat},x≤100000→decide (((x:Nat):Int)≤(9223372036854775807:Int))=true:=fun h=>decide_eq_true (by omega)
   have hl:∀n w,(beN n w).length=w:=zw5
   have p58:(yK3 (zY8 r++beN ((crc (zY8 r):Nat):Int) 2) 58).length=58:=by
    simp only[yK3,List.length_append,hl,l,List.length_replicate];omega
   refine x6 (R (by omega) (by omega)) ?_;refine x6 (D (by simp only[List.length_append,hl,List.length_nil];omega)) ?_;refine x6 (R (by omega) (by omega)) ?_;refine x6 (D (by simp only[List.length_append,hl,List.length_nil];omega)) ?_;refine x6 (R (by omega) (by omega)) ?_;refine x6 (D (by simp only[List.length_append,hl,List.length_nil];omega)) ?_;refine x6 (R (by omega) (by omega)) ?_;refine x6 (D (by simp only[List.length_append,hl,List.length_nil];omega)) ?_;refine x6 rfl ?_;refine x6 rfl ?_;refine x6 (R (by omega) (by omega)) ?_;refine x6 (D (by simp only[List.length_append,hl,List.length_nil];omega)) ?_;refine x6 rfl ?_;refine x6 (R (by omega) (by omega)) ?_;refine x6 (D (by simp only[List.length_append,hl,List.length_nil];omega)) ?_;refine x6 rfl ?_;refine x6 (R (by omega) (by omega)) ?_;refine x6 (D (by simp only[List.length_append,hl,List.length_nil];omega)) ?_;refine x6 rfl ?_;refine x6 (R (by omega) (by omega)) ?_;refine x6 (D (by simp only[List.length_append,hl,List.length_nil];omega)) ?_;refine x6 rfl ?_;refine x6 rfl ?_;refine x6 (R (by omega) (by omega)) ?_;refine x6 (D (by simp only[List.length_append,hl,List.length_nil];omega)) ?_;refine x6 rfl ?_;refine x6 (R (by omega) (by omega)) ?_;refine x6 (D (by simp only[List.length_append,hl,List.length_nil];omega)) ?_;refine x6 rfl ?_;refine x6 (R (by omega) (by omega)) ?_;refine x6 (D (by simp only[List.length_append,hl,List.length_nil];omega)) ?_;refine x6 rfl ?_;refine x6 (R (by omega) (by omega)) ?_;refine x6 (D (by simp only[List.length_append,hl,List.length_nil];omega)) ?_;refine x6 (decide_eq_true (by rw[l];omega)) ?_;refine x6 (R (by omega) (by omega)) ?_;refine x6 (D (by rw[l,hl];omega)) ?_
   refine x6 (by
    have e:(zY8 r++beN ((crc (zY8 r):Nat):Int) 2).length=51:=by rw[List.length_append,hl,l]
    rw[e];rfl) ?_
   refine x6 (R (by omega) (by omega)) ?_;refine x6 (D (by rw[p58,hl];omega)) ?_
   rfl) (by kernel_rfl) (by exact zZ3 r)
def yg3:Plan:=.lit (.all)
noncomputable def yg4(s:List UInt8)(a:Int):Tree StopX:= .req (0≤a&& (a+6≤(↑s.length:Int)&&s.length≤100000)) (.leaf (.fin (.ret (J (tk s a.toNat 6)) [some (.cells [SV.str s,J (a+6),J 6,SV.fn 282 [] []])])))
theorem yg2(s:List UInt8)(a:Int):xx1 (Env.ofB pP (v7 [fTu,fTi]) (d7 []) (d9 []) (d8 []) (x8 []) (x8 []) (x8 []) (x8 [])) 1000 (j8 pP 283) 1 (x9 34 []) (u9 pP 283) yg3 (u7 pP 283 [.ptr 0 0]) [some (.cells [.str s,J a,J 6,.fn 282 [] []])] =yg4 s a:=by kernel_rfl
theorem zu0(s:List UInt8)(a:Int)(h0:0≤a)(h1:a+6≤(s.length:Int))(h2:s.length≤100000):za1 pP 283 [] (.cells [.str s,J a,J 6,.fn 282 [] []]) (false,J (tk s a.toNat 6),.cells [.str s,J (a+6),J 6,.fn 282 [] []]):=by
 refine zw1 (r:=.ret (J (tk s a.toNat 6)) [some (.cells [.str s,J (a+6),J 6,.fn 282 [] []])]) (by kernel_rfl) (y91 (hB (l:=[fTu,fTi]) (k:=[]) (j:=[]) (i:=[]) ([] :List Nat) ([] :List Nat) ([] :List Nat) ([] :List Nat) (⟨yv2,yu7,trivial⟩) o4 o4 o4) (n:=1000) (keep:=(x9 34 [])) (p:=yg3) (Nat.le_refl _) ?_) rfl rfl rfl rfl rfl;erw [yg2 s a];unfold yg4;exact⟨by simp only[Bool.and_eq_true,decide_eq_true_eq];exact⟨h0,h1,h2⟩,rfl⟩
def yf7:Plan:=.lit (.all)
noncomputable def yf8(s:List UInt8)(a:Int):Tree StopX:= .req (0≤a&& (a+1≤(↑s.length:Int)&&s.length≤100000)) (.leaf (.fin (.ret (J (tk s a.toNat 1)) [some (.cells [SV.str s,J (a+1),J 1,SV.fn 282 [] []])])))
theorem yf6(s:List UInt8)(a:Int):xx1 (Env.ofB pP (v7 [fTu,fTi]) (d7 []) (d9 []) (d8 []) (x8 []) (x8 []) (x8 []) (x8 [])) 1000 (j8 pP 283) 1 (x9 34 []) (u9 pP 283) yf7 (u7 pP 283 [.ptr 0 0]) [some (.cells [.str s,J a,J 1,.fn 282 [] []])] =yf8 s a:=by kernel_rfl
theorem zt8(s:List UInt8)(a:Int)(h0:0≤a)(h1:a+1≤(s.length:Int))(h2:s.length≤100000):za1 pP 283 [] (.cells [.str s,J a,J 1,.fn 282 [] []]) (false,J (tk s a.toNat 1),.cells [.str s,J (a+1),J 1,.fn 282 [] []]):=by
 refine zw1 (r:=.ret (J (tk s a.toNat 1)) [some (.cells [.str s,J (a+1),J 1,.fn 282 [] []])]) (by kernel_rfl) (y91 (hB (l:=[fTu,fTi]) (k:=[]) (j:=[]) (i:=[]) ([] :List Nat) ([] :List Nat) ([] :List Nat) ([] :List Nat) (⟨yv2,yu7,trivial⟩) o4 o4 o4) (n:=1000) (keep:=(x9 34 [])) (p:=yf7) (Nat.le_refl _) ?_) rfl rfl rfl rfl rfl;erw [yf6 s a];unfold yf8;exact⟨by simp only[Bool.and_eq_true,decide_eq_true_eq];exact⟨h0,h1,h2⟩,rfl⟩
def yg0:Plan:=.lit (.all)
noncomputable def yg1(s:List UInt8)(a:Int):Tree StopX:= .req (0≤a&& (a+4≤(↑s.length:Int)&&s.length≤100000)) (.leaf (.fin (.ret (J (tk s a.toNat 4)) [some (.cells [SV.str s,J (a+4),J 4,SV.fn 282 [] []])])))
theorem yf9(s:List UInt8)(a:Int):xx1 (Env.ofB pP (v7 [fTu,fTi]) (d7 []) (d9 []) (d8 []) (x8 []) (x8 []) (x8 []) (x8 [])) 1000 (j8 pP 283) 1 (x9 34 []) (u9 pP 283) yg0 (u7 pP 283 [.ptr 0 0]) [some (.cells [.str s,J a,J 4,.fn 282 [] []])] =yg1 s a:=by kernel_rfl
theorem zt9(s:List UInt8)(a:Int)(h0:0≤a)(h1:a+4≤(s.length:Int))(h2:s.length≤100000):za1 pP 283 [] (.cells [.str s,J a,J 4,.fn 282 [] []]) (false,J (tk s a.toNat 4),.cells [.str s,J (a+4),J 4,.fn 282 [] []]):=by
 refine zw1 (r:=.ret (J (tk s a.toNat 4)) [some (.cells [.str s,J (a+4),J 4,.fn 282 [] []])]) (by kernel_rfl) (y91 (hB (l:=[fTu,fTi]) (k:=[]) (j:=[]) (i:=[]) ([] :List Nat) ([] :List Nat) ([] :List Nat) ([] :List Nat) (⟨yv2,yu7,trivial⟩) o4 o4 o4) (n:=1000) (keep:=(x9 34 [])) (p:=yg0) (Nat.le_refl _) ?_) rfl rfl rfl rfl rfl;erw [yf9 s a];unfold yg1;exact⟨by simp only[Bool.and_eq_true,decide_eq_true_eq];exact⟨h0,h1,h2⟩,rfl⟩
def yf4:Plan:=.lit (.all)
noncomputable def yf5(s:List UInt8)(a:Int):Tree StopX:= .req (0≤a&& (a+4≤(↑s.length:Int)&&s.length≤100000)) (.leaf (.fin (.ret (J (sg (tk s a.toNat 4))) [some (.cells [SV.str s,J (a+4),J 4,SV.fn 284 [] []])])))
theorem yf3(s:List UInt8)(a:Int):xx1 (Env.ofB pP (v7 [fTu,fTi]) (d7 []) (d9 []) (d8 []) (x8 []) (x8 []) (x8 []) (x8 [])) 1000 (j8 pP 283) 1 (x9 34 []) (u9 pP 283) yf4 (u7 pP 283 [.ptr 0 0]) [some (.cells [.str s,J a,J 4,.fn 284 [] []])] =yf5 s a:=by kernel_rfl
theorem zt7(s:List UInt8)(a:Int)(h0:0≤a)(h1:a+4≤(s.length:Int))(h2:s.length≤100000):za1 pP 283 [] (.cells [.str s,J a,J 4,.fn 284 [] []]) (false,J (sg (tk s a.toNat 4)),.cells [.str s,J (a+4),J 4,.fn 284 [] []]):=by
 refine zw1 (r:=.ret (J (sg (tk s a.toNat 4))) [some (.cells [.str s,J (a+4),J 4,.fn 284 [] []])]) (by kernel_rfl) (y91 (hB (l:=[fTu,fTi]) (k:=[]) (j:=[]) (i:=[]) ([] :List Nat) ([] :List Nat) ([] :List Nat) ([] :List Nat) (⟨yv2,yu7,trivial⟩) o4 o4 o4) (n:=1000) (keep:=(x9 34 [])) (p:=yf4) (Nat.le_refl _) ?_) rfl rfl rfl rfl rfl;erw [yf3 s a];unfold yf5;exact⟨by simp only[Bool.and_eq_true,decide_eq_true_eq];exact⟨h0,h1,h2⟩,rfl⟩
def zt3:BFact:=⟨283,fun args B=>match args with
 |[] =>match B with
  |.cells [.str s,.int .i64 a,.int .i64 w,.fn g [] []] =>match Nat.beq g 282 with
   |true=>match w==6 with
    |true=>some (.req (0≤a&& (a+6≤(s.length:Int)&&s.length≤100000)) (.leaf (false,J (tk s a.toNat 6),.cells [.str s,J (a+6),J 6,.fn 282 [] []])))
    |false=>match w==1 with
     |true=>some (.req (0≤a&& (a+1≤(s.length:Int)&&s.length≤100000)) (.leaf (false,J (tk s a.toNat 1),.cells [.str s,J (a+1),J 1,.fn 282 [] []])))
     |false=>match w==4 with
      |true=>some (.req (0≤a&& (a+4≤(s.length:Int)&&s.length≤100000)) (.leaf (false,J (tk s a.toNat 4),.cells [.str s,J (a+4),J 4,.fn 282 [] []])))
      |false=>none
   |false=>match Nat.beq g 284 with
    |true=>match w==4 with
     |true=>some (.req (0≤a&& (a+4≤(s.length:Int)&&s.length≤100000)) (.leaf (false,J (sg (tk s a.toNat 4)),.cells [.str s,J (a+4),J 4,.fn 284 [] []])))
     |false=>none
    |false=>none
  |_=>none
 |_=>none⟩
theorem yq1:zt3.ok pP:=fun args B t ht=>by
 simp only[zt3]at ht
 split at ht
 ·split at ht
  ·rename_i s a w g
   have sp:∀{x:Int} {k:Nat},(0≤a&& (a+x≤(s.length:Int)&&s.length≤100000))=true→0≤a∧a+x≤(s.length:Int)∧s.length≤100000:=fun h=>by simpa using h
   split at ht
   ·rename_i hg
    have hg:=Nat.eq_of_beq_eq_true hg;subst hg
    split at ht
    ·rename_i hw
     have hw:=beq_iff_eq.1 hw;subst hw;cases ht;intro h;obtain⟨h0,h1,h2⟩:=sp (k:=0) h;exact zu0 s a h0 h1 h2
    ·split at ht
     ·rename_i hw
      have hw:=beq_iff_eq.1 hw;subst hw;cases ht;intro h;obtain⟨h0,h1,h2⟩:=sp (k:=0) h;exact zt8 s a h0 h1 h2
     ·split at ht
      ·rename_i hw
       have hw:=beq_iff_eq.1 hw;subst hw;cases ht;intro h;obtain⟨h0,h1,h2⟩:=sp (k:=0) h;exact zt9 s a h0 h1 h2
      ·cases ht
   ·split at ht
    ·rename_i hg
     have hg:=Nat.eq_of_beq_eq_true hg;subst hg
     split at ht
     ·rename_i hw
      have hw:=beq_iff_eq.1 hw;subst hw;cases ht;intro h;obtain⟨h0,h1,h2⟩:=sp (k:=0) h;exact zt7 s a h0 h1 h2
     ·cases ht
    ·cases ht
  ·cases ht
 ·cases ht
def z59:Fact:=qm8 266 fun r=>.node (rcB r) (.leaf (.tuple [.str (enc r),J 0])) (.leaf (.tuple [.str [],J 1]))
theorem yl2:z59.ok pP:=qm9 fun r=>by
 have q:=xd9 r;unfold zZ2 at q;exact⟨fun v=>by rw[v]at q;exact q,fun v=>by rw[v]at q;exact q⟩
theorem xc9(s:List UInt8)(h:s.length≤100000):SCall pP 255 [.str s] (zQ5 s):=
 xw9 (hB (l:=[z59]) (k:=[]) (j:=[BFact.toP zt3]) (i:=[zt3]) ([] :List Nat) ([] :List Nat) ([] :List Nat) ([] :List Nat) (⟨yl2,trivial⟩) o4 (allQ.all (p:=PFact.ok pP) (l:=[BFact.toP zt3]) ⟨BFact.toP_ok yq1,trivial⟩) (allQ.all (p:=BFact.ok pP) (l:=[zt3]) ⟨yq1,trivial⟩)) 1000 (.fork .all (.go (.lit (.go (.lit (.go (.lit (.go (.lit (.go (.lit (.go (.lit (.go (.lit (.go (.lit (.go (.lit (.go (.lit (.go (.lit (.go (.lit (.go (.lit (.fork (.ln 4 (.fork .all .all)) (.ln 4 (.lit .all))))))))))))))))))))))))))))))
  (t:=let y0:=s.length≤100000;let y1:=(↑s.length:Int);let y2:=Rc.mk (tk s 6 1) (tk s 0 6) (tk s 7 6) (tk s 13 4) (sg (tk s 17 4),sg (tk s 21 4),sg (tk s 25 4),sg (tk s 29 4)) (sg (tk s 33 4),sg (tk s 37 4),sg (tk s 41 4),sg (tk s 45 4));let y3:Tree SV:=.leaf (.tuple [.agg [J 0,J 0,J 0,J 0,J 0,J 0,J 0,J 0,J 0,J 0,J 0,J 0],J 19]);.node (y1<64) (.leaf (.tuple [.agg [J 0,J 0,J 0,J 0,J 0,J 0,J 0,J 0,J 0,J 0,J 0,J 0],J 6])) (.req (6≤y1&&decide y0) (.req (7≤y1&&decide y0) (.req (13≤y1&&decide y0) (.req (17≤y1&&decide y0) (.req true (.req (21≤y1&&decide y0) (.req (21≤y1&&decide y0) (.req true (.req (25≤y1&&decide y0) (.req (25≤y1&&decide y0) (.req true (.req (29≤y1&&decide y0) (.req (29≤y1&&decide y0) (.req true (.req (33≤y1&&decide y0) (.req (33≤y1&&decide y0) (.req true (.req true (.req (37≤y1&&decide y0) (.req (37≤y1&&decide y0) (.req true (.req (41≤y1&&decide y0) (.req (41≤y1&&decide y0) (.req true (.req (45≤y1&&decide y0) (.req (45≤y1&&decide y0) (.req true (.req (49≤y1&&decide y0) (.req (49≤y1&&decide y0) (.req true (.node (rcB y2) (.node (!enc y2==s) y3 (.leaf (.tuple [.agg [J (tk s 6 1),J (tk s 0 6),J (tk s 7 6),J (tk s 13 4),J (sg (tk s 17 4)),J (sg (tk s 21 4)),J (sg (tk s 25 4)),J (sg (tk s 29 4)),J (sg (tk s 33 4)),J (sg (tk s 37 4)),J (sg (tk s 41 4)),J (sg (tk s 45 4))],J 0]))) y3))))))))))))))))))))))))))))))))
  (by kernel_rfl) (by
   have qq:∀x:Int,x≤49→64≤s.length→(x≤(s.length:Int)&&s.length≤100000)=true:=fun x a b=>by simp;omega
   unfold zQ5;refine o5 (fun a=>?_) (fun a=>?_)
   ·rw[decide_eq_true (show s.length<64 by omega)];rfl
   ·rw[decide_eq_false (show ¬s.length<64 by omega)]
    have b:64≤s.length:=by omega
    have e:zQ0 s=(rcB (n8 s)&&s==enc (n8 s)):=rfl;refine x6 (qq _ (by decide) b) ?_;refine x6 (qq _ (by decide) b) ?_;refine x6 (qq _ (by decide) b) ?_;refine x6 (qq _ (by decide) b) ?_;refine x6 rfl ?_;refine x6 (qq _ (by decide) b) ?_;refine x6 (qq _ (by decide) b) ?_;refine x6 rfl ?_;refine x6 (qq _ (by decide) b) ?_;refine x6 (qq _ (by decide) b) ?_;refine x6 rfl ?_;refine x6 (qq _ (by decide) b) ?_;refine x6 (qq _ (by decide) b) ?_;refine x6 rfl ?_;refine x6 (qq _ (by decide) b) ?_;refine x6 (qq _ (by decide) b) ?_;refine x6 rfl ?_;refine x6 rfl ?_;refine x6 (qq _ (by decide) b) ?_;refine x6 (qq _ (by decide) b) ?_;refine x6 rfl ?_;refine x6 (qq _ (by decide) b) ?_;refine x6 (qq _ (by decide) b) ?_;refine x6 rfl ?_;refine x6 (qq _ (by decide) b) ?_;refine x6 (qq _ (by decide) b) ?_;refine x6 rfl ?_;refine x6 (qq _ (by decide) b) ?_;refine x6 (qq _ (by decide) b) ?_;refine x6 rfl ?_
    refine f4 (fun v=>?_) fun v=>?_
    ·have v:rcB (n8 s)=true:=v
     refine f9 (fun w=>?_) fun w=>?_
     ·have w:(enc (n8 s)==s)=false:=w
      have w:(s==enc (n8 s))=false:=by
       rw[beq_eq_false_iff_ne]at w ⊢;exact fun h=>w h.symm
      rw[e,v,w];rfl
     ·have w:(enc (n8 s)==s)=true:=w
      have w:(s==enc (n8 s))=true:=by
       rw[beq_iff_eq]at w ⊢;exact w.symm
      rw[e,v,w];rfl
    ·have v:rcB (n8 s)=false:=v
     rw[e,v];rfl) (by kernel_rfl) (by exact zQ6 s)
def wrV(f:Fl)(i:Int)(d:List UInt8):SV:=.tuple [(wrF f i d).sv,J (wrE f i d)]
theorem x77{f:Fl}{i:Int}{d:List UInt8}(h:qC7 f i=false∨¬d.length=64):wrV f i d=.tuple [f.sv,J 1] :=by
 have e:(qC7 f i&&d.length=64)=false:=by rcases h with h|h<;>simp[h]
 unfold wrV wrF wrE;rw[e];rfl
theorem x78{f:Fl}{i:Int}{d:List UInt8}(h:qC7 f i=true)(hd:d.length=64)(hf:f.dead=true):wrV f i d=.tuple [f.sv,J 17] :=by
 unfold wrV wrF wrE;rw[h,hd,hf];rfl
theorem x80{f:Fl}{i:Int}{d:List UInt8}(h:qC7 f i=true)(hd:d.length=64)(hf:f.dead=false)(hu:f.fuse=1):wrV f i d=.tuple [.agg [.list .str (f.pages.set i.toNat (d.take f.keep.toNat++(f.pages.getD i.toNat []).drop f.keep.toNat)),J 0,.bool true,J 0],J 17] :=by
 have e:(f.fuse==1)=true:=by simpa using hu
 unfold wrV wrF wrE;rw[h,hd,hf,e];rfl
theorem x79{f:Fl}{i:Int}{d:List UInt8}(h:qC7 f i=true)(hd:d.length=64)(hf:f.dead=false)(hu:¬f.fuse=1):wrV f i d=.tuple [.agg [.list .str (f.pages.set i.toNat d),J (if f.fuse-1>0 then f.fuse-1 else 0),.bool f.dead,J f.keep],J 0] :=by
 have e:(f.fuse==1)=false:=by simpa using hu
 unfold wrV wrF wrE;rw[h,hd,hf,e];rfl
theorem xW8(x:List UInt8):(x.map fun b=>(b.toNat:Int)).map (fun n=>UInt8.ofNat (Int.toNat n))=x:=by
 rw[List.map_map];exact(List.map_congr_left fun b _=>by simp).trans (List.map_id x)
theorem qC8{f:Fl}{i:Int}:qC7 f i=true↔flB f=true∧0≤i∧i≤(f.pages.length:Int)-1:=by simp only[qC7,Bool.and_eq_true,v8]
theorem yL1{f:Fl}{i:Int}(h:qC7 f i=true):(f.pages.getD i.toNat []).length=64∧0≤i∧i< (f.pages.length:Int)∧i.toNat<f.pages.length∧(0≤f.keep∧f.keep≤64)∧0≤f.fuse∧f.fuse≤1048576:=by
 obtain⟨h1,h2,h3⟩:=qC8.1 h;have fb:=qt3.1 h1
 have hi:i.toNat<f.pages.length:=by omega
 refine⟨?_,h2,by omega,hi,fb.2.2.2.2,fb.2.2.2.1⟩;rw[List.getD_eq_getElem?_getD,List.getElem?_eq_getElem hi];exact fb.1 _ (List.getElem_mem hi)
theorem x76(f:Fl)(i:Int)(d:List UInt8):(wrV f i d).data=true:=rfl
theorem kWr:Known pP (Env.ofB pP (v7 [z80]) (d7 []) (d9 []) (d8 []) (x8 []) (x8 [130]) (x8 []) (x8 [])):=hB (l:=[z80]) (k:=[]) (j:=[]) (i:=[]) [] [130] [] [] ⟨yn4,trivial⟩ o4 o4 o4
theorem qT5:Known pP (Env.ofB pP (v7 [z65]) (d7 []) (d9 []) (d8 []) (x8 []) (x8 [131]) (x8 []) (x8 [])):=hB (l:=[z65]) (k:=[]) (j:=[]) (i:=[]) [] [131] [] [] ⟨yl8,trivial⟩ o4 o4 o4
theorem len64{d:List UInt8}:((d.length:Int)=64)↔d.length=64:=by omega
theorem yd5{f:Fl}{i:Int}(e:f.pages.isEmpty=true):qC7 f i=false:=by
 have e:=List.isEmpty_iff.1 e;rw[Bool.eq_false_iff];intro h;have:=(yL1 h).2.1;have:=(yL1 h).2.2.1;rw[e]at this;simp at this;omega
theorem zY5{f:Fl}(e:f.pages.isEmpty=true):f.sv=.agg [.list .str [],J f.fuse,.bool f.dead,J f.keep] :=by
 have e:=List.isEmpty_iff.1 e;show SV.agg f.cells=_;unfold Fl.cells;rw[e];rfl
theorem xv0(f:Fl)(i:Int)(d:List UInt8)(h:o6 f=true):SCall pP 267 [f.sv,J i,.str d] (wrV f i d):=by
 have hl:f.pages.length≤1000:=of_decide_eq_true h;refine m6 rfl (x76 f i d) (by kernel_rfl) (w6 kWr (n:=1000) (hint:=.str) (keep:=x9 65 []) (p:=x83) (boxes:=[]) (x76 f i d) ?_);have q:=wrp f i d;unfold u7 u9 at q;erw [q];unfold x84
 refine f4 (fun e=>x6 h (f9 (fun b=>?_) fun b=>?_)) fun e=>x6 (decide_eq_true (by omega)) (x6 h (f9 (fun b=>?_) fun b=>q96 (fun k=>?_) fun k=>f4 (fun dd=>?_) fun dd=>x6 ?_ (q95 (fun u=>x6 ?_ (x6 ?_ (x6 ?_ (x6 ?_ ?_)))) fun u=>x6 ?_ (x6 ?_ (x6 ?_ ?_)))))
 ·exact((x77 (.inl b)).trans (by rw[zY5 e];try rfl)).symm
 ·rw[yd5 e]at b;cases b
 ·exact(x77 (.inl b)).symm
 ·exact(x77 (.inr fun k'=>k (len64.2 k'))).symm
 ·exact(x78 b (len64.1 k) dd).symm
 all_goals
  obtain⟨p1,p2,p3,p4,p5,p6⟩:=yL1 b;have k:=len64.1 k
 ·simp;omega
 ·simp[k];omega
 ·rw[List.length_map,List.length_map,List.length_take,p1]
  cases hp:f.pages.getD i.toNat ([] :List UInt8)with
  |nil=>rw[hp]at p1;simp at p1
  |cons x l=>simp;omega
 ·simp;omega
 ·exact decide_eq_true p4
 ·rw[←List.map_drop,←List.map_append,xW8,List.length_map,List.length_take,k,show min f.keep.toNat 64=f.keep.toNat by omega]
  exact(x80 b k dd u).symm
 ·rw[List.length_map,List.length_map,p1,k]
  cases hp:f.pages.getD i.toNat ([] :List UInt8)with
  |nil=>rw[hp]at p1;simp at p1
  |cons x l=>simp
 ·simp;omega
 ·exact decide_eq_true p4
 ·rw[←List.map_drop,←List.map_append,xW8,List.length_map,k,List.drop_eq_nil_of_le (Nat.le_of_eq p1),List.append_nil,w64 (by omega) (by omega)]
  exact(x79 b k dd u).symm
theorem xv1(f:Fl)(i:Int)(d:List UInt8)(h:o6 f=true)(hd:d.length≤100000):SCall pP 190 [f.sv,J i,.str d] (wrV f i d):=by
 have hl:f.pages.length≤1000:=of_decide_eq_true h;refine m6 rfl (x76 f i d) (by kernel_rfl) (w6 qT5 (n:=1000) (hint:=.str) (keep:=x9 69 []) (p:=x85) (boxes:=[]) (x76 f i d) ?_);have q:=wrr f i d;unfold u7 u9 at q;erw [q];unfold x86
 have nb:∀{x:Bool},flB f=x→(x=false∨i<0∨i≥(f.pages.length:Int))→qC7 f i=false:=fun hx hy=>by
  rw[Bool.eq_false_iff];intro hh;obtain⟨h1,h2,h3⟩:=qC8.1 hh;rw[h1]at hx;subst hx;rcases hy with hy|hy|hy
  ·cases hy
  ·omega
  ·omega
 have yb:flB f=true→¬i<0→¬i≥(f.pages.length:Int)→qC7 f i=true:=fun h1 h2 h3=>qC8.2 ⟨h1,by omega,by omega⟩
 refine f4 (fun e=>x6 h (f9 (fun b=>?_) fun b=>o5 (fun b1=>?_) fun b1=>o5 (fun b2=>?_) fun b2=>?_)) fun e=>x6 (decide_eq_true (by omega)) (x6 h (f9 (fun b=>?_) fun b=>o5 (fun b1=>?_) fun b1=>o5 (fun b2=>?_) fun b2=>q96 (fun k=>?_) fun k=>f4 (fun dd=>?_) fun dd=>(q95 (fun u=>x6 ?_ (x6 ?_ (x6 ?_ (x6 ?_ (x6 ?_ (x6 ?_ ?_)))))) fun u=>x6 ?_ (x6 ?_ ?_))))
 ·exact((x77 (.inl (nb b (.inl rfl)))).trans (by rw[zY5 e];try rfl)).symm
 ·exact((x77 (.inl (nb b (.inr (.inl b1))))).trans (by rw[zY5 e];try rfl)).symm
 ·exact((x77 (.inl (nb b (.inr (.inr b2))))).trans (by rw[zY5 e];try rfl)).symm
 ·have:=yd5 (i:=i) e
  rw[yb b b1 b2]at this;cases this
 ·exact(x77 (.inl (nb b (.inl rfl)))).symm
 ·exact(x77 (.inl (nb b (.inr (.inl b1))))).symm
 ·exact(x77 (.inl (nb b (.inr (.inr b2))))).symm
 ·exact(x77 (.inr fun k'=>k (len64.2 k'))).symm
 ·exact(x78 (yb b b1 b2) (len64.1 k) dd).symm
 all_goals
  have hb:=yb b b1 b2;obtain⟨p1,p2,p3,p4,p5,p6⟩:=yL1 hb;have k:=len64.1 k
 ·simp[k];omega
 ·simp;omega
 ·rw[p1];simp;omega
 ·refine decide_eq_true ?_
  rw[List.length_take,List.length_drop,p1,k];omega
 ·simp;omega
 ·exact decide_eq_true p4
 ·exact(x80 hb k dd u).symm
 ·simp;omega
 ·exact decide_eq_true p4
 ·rw[w64 (by omega) (by omega)]
  exact(x79 hb k dd u).symm
def qi2(f:FuncId)(h:Fl→Int→List UInt8→Tree SV):Fact:=⟨f,fun args=>match args with
 |[.agg [.list .str p,.int .i64 a,.bool d,.int .i64 k],.int .i64 i,.str s] =>some (h ⟨p,a,d,k⟩ i s)
 |_=>none⟩
theorem qi3{P:Program}{f:FuncId}{h:Fl→Int→List UInt8→Tree SV}(k:∀c i s,(h c i s).says (SCall P f [c.sv,J i,.str s])):(qi2 f h).ok P:=fun args t ht=>by
 simp only[qi2]at ht
 split at ht
 ·cases ht;exact k ⟨_,_,_,_⟩ _ _
 ·cases ht
def fWr:Fact:=qi2 267 fun f i s=>.req (o6 f) (.leaf (wrV f i s))
theorem yx0:fWr.ok pP:=qi3 fun f i s h=>xv0 f i s h
def qg4:Fact:=qi2 190 fun f i s=>.req (o6 f) (.req (s.length≤100000) (.leaf (wrV f i s)))
theorem yx1:qg4.ok pP:=qi3 fun f i s h hd=>xv1 f i s h (of_decide_eq_true hd)
def zQ3(s:List UInt8):Tree SV:=.req (s.length≤100000) (.node (s.length<64) (.leaf (.tuple [rcZ.sv,J 6])) (.node (zQ0 s) (.leaf (.tuple [(n8 s).sv,J 0])) (.leaf (.tuple [rcZ.sv,J 19]))))
theorem zQ4{P:Program}{g:FuncId}{s:List UInt8}(k:s.length≤100000→SCall P g [.str s] (zQ5 s)):(zQ3 s).says (SCall P g [.str s]):=fun h=>by
 have q:=k (of_decide_eq_true h);unfold zQ5 at q;exact⟨fun a=>by rw[a]at q;exact q,fun a=>⟨fun b=>by rw[a,b]at q;exact q,fun b=>by rw[a,b]at q;exact q⟩⟩
def z54:Fact:=qn0 255 zQ3
theorem yk7:z54.ok pP:=qn1 fun s=>zQ4 (xc9 s)
def z55:Fact:=qn0 263 zQ3
theorem yk8:z55.ok pP:=qn1 fun s=>zQ4 (xd0 s)
abbrev xW5:Ty:=.pair (.int .i64) (.pair (.int .i64) (.pair (.int .i64) (.pair (.int .i64) (.pair (.pair (.int .i64) (.pair (.int .i64) (.pair (.int .i64) (.int .i64)))) (.pair (.int .i64) (.pair (.int .i64) (.pair (.int .i64) (.int .i64))))))))
abbrev RT:=Int×Int×Int×Int×V4×V4
def Rc.t(r:Rc):RT:=(r.kind,r.seq,r.line,r.done,r.src,r.dst)
def yW9(x:RT):Rc:=⟨x.1,x.2.1,x.2.2.1,x.2.2.2.1,x.2.2.2.2.1,x.2.2.2.2.2⟩
theorem yX0(r:Rc):yW9 r.t=r:=rfl
theorem xK1(x:RT):(yW9 x).t=x:=rfl
theorem yX3(l:List Rc):(l.map Rc.t).map yW9=l:=by rw[List.map_map];exact(List.map_congr_left fun x _=>yX0 x).trans (List.map_id l)
theorem xK2(l:List RT):(l.map yW9).map Rc.t=l:=by rw[List.map_map];exact(List.map_congr_left fun x _=>xK1 x).trans (List.map_id l)
abbrev LR(l:List Rc):SV:=.list xW5 (l.map Rc.t)
def zS3:List Rc→Bool
 |[] =>true
 |r::l=>(l.all fun x=>!(x.seq==r.seq))&&zS3 l
theorem zS4:∀{l:List Rc},zS3 l=true↔zS5 l
 |[] =>by simp[zS3,zS5]
 |r::l=>by simp[zS3,zS5,zS4 (l:=l)]
def yV6:Plan:=.fork (.lit (.lit (.lit .all))) (.lit (.lit (.fork .all .all)))
noncomputable def yV7(f:Fl):Tree Stop:= .req (o6 f) (.node (!flB f) (.leaf (.done (.list xW5 []))) (.node (f.dead) (.leaf (.done (.list xW5 []))) (.leaf (.at (v5 pP 196 0) 88 (j9 88 [(1,.ptr 0 0),(3,SV.nilS),(4,J 0),(7,SV.undef)]) [some (.cells f.cells)]))))
theorem ra0(f:Fl):w9 (Env.of pP (v7 [z65])) 1000 (j8 pP 196) xW5 (x9 88 [1,3,4,7]) (u9 pP 196) yV6 (u7 pP 196 [f.sv]) [] =yV7 f:=by kernel_rfl
def yV8:Plan:=.fork (.fork (.ln 9 (.lit .all)) (.fork (.ln 9 (.fork .all .all)) (.ln 9 (.lit .all)))) .all
noncomputable def yV9(f:Fl)(l:List RT)(i:Int):Tree Stop:= .node (i< (↑f.pages.length:Int)) (.req (0≤i&&i< (↑f.pages.length:Int)) (.req (List.length (f.pages.getD i.toNat ([] :List UInt8))≤100000) (.node (List.length (f.pages.getD i.toNat ([] :List UInt8))<64) (.leaf (.at (v5 pP 196 0) 88 (j9 88 [(1,.ptr 0 0),(3,SV.row 1),(4,J (i64.wrap (i+1)))]) [some (.cells f.cells),some (.rows xW5 l)])) (.node (zQ0 (f.pages.getD i.toNat ([] :List UInt8))) (.req (!(↑f.pages.length:Int)==0) (.node ((n8 (f.pages.getD i.toNat ([] :List UInt8))).seq.tmod (↑f.pages.length:Int) != i) (.leaf (.at (v5 pP 196 0) 88 (j9 88 [(1,.ptr 0 0),(3,SV.row 1),(4,J (i64.wrap (i+1)))]) [some (.cells f.cells),some (.rows xW5 l)])) (.req ((l.length+ [(n8 (f.pages.getD i.toNat ([] :List UInt8))).t].length)*96≤140737488355328) (.leaf (.at (v5 pP 196 1) 88 (j9 88 [(1,.ptr 0 0),(3,SV.row 1),(4,J i),(7,J (i64.wrap ((↑(l++[(n8 (f.pages.getD i.toNat ([] :List UInt8))).t]).length:Int)-1)))]) [some (.cells f.cells),some (.rows xW5 (l++[(n8 (f.pages.getD i.toNat ([] :List UInt8))).t]))]))))) (.leaf (.at (v5 pP 196 0) 88 (j9 88 [(1,.ptr 0 0),(3,SV.row 1),(4,J (i64.wrap (i+1)))]) [some (.cells f.cells),some (.rows xW5 l)])))))) (.leaf (.done (.list xW5 l)))
theorem ra1(f:Fl)(l:List RT)(i:Int):w9 (Env.of pP (v7 [z55])) 1000 (j8 pP 196) xW5 (x9 88 [1,3,4,7]) (v5 pP 196 0) yV8 (j9 88 [(1,.ptr 0 0),(3,.row 1),(4,J i)]) [some (.cells f.cells),some (.rows xW5 l)] =yV9 f l i:=by kernel_rfl
def yW0:Plan:=.fork (.ln 12 (.fork .all .all)) (.ln 12 (.lit .all))
noncomputable def yW1(f:Fl)(l:List RT)(i k:Int):Tree Stop:= .node (k>0) (.req (0≤k&&k< (↑l.length:Int)) (.req (k.toNat<l.length) (.req (0≤i64.wrap (k-1)&&i64.wrap (k-1)< (↑l.length:Int)) (.req ((i64.wrap (k-1)).toNat<l.length) (.node ((l.getD k.toNat rcZ.t).2.1< (l.getD (i64.wrap (k-1)).toNat rcZ.t).2.1) (.req (0≤k&&k< (↑l.length:Int)) (.req (k.toNat<l.length) (.req (0≤i64.wrap (k-1)&&i64.wrap (k-1)< (↑l.length:Int)) (.req ((i64.wrap (k-1)).toNat<l.length) (.req (0≤k&&k< (↑l.length:Int)) (.req (k.toNat<l.length) (.req (0≤i64.wrap (k-1)&&i64.wrap (k-1)< (↑(l.set k.toNat (l.getD (i64.wrap (k-1)).toNat rcZ.t)).length:Int)) (.req ((i64.wrap (k-1)).toNat< (l.set k.toNat (l.getD (i64.wrap (k-1)).toNat rcZ.t)).length) (.leaf (.at (v5 pP 196 1) 88 (j9 88 [(1,.ptr 0 0),(3,SV.row 1),(4,J i),(7,J (i64.wrap (k-1)))]) [some (.cells f.cells),some (.rows xW5 ((l.set k.toNat (l.getD (i64.wrap (k-1)).toNat rcZ.t)).set (i64.wrap (k-1)).toNat (l.getD k.toNat rcZ.t)))])))))))))) (.leaf (.at (v5 pP 196 0) 88 (j9 88 [(1,.ptr 0 0),(3,SV.row 1),(4,J (i64.wrap (i+1))),(7,J k)]) [some (.cells f.cells),some (.rows xW5 l)]))))))) (.leaf (.at (v5 pP 196 0) 88 (j9 88 [(1,.ptr 0 0),(3,SV.row 1),(4,J (i64.wrap (i+1))),(7,J k)]) [some (.cells f.cells),some (.rows xW5 l)]))
theorem ra2(f:Fl)(l:List RT)(i k:Int):w9 (Env.of pP (v7 [])) 1000 (j8 pP 196) xW5 (x9 88 [1,3,4,7]) (v5 pP 196 1) yW0 (j9 88 [(1,.ptr 0 0),(3,.row 1),(4,J i),(7,J k)]) [some (.cells f.cells),some (.rows xW5 l)] =yW1 f l i k:=by kernel_rfl
theorem qT0:Known pP (Env.of pP (v7 [z55])):=kW (l:=[z55]) ⟨yk8,trivial⟩
theorem qT2:Known pP (Env.of pP (v7 [z65])):=kW (l:=[z65]) ⟨yl8,trivial⟩
abbrev slA(i:Int):List SV:=j9 88 [(1,.ptr 0 0),(3,.row 1),(4,J i)]
abbrev bxA(f:Fl)(l:List Rc):List (Option Box):=[some (.cells f.cells),some (.rows xW5 (l.map Rc.t))]
theorem q28{l:List Rc}{i:Nat}(h:i<l.length):(l.map Rc.t).getD i rcZ.t=(l.getD i rcZ).t:=by
 rw[List.getD_eq_getElem?_getD,List.getElem?_map,List.getD_eq_getElem?_getD,List.getElem?_eq_getElem h];rfl
theorem xy1{α:Type}:∀ (A:List α) (x y:α) (B:List α),(A++x::B).set A.length y=A++y::B
 |[],_,_,_=>rfl
 |a::A,x,y,B=>congrArg (a::·) (xy1 A x y B)
theorem qv1{f:Fl}{v:SV}{l:List Rc}{i k:Int}(h:b9 pP (j8 pP 196) v (v5 pP 196 0) (slA i) (bxA f l)):b9 pP (j8 pP 196) v (v5 pP 196 0) (j9 88 [(1,.ptr 0 0),(3,.row 1),(4,J i),(7,J k)]) (bxA f l):=by
 have e:j9 88 [(1,.ptr 0 0),(3,.row 1),(4,J i),(7,.top)] =slA i:=rfl;rw[←e]at h;exact y89 false [] (slots':=j9 88 [(1,.ptr 0 0),(3,.row 1),(4,J i),(7,.top)]) (boxes':=bxA f l) (xz7 ⟨rfl,.same _,rfl,.same _,rfl,.same _,rfl,.top _,trivial⟩) ⟨by simp,.same _,by simp,.same _,rfl⟩ h
theorem yW2(f:Fl)(v:SV)(hv:v.data=true)(r:Rc)(i:Int)(hi:0≤i∧i≤1000):∀ (n:Nat) (A B:List Rc),A.length=n→n≤1000→zr0 (A++B)→(∀x∈B,r.seq<x.seq)→
  b9 pP (j8 pP 196) v (v5 pP 196 0) (slA (i+1)) (bxA f (qM6 r (A++B)))→
  b9 pP (j8 pP 196) v (v5 pP 196 1) (j9 88 [(1,.ptr 0 0),(3,.row 1),(4,J i),(7,J n)]) (bxA f (A++r::B))
 |n,A,B,hn,hl,ha,hb,h=>by
  have w1:i64.wrap (i+1)=i+1:=w64 (by omega) (by omega);refine w6 qS2 (n:=1000) (hint:=xW5) (keep:=x9 88 [1,3,4,7]) (p:=yW0) hv ?_;erw [ra2 f ((A++r::B).map Rc.t) i n];unfold yW1;rw[w1]
  match n,hn with
  |0,hn=>
   have:A=[] :=List.length_eq_zero_iff.1 hn;subst this
   refine o5 (fun k=>absurd k (by omega)) fun _=>⟨o9 _ _,qv1 ?_⟩
   have e:qM6 r ([] ++B)=[] ++r::B:=qM8 (a:=[]) (b:=B) ha (fun x hx=>by cases hx) hb;rw[e]at h;exact h
  |m+1,hn=>
   obtain⟨A',x,rfl⟩:∃A' x,A=A'++[x] :=⟨A.dropLast,A.getLast (by intro e;rw[e]at hn;cases hn),(List.dropLast_concat_getLast _).symm⟩
   have hA:A'.length=m:=by simpa using hn
   have w2:i64.wrap (((m+1:Nat):Int)-1)=(m:Int):=by rw[w64 (by omega) (by omega)];omega
   have t1:(((m+1:Nat):Int)).toNat=m+1:=by omega
   have t2:((m:Int)).toNat=m:=by omega
   have len:(A'++[x] ++r::B).length=m+1+1+B.length:=by simp[hA];omega
   have g1:(A'++[x] ++r::B).getD (m+1) rcZ=r:=by
    rw[List.getD_eq_getElem?_getD,List.getElem?_append_right (by simp;omega)];simp[hA]
   have g2:(A'++[x] ++r::B).getD m rcZ=x:=by
    rw[List.append_assoc,List.getD_eq_getElem?_getD,List.getElem?_append_right (by omega)];simp[hA]
   have G:∀j,j< (A'++[x] ++r::B).length→((A'++[x] ++r::B).map Rc.t).getD j rcZ.t=((A'++[x] ++r::B).getD j rcZ).t:=fun j hj=>q28 hj
   have L:((A'++[x] ++r::B).map Rc.t).length=m+1+1+B.length:=by rw[List.length_map,len]
   rw[w2,t1,t2,G _ (by omega),G _ (by omega),g1,g2]
   have sets:(((A'++[x] ++r::B).map Rc.t).set (m+1) x.t).set m r.t=(A'++r::(x::B)).map Rc.t:=by
    rw[←List.map_set,←List.map_set]
    congr 1
    have e1:=xy1 (A'++[x]) r x B;rw[show(A'++[x]).length=m+1 by simp[hA]]at e1;have e2:=xy1 A' x r (x::B);rw[hA]at e2;rw[e1,show A'++[x] ++x::B=A'++x::x::B by simp,e2]
   have q:∀b:Nat,b<m+1+1+B.length→(0≤((b:Nat):Int)&&((b:Nat):Int)< (((A'++[x] ++r::B).map Rc.t).length:Int))=true:=fun b hb=>by rw[L];simp;omega
   have q2:∀b:Nat,b<m+1+1+B.length→decide (b< ((A'++[x] ++r::B).map Rc.t).length)=true:=fun b hb=>decide_eq_true (by rw[L];exact hb)
   refine o5 (fun _=>x6 (q _ (by omega)) (x6 (q2 _ (by omega)) (x6 (q _ (by omega)) (x6 (q2 _ (by omega)) (o5 (fun c=>?_) fun c=>?_))))) fun k=>absurd (by omega) k
   ·refine x6 (q _ (by omega)) (x6 (q2 _ (by omega)) (x6 (q _ (by omega)) (x6 (q2 _ (by omega)) (x6 (q _ (by omega)) (x6 (q2 _ (by omega)) (x6 ?_ (x6 ?_ ⟨o9 _ _,?_⟩)))))))
    ·rw[List.length_set];exact q _ (by omega)
    ·rw[List.length_set];exact q2 _ (by omega)
    ·rw[sets]
     refine yW2 f v hv r i hi m A' (x::B) hA (by omega) (by simpa using ha) (fun y hy=>?_) (by simpa using h);rcases List.mem_cons.1 hy with rfl|hy
     ·exact c
     ·exact hb y hy
   ·refine⟨o9 _ _,qv1 ?_⟩
    have le:∀y∈A'++[x],y.seq≤r.seq:=fun y hy=>by
     have c':¬r.seq<x.seq:=c
     have asc:∀ (a b:List Rc),zr0 (a++b)→∀y∈a,∀z∈b,y.seq≤z.seq:=by
      intro a b
      induction a with
      |nil=>intro _ y hy;cases hy
      |cons w a ih=>
       intro h y hy z hz;rcases List.mem_cons.1 hy with rfl|hy
       ·exact h.1 z (List.mem_append_right _ hz)
       ·exact ih h.2 y hy z hz
     rcases List.mem_append.1 hy with hy|hy
     ·have:=asc A' ([x] ++B) (by simpa using ha) y hy x (by simp)
      omega
     ·rcases List.mem_cons.1 hy with rfl|hy
      ·omega
      ·cases hy
    rw[qM8 ha le hb]at h;exact h
def zo0(n:Int)(acc:List Rc)(i:Nat)(l:List (List UInt8)):List Rc:=(yZ3 n i l).foldl (fun acc r=>qM6 r acc) acc
theorem zo1{n:Int}{acc:List Rc}{i:Nat}{s:List UInt8}{l:List (List UInt8)}(h:yY3 n i s=none):zo0 n acc i (s::l)=zo0 n acc (i+1) l:=by
 unfold zo0;rw[yZ4,h]
theorem zo2{n:Int}{acc:List Rc}{i:Nat}{s:List UInt8}{l:List (List UInt8)}{r:Rc}(h:yY3 n i s=some r):zo0 n acc i (s::l)=zo0 n (qM6 r acc) (i+1) l:=by
 unfold zo0;rw[yZ4,h];rfl
theorem yW3(f:Fl)(hl:f.pages.length≤1000)(hp:∀p∈f.pages,p.length=64):∀ (k i:Nat) (acc L:List Rc),i+k=f.pages.length→zr0 acc→acc.length≤i→L=zo0 f.pages.length acc i (f.pages.drop i)→
  b9 pP (j8 pP 196) (LR L) (v5 pP 196 0) (slA i) (bxA f acc)
 |k,i,acc,L,hi,ha,hn,hL=>by
  have w1:i64.wrap ((i:Int)+1)=(i:Int)+1:=w64 (by omega) (by omega)
  have t0:(i:Int).toNat=i:=by omega
  refine w6 qT0 (n:=1000) (hint:=xW5) (keep:=x9 88 [1,3,4,7]) (p:=yV8) rfl ?_;erw [ra1 f (acc.map Rc.t) i];unfold yV9;rw[w1,t0]
  match k,hi with
  |0,hi=>
   refine o5 (fun a=>absurd a (by omega)) fun _=>?_
   have z:f.pages.drop i=[] :=List.drop_eq_nil_of_le (by omega);rw[z]at hL;have hL:L=acc:=hL;subst hL;rfl
  |k+1,hi=>
   have hip:i<f.pages.length:=by omega
   have p64:(f.pages.getD i ([] :List UInt8)).length=64:=by
    rw[List.getD_eq_getElem?_getD,List.getElem?_eq_getElem hip];exact hp _ (List.getElem_mem hip)
   rw[zU7 (d:=([] :List UInt8)) hip]at hL
   have nx:((i:Int)+1)=((i+1:Nat):Int):=by omega
   have skip:yY3 f.pages.length i (f.pages.getD i ([] :List UInt8))=none→b9 pP (j8 pP 196) (LR L) (v5 pP 196 0) (slA ((i:Int)+1)) (bxA f acc):=fun e=>by
    rw[zo1 e]at hL;rw[nx];exact yW3 f hl hp k (i+1) acc L (by omega) ha (by omega) hL
   have nz:(!(((f.pages.length:Nat):Int)==0))=true:=by
    rw[Bool.not_eq_true',beq_eq_false_iff_ne];omega
   refine o5 (fun _=>x6 (by simp;omega) (x6 (decide_eq_true (by rw[p64];omega)) (o5 (fun c=>absurd c (by rw[p64];omega)) fun _=>f4 (fun b=>x6 nz (q96 (fun c=>?_) fun c=>x6 (decide_eq_true ?_) ?_)) fun b=>?_))) fun a=>absurd (by omega) a
   ·refine⟨o9 _ _,skip ?_⟩
    cases e:yY3 f.pages.length i (f.pages.getD i ([] :List UInt8))with
    |none=>rfl
    |some r=>exact absurd (yY4.1 e).2.1 c
   ·rw[List.length_map]
    show(acc.length+1)*96≤_;omega
   ·have e:yY3 f.pages.length i (f.pages.getD i ([] :List UInt8))=some (n8 (f.pages.getD i ([] :List UInt8))):=yY4.2 ⟨b,c,rfl⟩
    rw[zo2 e]at hL
    have el:(acc.map Rc.t)++[(n8 (f.pages.getD i ([] :List UInt8))).t] =(acc++n8 (f.pages.getD i ([] :List UInt8))::[]).map Rc.t:=by rw[List.map_append];rfl
    have len:(((acc.map Rc.t++[(n8 (f.pages.getD i ([] :List UInt8))).t]).length:Nat):Int)-1=(acc.length:Int):=by
     rw[List.length_append,List.length_map];show(((acc.length+1:Nat)):Int)-1=_;omega
    rw[len,w64 (by omega) (by omega),el];refine⟨o9 _ _,?_⟩;refine yW2 f (LR L) rfl (n8 (f.pages.getD i ([] :List UInt8))) i (by omega) acc.length acc [] rfl (by omega) (by rw[List.append_nil];exact ha) (fun x hx=>by cases hx) ?_;rw[List.append_nil,nx];refine yW3 f hl hp k (i+1) (qM6 (n8 (f.pages.getD i ([] :List UInt8))) acc) L (by omega) (qM7 _ _ ha) ?_ hL;rw[(qM9 _ acc).length_eq,List.length_cons];omega
   ·refine⟨o9 _ _,skip ?_⟩
    cases e:yY3 f.pages.length i (f.pages.getD i ([] :List UInt8))with
    |none=>rfl
    |some r=>have:=(yY4.1 e).1;rw[this]at b;cases b
theorem xb0(f:Fl)(h:o6 f=true):SCall pP 196 [f.sv] (LR (zo3 f)):=by
 have hl:f.pages.length≤1000:=of_decide_eq_true h;refine m6 rfl rfl (by kernel_rfl) (w6 qT2 (n:=1000) (hint:=xW5) (keep:=x9 88 [1,3,4,7]) (p:=yV6) (boxes:=[]) rfl ?_);have q:=ra0 f;unfold u7 u9 at q;erw [q];unfold yV7;refine x6 h (f9 (fun b=>?_) fun b=>f4 (fun d=>?_) fun d=>⟨o9 _ _,?_⟩)
 ·have:zo3 f=[] :=by unfold zo3;rw[b];rfl
  rw[this];rfl
 ·have:zo3 f=[] :=by unfold zo3;rw[b,d];rfl
  rw[this];rfl
 ·have e:zo3 f=zo0 f.pages.length [] 0 (f.pages.drop 0):=by unfold zo3;rw[b,d];rfl
  have r:=yW3 f hl (qt3.1 b).1 f.pages.length 0 [] (zo3 f) (by omega) trivial (Nat.le_refl _) e;exact y89 true [] (slots':=j9 88 [(1,.ptr 0 0),(3,.row 1),(4,J 0),(7,.top)]) (boxes':=bxA f []) (xz7 ⟨rfl,.same _,rfl,.nil rfl,rfl,.same _,rfl,.top _,trivial⟩) ⟨by simp,.same _,trivial⟩ r
def z36:Fact:=qh8 196 fun f=>.req (o6 f) (.leaf (LR (zo3 f)))
theorem yi2:z36.ok pP:=qi7 fun f h=>xb0 f h
def qU3(f:Fl):Rc:=(lastO f).getD rcZ
def qU8(f:Fl):SV:=.tuple [(qU3 f).sv,.bool (lastO f).isSome]
def apV(f:Fl)(r:Rc):SV:=.tuple [(apF f r).sv,J (apE f r)]
theorem qU6(f:Fl):qU5 f=(qU3 f).seq:=by unfold qU5 qU3;cases lastO f<;>rfl
def qi5(g:FuncId)(h:Fl→Rc→Tree SV):Fact:=⟨g,fun args=>match args with
 |[.agg [.list .str p,.int .i64 a,.bool d,.int .i64 k],.agg [.int .i64 r0,.int .i64 r1,.int .i64 r2,.int .i64 r3,.int .i64 p0,.int .i64 p1,.int .i64 p2,.int .i64 p3,.int .i64 q0,.int .i64 q1,.int .i64 q2,.int .i64 q3]] =>some (h ⟨p,a,d,k⟩ ⟨r0,r1,r2,r3,(p0,p1,p2,p3),(q0,q1,q2,q3)⟩)
 |_=>none⟩
theorem qi6{P:Program}{g:FuncId}{h:Fl→Rc→Tree SV}(k:∀c r,(h c r).says (SCall P g [c.sv,r.sv])):(qi5 g h).ok P:=fun args t ht=>by
 simp only[qi5]at ht
 split at ht
 ·cases ht;exact k ⟨_,_,_,_⟩ ⟨_,_,_,_,(_,_,_,_),(_,_,_,_)⟩
 ·cases ht
def z93:Fact:=qh8 103 fun f=>.req (o6 f) (.leaf (qU8 f))
def z94:Fact:=qh8 110 fun f=>.req (o6 f) (.leaf (qU8 f))
def fAp:Fact:=qi5 202 fun f r=>.req (o6 f) (.leaf (apV f r))
def z37:Fact:=qi5 101 fun f r=>.req (o6 f) (.leaf (apV f r))
theorem yZ6{n:Int}:∀{l:List (List UInt8)} {i:Nat},(yZ3 n i l).length≤l.length
 |[],i=>Nat.le_refl _
 |s::l,i=>by
  have:=@yZ6 n l (i+1);rw[yZ4]
  split<;>simp<;>omega
theorem zo4(f:Fl):(zo3 f).length≤f.pages.length:=by
 unfold zo3
 split
 ·rw[(xA5 _).length_eq];exact yZ6
 ·simp
theorem zo5{f:Fl}{r:Rc}(h:r∈zo3 f):rcB r=true:=by
 unfold zo3 at h
 split at h
 ·obtain⟨j,_,hj⟩:=q45.1 ((xA5 _).mem_iff.1 h)
  obtain⟨h1,_,rfl⟩:=yY4.1 hj;exact(zQ2.1 h1).1
 ·cases h
theorem qU4(f:Fl):0≤(qU3 f).seq∧(qU3 f).seq≤1099511627776:=by
 unfold qU3
 cases h:lastO f with
 |none=>exact⟨Int.le_refl _,by decide⟩
 |some r=>
  have:=yW5.1 (zo5 (List.mem_of_getLast? h));exact⟨by show 0≤r.seq;omega,this.2.1.2⟩
theorem qU9{f:Fl}(h:zo3 f=[]):qU8 f=.tuple [rcZ.sv,.bool false] :=by
 unfold qU8 qU3 lastO;rw[h];rfl
theorem qV0{f:Fl}{A:List Rc}{x:Rc}(h:zo3 f=A++[x]):qU8 f=.tuple [x.sv,.bool true] :=by
 unfold qU8 qU3 lastO;rw[h,List.getLast?_concat];rfl
theorem zp2{f:Fl}{r:Rc}(h:rcB r=false∨flB f=false):apV f r=.tuple [f.sv,J 1] :=by
 have e:(rcB r&&flB f)=false:=by rcases h with h|h<;>simp[h]
 unfold apV apF apE;rw[e];rfl
theorem zp3{f:Fl}{r:Rc}(h:rcB r=true)(k:flB f=true)(d:f.dead=true):apV f r=.tuple [f.sv,J 17] :=by
 unfold apV apF apE;rw[h,k,d];rfl
theorem zp5{f:Fl}{r:Rc}(h:rcB r=true)(k:flB f=true)(d:f.dead=false)(s:¬r.seq=qU5 f+1):apV f r=.tuple [f.sv,J 11] :=by
 have e:(r.seq==qU5 f+1)=false:=by simpa using s
 unfold apV apF apE;rw[h,k,d,e];rfl
theorem zp4{f:Fl}{r:Rc}(h:rcB r=true)(k:flB f=true)(d:f.dead=false)(s:r.seq=qU5 f+1):apV f r=wrV f (r.seq.tmod f.pages.length) (enc r):=by
 have e:(r.seq==qU5 f+1)=true:=by simpa using s
 unfold apV apF apE wrV;rw[h,k,d,e];rfl
theorem xi3(f:Fl)(h:o6 f=true):SCall pP 110 [f.sv] (qU8 f):=
 o8 mix [z36] ⟨yi2,trivial⟩ 1000 (.fork (.all) (.all))
  (t:=let y1:=(↑(List.map Rc.t (zo3 f)).length:Int);let y0:=(List.map Rc.t (zo3 f)).getD (i64.wrap (y1-1)).toNat rcZ.t;.req (o6 f) (.node (y1==0) (.leaf (.tuple [.agg [J 0,J 0,J 0,J 0,J 0,J 0,J 0,J 0,J 0,J 0,J 0,J 0],.bool false])) (.req (0≤i64.wrap (y1-1)&&i64.wrap (y1-1)<y1) (.leaf (.tuple [.agg [J y0.1,J y0.2.1,J y0.2.2.1,J y0.2.2.2.1,J y0.2.2.2.2.1.1,J y0.2.2.2.2.1.2.1,J y0.2.2.2.2.1.2.2.1,J y0.2.2.2.2.1.2.2.2,J y0.2.2.2.2.2.1,J y0.2.2.2.2.2.2.1,J y0.2.2.2.2.2.2.2.1,J y0.2.2.2.2.2.2.2.2],.bool true])))))
  (by kernel_rfl) (by
   refine x6 h (q95 (fun e=>?_) fun e=>?_)
   ·have e:zo3 f=[] :=by
     rw[List.length_map]at e;exact List.eq_nil_of_length_eq_zero (by omega)
    rw[qU9 e];rfl
   ·have hl:f.pages.length≤1000:=of_decide_eq_true h
    have len:=zo4 f;rw[List.length_map]at e ⊢;have w:i64.wrap (((zo3 f).length:Int)-1)=((zo3 f).length:Int)-1:=w64 (by omega) (by omega);rw[w];obtain⟨A,x,hA⟩:∃A x,zo3 f=A++[x] :=⟨(zo3 f).dropLast,(zo3 f).getLast (by intro k;rw[k]at e;exact e rfl),(List.dropLast_concat_getLast _).symm⟩
    have g:((zo3 f).map Rc.t).getD (((zo3 f).length:Int)-1).toNat rcZ.t=x.t:=by
     rw[q28 (by omega),hA]
     have:((((A++[x]).length:Nat):Int)-1).toNat=A.length:=by simp
     rw[this,List.getD_eq_getElem?_getD,List.getElem?_append_right (Nat.le_refl _)];simp
    rw[g,qV0 hA]
    exact x6 (by simp;omega) rfl) (by kernel_rfl) (by kernel_rfl)
theorem yo5:z94.ok pP:=qi7 fun f h=>xi3 f h
theorem xb2(f:Fl)(r:Rc)(h:o6 f=true):SCall pP 101 [f.sv,r.sv] (apV f r):=
 o8 mix [z60,z65,z94,qg4] ⟨yl3,yl8,yo5,yx1,trivial⟩ 1000 (.fork (.ln 4 (.fork .all (.fork .all (.fork .all .all)))) (.ln 4 (.lit .all)))
  (t:=let y0:=wrF f (r.seq.tmod (↑f.pages.length:Int)) (enc r);.node (rcB r) (.req (o6 f) (.node (!flB f) (.leaf (.tuple [.agg f.cells,J 1])) (.node (f.dead) (.leaf (.tuple [.agg f.cells,J 17])) (.req (o6 f) (.node (r.seq != i64.wrap ((qU3 f).seq+1)) (.leaf (.tuple [.agg f.cells,J 11])) (.req (!(↑f.pages.length:Int)==0) (.req (o6 f) (.req ((enc r).length≤100000) (.leaf (.tuple [.agg [.list Ty.str y0.pages,J y0.fuse,.bool y0.dead,J y0.keep],J (wrE f (r.seq.tmod (↑f.pages.length:Int)) (enc r))])))))))))) (.leaf (.tuple [.agg f.cells,J 1])))
  (by kernel_rfl) (by
   have w:i64.wrap ((qU3 f).seq+1)=qU5 f+1:=by rw[qU6,w64 (by have:=qU4 f;omega) (by have:=qU4 f;omega)]
   rw[w]
   refine f4 (fun a=>x6 h (f9 (fun b=>(zp2 (.inr b)).symm) fun b=>f4 (fun d=>(zp3 a b d).symm) fun d=>x6 h (q96 (fun s=>(zp5 a b d s).symm) fun s=>x6 ?_ (x6 h (x6 (by rw[zZ5];rfl) ?_))))) fun a=>(zp2 (.inl a)).symm
   ·have:=(qt3.1 b).2.1
    rw[Bool.not_eq_true',beq_eq_false_iff_ne];omega
   ·rw[zp4 a b d s];rfl) (by kernel_rfl) (by kernel_rfl)
theorem yi4:z37.ok pP:=qi6 fun f r h=>xb2 f r h
def yX1:Plan:=.fork (.all) (.all)
noncomputable def yX2(f:Fl)(r:Rc):Tree StopX:= .req (o6 f) (.req (o6 f) (.node (apE f (Rc.mk r.kind (i64.wrap ((qU3 f).seq+1)) r.line r.done r.src r.dst) != 0) (.leaf (.fin (.pan (SV.raw (Value.iface 200 (Value.agg (Array.mk [])))) [some (.cells [.list Ty.str (apF f (Rc.mk r.kind (i64.wrap ((qU3 f).seq+1)) r.line r.done r.src r.dst)).pages,J (apF f (Rc.mk r.kind (i64.wrap ((qU3 f).seq+1)) r.line r.done r.src r.dst)).fuse,.bool (apF f (Rc.mk r.kind (i64.wrap ((qU3 f).seq+1)) r.line r.done r.src r.dst)).dead,J (apF f (Rc.mk r.kind (i64.wrap ((qU3 f).seq+1)) r.line r.done r.src r.dst)).keep])]))) (.leaf (.fin (.ret (.tuple []) [some (.cells [.list Ty.str (apF f (Rc.mk r.kind (i64.wrap ((qU3 f).seq+1)) r.line r.done r.src r.dst)).pages,J (apF f (Rc.mk r.kind (i64.wrap ((qU3 f).seq+1)) r.line r.done r.src r.dst)).fuse,.bool (apF f (Rc.mk r.kind (i64.wrap ((qU3 f).seq+1)) r.line r.done r.src r.dst)).dead,J (apF f (Rc.mk r.kind (i64.wrap ((qU3 f).seq+1)) r.line r.done r.src r.dst)).keep])])))))
theorem rcX(f:Fl)(r:Rc):xx1 (Env.ofB pP (v7 [z93,fAp]) (d7 []) (d9 []) (d8 []) (x8 []) (x8 []) (x8 []) (x8 [])) 1000 (j8 pP 119) 1 (x9 37 []) (u9 pP 119) yX1 (u7 pP 119 [.ptr 0 0,r.sv]) [some (.cells f.cells)] =yX2 f r:=by kernel_rfl
abbrev qo5:SV:=.raw (.iface 200 (.agg (Array.mk [])))
def zt5:BFact:=⟨119,fun args B=>match args with
 |[.agg [.int .i64 r0,.int .i64 r1,.int .i64 r2,.int .i64 r3,.int .i64 p0,.int .i64 p1,.int .i64 p2,.int .i64 p3,.int .i64 q0,.int .i64 q1,.int .i64 q2,.int .i64 q3]] =>match B with
  |.cells [.list .str p,.int .i64 a,.bool d,.int .i64 k] =>some (.req (o6 ⟨p,a,d,k⟩) (.node (yY5 ⟨p,a,d,k⟩ ⟨r0,r1,r2,r3,(p0,p1,p2,p3),(q0,q1,q2,q3)⟩==0)
    (.leaf (false,.tuple [],.cells (t8 ⟨p,a,d,k⟩ ⟨r0,r1,r2,r3,(p0,p1,p2,p3),(q0,q1,q2,q3)⟩).cells))
    (.leaf (true,qo5,.cells (t8 ⟨p,a,d,k⟩ ⟨r0,r1,r2,r3,(p0,p1,p2,p3),(q0,q1,q2,q3)⟩).cells))))
  |_=>none
 |_=>none⟩
end Go.Proofs.YtnkaepnblikcdaaGreat
