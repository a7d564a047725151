/-
  H4: the segments of LinkEnds. Written by gen.py.
  H1: the segments of the laws on the wire. Written by gen.py.
  H3: LinkOnce: whatever happens, the device accepts the host's lines in their order.
  H5: LinkEnds: if nothing is lost or spoilt from some time on, all lines arrive.
  H6: LinkEnds: the moves, and the law.
  LinkEnds: the statement out of the contract. Written by shell.py.
-/
import Derived.Test.YtibpodgdondakaaZE7
import Derived.Test.YtibpodgdondakaaRows
import Derived.OpenShut
import Derived.ShutString
import Derived.ChangeOld
import Derived.Below
set_option linter.unusedSimpArgs false
set_option linter.unusedVariables false
set_option maxRecDepth 100000
namespace Go.Proofs.Ytibpodgdondakaa
open Go.Sx
def le0_p : Plan := .fork (.all) (.all)
noncomputable def le0_t (ls : List (List UInt8)) (win : Int) (l : List MvT) : Tree Stop :=
   .req (smallsB (fewL (Ho.mk ls 0 0 0 0 0).ls)) (.node ((staV (fewL (Ho.mk ls 0 0 0 0 0).ls) win).snd != 0)
  (.leaf (Stop.done (SV.bool true)))
  (.leaf (Stop.at (loopOf Try.prog 9 0) 87 (slotsS 87 [(2, SV.list Mv l), (7, SV.ptr 0 0), (9, SV.ptr 1 0), (10, I64 0), (11, SV.undef)]) [some (Box.cells [SV.list Ty.str (staV (fewL (Ho.mk ls 0 0 0 0 0).ls) win).fst.ls, I64 (staV (fewL (Ho.mk ls 0 0 0 0 0).ls) win).fst.ba, I64 (staV (fewL (Ho.mk ls 0 0 0 0 0).ls) win).fst.ne, I64 (staV (fewL (Ho.mk ls 0 0 0 0 0).ls) win).fst.wi, I64 (staV (fewL (Ho.mk ls 0 0 0 0 0).ls) win).fst.re, I64 (staV (fewL (Ho.mk ls 0 0 0 0 0).ls) win).fst.se]), some (Box.cells [SV.list Ty.str (staV (fewL (Ho.mk ls 0 0 0 0 0).ls) win).fst.ls, I64 (staV (fewL (Ho.mk ls 0 0 0 0 0).ls) win).fst.ba, I64 (staV (fewL (Ho.mk ls 0 0 0 0 0).ls) win).fst.ne, I64 (staV (fewL (Ho.mk ls 0 0 0 0 0).ls) win).fst.wi, I64 (staV (fewL (Ho.mk ls 0 0 0 0 0).ls) win).fst.re, I64 (staV (fewL (Ho.mk ls 0 0 0 0 0).ls) win).fst.se, I64 1, SV.nilS, SV.nilS])])))
theorem le0 (ls : List (List UInt8)) (win : Int) (l : List MvT) : segR (Env.ofR Try.prog (sumOf [fFew, fSta, fSnd, fAnsH, fRecv, fAga, fAwake]) (wrOf [wDel]) (rdOf [18, 20, 22])) 1000 (fnOf Try.prog 9) .unit (keepS 87 [2,7,9,10,11]) (codeS Try.prog 9) le0_p (startS Try.prog 9 [.list .str ls, I64 win, .list Mv l]) [] = le0_t ls win l := by kernel_rfl
def le1_p : Plan := .fork (.lit (.lit (.fork (.fork (.fork (.lit (.lit (.lit (.lit (.lit (.lit (.fork (.all) (.all)))))))) (.lit (.lit (.lit (.lit (.lit (.lit (.lit (.all))))))))) (.fork (.fork (.lit (.lit (.lit (.lit (.fork (.lit (.all)) (.lit (.fork (.all) (.lit (.fork (.fork (.all) (.all)) (.fork (.all) (.all))))))))))) (.lit (.lit (.lit (.lit (.lit (.lit (.all)))))))) (.fork (.fork (.lit (.lit (.lit (.lit (.fork (.lit (.all)) (.lit (.fork (.all) (.lit (.all))))))))) (.lit (.lit (.lit (.lit (.lit (.lit (.all)))))))) (.fork (.fork (.lit (.lit (.lit (.lit (.fork (.lit (.lit (.lit (.lit (.lit (.all)))))) (.fork (.lit (.lit (.lit (.lit (.lit (.all)))))) (.lit (.fork (.all) (.lit (.lit (.lit (.lit (.fork (.all) (.all)))))))))))))) (.lit (.lit (.lit (.lit (.lit (.lit (.lit (.lit (.lit (.lit (.all)))))))))))) (.fork (.fork (.lit (.lit (.lit (.lit (.fork (.lit (.all)) (.fork (.lit (.lit (.lit (.lit (.lit (.lit (.lit (.lit (.all))))))))) (.lit (.lit (.lit (.lit (.lit (.lit (.fork (.lit (.all)) (.lit (.fork (.all) (.lit (.all))))))))))))))))) (.lit (.lit (.lit (.lit (.lit (.lit (.all)))))))) (.fork (.all) (.all))))))) (.lit (.lit (.lit (.lit (.lit (.fork (.all) (.all)))))))))) (.lit (.lit (.lit (.lit (.lit (.lit (.lit (.lit (.fork (.all) (.all))))))))))
noncomputable def le1_t (l : List MvT) (h g : Ho) (w : Int) (n : List PkT) (o : List (List UInt8)) (i : Int) : Tree Stop :=
   .node (decide (i < (l.length : Int)))
 (.node (decide (i < 40))
  (.req (decide (0 ≤ i) && decide (i < (l.length : Int))) (.node ((mg l i).fst == 0)
    (.req (smallsB g.ls) (.node (sndB g)
      (.node (decide ((n.length : Int) < 30))
       (.req (decide ((n.length + [(false, sndT g, false)].length) * 32 ≤ 140737488355328)) (.leaf (Stop.at (loopOf Try.prog 9 0) 87 (slotsS 87 [(2, SV.list Mv l), (7, SV.ptr 0 0), (9, SV.ptr 1 0), (10, I64 (IntKind.i64.wrap (i + 1)))]) [some (Box.cells [SV.list Ty.str h.ls, I64 h.ba, I64 h.ne, I64 h.wi, I64 h.re, I64 h.se]), some (Box.cells [SV.list Ty.str (sndV g).ls, I64 (sndV g).ba, I64 (sndV g).ne, I64 (sndV g).wi, I64 (sndV g).re, I64 (sndV g).se, I64 w, SV.row 2, SV.row 3]), some (Box.rows Pk (n ++ [(false, sndT g, false)])), some (Box.rows Ty.str o)])))
       (.leaf (Stop.at (loopOf Try.prog 9 0) 87 (slotsS 87 [(2, SV.list Mv l), (7, SV.ptr 0 0), (9, SV.ptr 1 0), (10, I64 (IntKind.i64.wrap (i + 1)))]) [some (Box.cells [SV.list Ty.str h.ls, I64 h.ba, I64 h.ne, I64 h.wi, I64 h.re, I64 h.se]), some (Box.cells [SV.list Ty.str (sndV g).ls, I64 (sndV g).ba, I64 (sndV g).ne, I64 (sndV g).wi, I64 (sndV g).re, I64 (sndV g).se, I64 w, SV.row 2, SV.row 3]), some (Box.rows Pk n), some (Box.rows Ty.str o)])))
      (.leaf (Stop.at (loopOf Try.prog 9 0) 87 (slotsS 87 [(2, SV.list Mv l), (7, SV.ptr 0 0), (9, SV.ptr 1 0), (10, I64 (IntKind.i64.wrap (i + 1)))]) [some (Box.cells [SV.list Ty.str h.ls, I64 h.ba, I64 h.ne, I64 h.wi, I64 h.re, I64 h.se]), some (Box.cells [SV.list Ty.str (sndV g).ls, I64 (sndV g).ba, I64 (sndV g).ne, I64 (sndV g).wi, I64 (sndV g).re, I64 (sndV g).se, I64 w, SV.row 2, SV.row 3]), some (Box.rows Pk n), some (Box.rows Ty.str o)]))))
    (.node ((mg l i).fst == 1)
     (.node (decide ((mg l i).snd.fst ≥ 0))
      (.node (!decide ((mg l i).snd.fst < (n.length : Int)))
       (.leaf (Stop.at (loopOf Try.prog 9 0) 87 (slotsS 87 [(2, SV.list Mv l), (7, SV.ptr 0 0), (9, SV.ptr 1 0), (10, I64 (IntKind.i64.wrap (i + 1)))]) [some (Box.cells [SV.list Ty.str h.ls, I64 h.ba, I64 h.ne, I64 h.wi, I64 h.re, I64 h.se]), some (Box.cells [SV.list Ty.str g.ls, I64 g.ba, I64 g.ne, I64 g.wi, I64 g.re, I64 g.se, I64 w, SV.row 2, SV.row 3]), some (Box.rows Pk n), some (Box.rows Ty.str o)]))
       (.req (decide (0 ≤ (mg l i).snd.fst) && decide ((mg l i).snd.fst < (n.length : Int))) (.req (!n.isEmpty) (.node (n.isEmpty)
          (.fail 113)
          (.req (decide ((0 + n.length) * 32 ≤ 140737488355328)) (.req (decide (0 ≤ (mg l i).snd.fst) && decide ((mg l i).snd.fst < (n.length : Int)) && IntKind.i64.wrap ((mg l i).snd.fst + 1) == (mg l i).snd.fst + 1) (.req (smallsB g.ls && small (pg n (mg l i).snd.fst).snd.fst) (.req (small (pg n (mg l i).snd.fst).snd.fst) (.node ((rcv w (pg n (mg l i).snd.fst).fst (pg n (mg l i).snd.fst).snd.fst).snd.snd.snd.snd)
               (.req (decide ((o.length + [(rcv w (pg n (mg l i).snd.fst).fst (pg n (mg l i).snd.fst).snd.fst).snd.fst].length) * 16 ≤ 140737488355328)) (.node ((rcv w (pg n (mg l i).snd.fst).fst (pg n (mg l i).snd.fst).snd.fst).snd.snd.fst)
                 (.req (decide (((er n (mg l i).snd.fst).length + [((rcv w (pg n (mg l i).snd.fst).fst (pg n (mg l i).snd.fst).snd.fst).snd.snd.fst, (rcv w (pg n (mg l i).snd.fst).fst (pg n (mg l i).snd.fst).snd.fst).snd.snd.snd.fst, false)].length) * 32 ≤ 140737488355328)) (.leaf (Stop.at (loopOf Try.prog 9 0) 87 (slotsS 87 [(2, SV.list Mv l), (7, SV.ptr 0 0), (9, SV.ptr 1 0), (10, I64 (IntKind.i64.wrap (i + 1)))]) [some (Box.cells [SV.list Ty.str h.ls, I64 h.ba, I64 h.ne, I64 h.wi, I64 h.re, I64 h.se]), some (Box.cells [SV.list Ty.str (ansV g (pg n (mg l i).snd.fst).fst (pg n (mg l i).snd.fst).snd.fst).ls, I64 (ansV g (pg n (mg l i).snd.fst).fst (pg n (mg l i).snd.fst).snd.fst).ba, I64 (ansV g (pg n (mg l i).snd.fst).fst (pg n (mg l i).snd.fst).snd.fst).ne, I64 (ansV g (pg n (mg l i).snd.fst).fst (pg n (mg l i).snd.fst).snd.fst).wi, I64 (ansV g (pg n (mg l i).snd.fst).fst (pg n (mg l i).snd.fst).snd.fst).re, I64 (ansV g (pg n (mg l i).snd.fst).fst (pg n (mg l i).snd.fst).snd.fst).se, I64 (rcv w (pg n (mg l i).snd.fst).fst (pg n (mg l i).snd.fst).snd.fst).fst, SV.row 2, SV.row 3]), some (Box.rows Pk (er n (mg l i).snd.fst ++ [((rcv w (pg n (mg l i).snd.fst).fst (pg n (mg l i).snd.fst).snd.fst).snd.snd.fst, (rcv w (pg n (mg l i).snd.fst).fst (pg n (mg l i).snd.fst).snd.fst).snd.snd.snd.fst, false)])), some (Box.rows Ty.str (o ++ [(rcv w (pg n (mg l i).snd.fst).fst (pg n (mg l i).snd.fst).snd.fst).snd.fst]))])))
                 (.leaf (Stop.at (loopOf Try.prog 9 0) 87 (slotsS 87 [(2, SV.list Mv l), (7, SV.ptr 0 0), (9, SV.ptr 1 0), (10, I64 (IntKind.i64.wrap (i + 1)))]) [some (Box.cells [SV.list Ty.str h.ls, I64 h.ba, I64 h.ne, I64 h.wi, I64 h.re, I64 h.se]), some (Box.cells [SV.list Ty.str (ansV g (pg n (mg l i).snd.fst).fst (pg n (mg l i).snd.fst).snd.fst).ls, I64 (ansV g (pg n (mg l i).snd.fst).fst (pg n (mg l i).snd.fst).snd.fst).ba, I64 (ansV g (pg n (mg l i).snd.fst).fst (pg n (mg l i).snd.fst).snd.fst).ne, I64 (ansV g (pg n (mg l i).snd.fst).fst (pg n (mg l i).snd.fst).snd.fst).wi, I64 (ansV g (pg n (mg l i).snd.fst).fst (pg n (mg l i).snd.fst).snd.fst).re, I64 (ansV g (pg n (mg l i).snd.fst).fst (pg n (mg l i).snd.fst).snd.fst).se, I64 (rcv w (pg n (mg l i).snd.fst).fst (pg n (mg l i).snd.fst).snd.fst).fst, SV.row 2, SV.row 3]), some (Box.rows Pk (er n (mg l i).snd.fst)), some (Box.rows Ty.str (o ++ [(rcv w (pg n (mg l i).snd.fst).fst (pg n (mg l i).snd.fst).snd.fst).snd.fst]))]))))
               (.node ((rcv w (pg n (mg l i).snd.fst).fst (pg n (mg l i).snd.fst).snd.fst).snd.snd.fst)
                (.req (decide (((er n (mg l i).snd.fst).length + [((rcv w (pg n (mg l i).snd.fst).fst (pg n (mg l i).snd.fst).snd.fst).snd.snd.fst, (rcv w (pg n (mg l i).snd.fst).fst (pg n (mg l i).snd.fst).snd.fst).snd.snd.snd.fst, false)].length) * 32 ≤ 140737488355328)) (.leaf (Stop.at (loopOf Try.prog 9 0) 87 (slotsS 87 [(2, SV.list Mv l), (7, SV.ptr 0 0), (9, SV.ptr 1 0), (10, I64 (IntKind.i64.wrap (i + 1)))]) [some (Box.cells [SV.list Ty.str h.ls, I64 h.ba, I64 h.ne, I64 h.wi, I64 h.re, I64 h.se]), some (Box.cells [SV.list Ty.str (ansV g (pg n (mg l i).snd.fst).fst (pg n (mg l i).snd.fst).snd.fst).ls, I64 (ansV g (pg n (mg l i).snd.fst).fst (pg n (mg l i).snd.fst).snd.fst).ba, I64 (ansV g (pg n (mg l i).snd.fst).fst (pg n (mg l i).snd.fst).snd.fst).ne, I64 (ansV g (pg n (mg l i).snd.fst).fst (pg n (mg l i).snd.fst).snd.fst).wi, I64 (ansV g (pg n (mg l i).snd.fst).fst (pg n (mg l i).snd.fst).snd.fst).re, I64 (ansV g (pg n (mg l i).snd.fst).fst (pg n (mg l i).snd.fst).snd.fst).se, I64 (rcv w (pg n (mg l i).snd.fst).fst (pg n (mg l i).snd.fst).snd.fst).fst, SV.row 2, SV.row 3]), some (Box.rows Pk (er n (mg l i).snd.fst ++ [((rcv w (pg n (mg l i).snd.fst).fst (pg n (mg l i).snd.fst).snd.fst).snd.snd.fst, (rcv w (pg n (mg l i).snd.fst).fst (pg n (mg l i).snd.fst).snd.fst).snd.snd.snd.fst, false)])), some (Box.rows Ty.str o)])))
                (.leaf (Stop.at (loopOf Try.prog 9 0) 87 (slotsS 87 [(2, SV.list Mv l), (7, SV.ptr 0 0), (9, SV.ptr 1 0), (10, I64 (IntKind.i64.wrap (i + 1)))]) [some (Box.cells [SV.list Ty.str h.ls, I64 h.ba, I64 h.ne, I64 h.wi, I64 h.re, I64 h.se]), some (Box.cells [SV.list Ty.str (ansV g (pg n (mg l i).snd.fst).fst (pg n (mg l i).snd.fst).snd.fst).ls, I64 (ansV g (pg n (mg l i).snd.fst).fst (pg n (mg l i).snd.fst).snd.fst).ba, I64 (ansV g (pg n (mg l i).snd.fst).fst (pg n (mg l i).snd.fst).snd.fst).ne, I64 (ansV g (pg n (mg l i).snd.fst).fst (pg n (mg l i).snd.fst).snd.fst).wi, I64 (ansV g (pg n (mg l i).snd.fst).fst (pg n (mg l i).snd.fst).snd.fst).re, I64 (ansV g (pg n (mg l i).snd.fst).fst (pg n (mg l i).snd.fst).snd.fst).se, I64 (rcv w (pg n (mg l i).snd.fst).fst (pg n (mg l i).snd.fst).snd.fst).fst, SV.row 2, SV.row 3]), some (Box.rows Pk (er n (mg l i).snd.fst)), some (Box.rows Ty.str o)]))))))))))))
      (.leaf (Stop.at (loopOf Try.prog 9 0) 87 (slotsS 87 [(2, SV.list Mv l), (7, SV.ptr 0 0), (9, SV.ptr 1 0), (10, I64 (IntKind.i64.wrap (i + 1)))]) [some (Box.cells [SV.list Ty.str h.ls, I64 h.ba, I64 h.ne, I64 h.wi, I64 h.re, I64 h.se]), some (Box.cells [SV.list Ty.str g.ls, I64 g.ba, I64 g.ne, I64 g.wi, I64 g.re, I64 g.se, I64 w, SV.row 2, SV.row 3]), some (Box.rows Pk n), some (Box.rows Ty.str o)])))
     (.node ((mg l i).fst == 2)
      (.node (decide ((mg l i).snd.fst ≥ 0))
       (.node (!decide ((mg l i).snd.fst < (n.length : Int)))
        (.leaf (Stop.at (loopOf Try.prog 9 0) 87 (slotsS 87 [(2, SV.list Mv l), (7, SV.ptr 0 0), (9, SV.ptr 1 0), (10, I64 (IntKind.i64.wrap (i + 1)))]) [some (Box.cells [SV.list Ty.str h.ls, I64 h.ba, I64 h.ne, I64 h.wi, I64 h.re, I64 h.se]), some (Box.cells [SV.list Ty.str g.ls, I64 g.ba, I64 g.ne, I64 g.wi, I64 g.re, I64 g.se, I64 w, SV.row 2, SV.row 3]), some (Box.rows Pk n), some (Box.rows Ty.str o)]))
        (.req (decide (0 ≤ (mg l i).snd.fst) && decide ((mg l i).snd.fst < (n.length : Int))) (.req (!n.isEmpty) (.node (n.isEmpty)
           (.fail 113)
           (.req (decide ((0 + n.length) * 32 ≤ 140737488355328)) (.req (decide (0 ≤ (mg l i).snd.fst) && decide ((mg l i).snd.fst < (n.length : Int)) && IntKind.i64.wrap ((mg l i).snd.fst + 1) == (mg l i).snd.fst + 1) (.leaf (Stop.at (loopOf Try.prog 9 0) 87 (slotsS 87 [(2, SV.list Mv l), (7, SV.ptr 0 0), (9, SV.ptr 1 0), (10, I64 (IntKind.i64.wrap (i + 1)))]) [some (Box.cells [SV.list Ty.str h.ls, I64 h.ba, I64 h.ne, I64 h.wi, I64 h.re, I64 h.se]), some (Box.cells [SV.list Ty.str g.ls, I64 g.ba, I64 g.ne, I64 g.wi, I64 g.re, I64 g.se, I64 w, SV.row 2, SV.row 3]), some (Box.rows Pk (er n (mg l i).snd.fst)), some (Box.rows Ty.str o)]))))))))
       (.leaf (Stop.at (loopOf Try.prog 9 0) 87 (slotsS 87 [(2, SV.list Mv l), (7, SV.ptr 0 0), (9, SV.ptr 1 0), (10, I64 (IntKind.i64.wrap (i + 1)))]) [some (Box.cells [SV.list Ty.str h.ls, I64 h.ba, I64 h.ne, I64 h.wi, I64 h.re, I64 h.se]), some (Box.cells [SV.list Ty.str g.ls, I64 g.ba, I64 g.ne, I64 g.wi, I64 g.re, I64 g.se, I64 w, SV.row 2, SV.row 3]), some (Box.rows Pk n), some (Box.rows Ty.str o)])))
      (.node ((mg l i).fst == 3)
       (.node (decide ((mg l i).snd.fst ≥ 0))
        (.node (!decide ((mg l i).snd.fst < (n.length : Int)))
         (.leaf (Stop.at (loopOf Try.prog 9 0) 87 (slotsS 87 [(2, SV.list Mv l), (7, SV.ptr 0 0), (9, SV.ptr 1 0), (10, I64 (IntKind.i64.wrap (i + 1)))]) [some (Box.cells [SV.list Ty.str h.ls, I64 h.ba, I64 h.ne, I64 h.wi, I64 h.re, I64 h.se]), some (Box.cells [SV.list Ty.str g.ls, I64 g.ba, I64 g.ne, I64 g.wi, I64 g.re, I64 g.se, I64 w, SV.row 2, SV.row 3]), some (Box.rows Pk n), some (Box.rows Ty.str o)]))
         (.node (decide ((n.length : Int) ≥ 64))
          (.leaf (Stop.at (loopOf Try.prog 9 0) 87 (slotsS 87 [(2, SV.list Mv l), (7, SV.ptr 0 0), (9, SV.ptr 1 0), (10, I64 (IntKind.i64.wrap (i + 1)))]) [some (Box.cells [SV.list Ty.str h.ls, I64 h.ba, I64 h.ne, I64 h.wi, I64 h.re, I64 h.se]), some (Box.cells [SV.list Ty.str g.ls, I64 g.ba, I64 g.ne, I64 g.wi, I64 g.re, I64 g.se, I64 w, SV.row 2, SV.row 3]), some (Box.rows Pk n), some (Box.rows Ty.str o)]))
          (.req (!n.isEmpty) (.node (n.isEmpty)
            (.fail 113)
            (.req (decide ((0 + n.length) * 32 ≤ 140737488355328)) (.req (decide (0 ≤ (mg l i).snd.fst) && decide ((mg l i).snd.fst < (n.length : Int))) (.req (decide ((n.length + [(pg n (mg l i).snd.fst)].length) * 32 ≤ 140737488355328)) (.node (decide ((((n ++ [(pg n (mg l i).snd.fst)]).length : Nat) : Int) < 30))
                (.leaf (Stop.at (loopOf Try.prog 9 0) 87 (slotsS 87 [(2, SV.list Mv l), (7, SV.ptr 0 0), (9, SV.ptr 1 0), (10, I64 (IntKind.i64.wrap (i + 1)))]) [some (Box.cells [SV.list Ty.str h.ls, I64 h.ba, I64 h.ne, I64 h.wi, I64 h.re, I64 h.se]), some (Box.cells [SV.list Ty.str g.ls, I64 g.ba, I64 g.ne, I64 g.wi, I64 g.re, I64 g.se, I64 w, SV.row 2, SV.row 3]), some (Box.rows Pk (n ++ [(pg n (mg l i).snd.fst)])), some (Box.rows Ty.str o)]))
                (.leaf (Stop.at (loopOf Try.prog 9 0) 87 (slotsS 87 [(2, SV.list Mv l), (7, SV.ptr 0 0), (9, SV.ptr 1 0), (10, I64 (IntKind.i64.wrap (i + 1)))]) [some (Box.cells [SV.list Ty.str h.ls, I64 h.ba, I64 h.ne, I64 h.wi, I64 h.re, I64 h.se]), some (Box.cells [SV.list Ty.str g.ls, I64 g.ba, I64 g.ne, I64 g.wi, I64 g.re, I64 g.se, I64 w, SV.row 2, SV.row 3]), some (Box.rows Pk n), some (Box.rows Ty.str o)]))))))))))
        (.leaf (Stop.at (loopOf Try.prog 9 0) 87 (slotsS 87 [(2, SV.list Mv l), (7, SV.ptr 0 0), (9, SV.ptr 1 0), (10, I64 (IntKind.i64.wrap (i + 1)))]) [some (Box.cells [SV.list Ty.str h.ls, I64 h.ba, I64 h.ne, I64 h.wi, I64 h.re, I64 h.se]), some (Box.cells [SV.list Ty.str g.ls, I64 g.ba, I64 g.ne, I64 g.wi, I64 g.re, I64 g.se, I64 w, SV.row 2, SV.row 3]), some (Box.rows Pk n), some (Box.rows Ty.str o)])))
       (.node ((mg l i).fst == 4)
        (.node (decide ((mg l i).snd.fst ≥ 0))
         (.node (!decide ((mg l i).snd.fst < (n.length : Int)))
          (.leaf (Stop.at (loopOf Try.prog 9 0) 87 (slotsS 87 [(2, SV.list Mv l), (7, SV.ptr 0 0), (9, SV.ptr 1 0), (10, I64 (IntKind.i64.wrap (i + 1)))]) [some (Box.cells [SV.list Ty.str h.ls, I64 h.ba, I64 h.ne, I64 h.wi, I64 h.re, I64 h.se]), some (Box.cells [SV.list Ty.str g.ls, I64 g.ba, I64 g.ne, I64 g.wi, I64 g.re, I64 g.se, I64 w, SV.row 2, SV.row 3]), some (Box.rows Pk n), some (Box.rows Ty.str o)]))
          (.req (decide (0 ≤ (mg l i).snd.fst) && decide ((mg l i).snd.fst < (n.length : Int))) (.node ((pg n (mg l i).snd.fst).snd.snd)
            (.leaf (Stop.at (loopOf Try.prog 9 0) 87 (slotsS 87 [(2, SV.list Mv l), (7, SV.ptr 0 0), (9, SV.ptr 1 0), (10, I64 (IntKind.i64.wrap (i + 1)))]) [some (Box.cells [SV.list Ty.str h.ls, I64 h.ba, I64 h.ne, I64 h.wi, I64 h.re, I64 h.se]), some (Box.cells [SV.list Ty.str g.ls, I64 g.ba, I64 g.ne, I64 g.wi, I64 g.re, I64 g.se, I64 w, SV.row 2, SV.row 3]), some (Box.rows Pk n), some (Box.rows Ty.str o)]))
            (.req (decide (0 ≤ (mg l i).snd.fst) && decide ((mg l i).snd.fst < (n.length : Int))) (.node ((pg n (mg l i).snd.fst).snd.fst == [])
              (.leaf (Stop.at (loopOf Try.prog 9 0) 87 (slotsS 87 [(2, SV.list Mv l), (7, SV.ptr 0 0), (9, SV.ptr 1 0), (10, I64 (IntKind.i64.wrap (i + 1)))]) [some (Box.cells [SV.list Ty.str h.ls, I64 h.ba, I64 h.ne, I64 h.wi, I64 h.re, I64 h.se]), some (Box.cells [SV.list Ty.str g.ls, I64 g.ba, I64 g.ne, I64 g.wi, I64 g.re, I64 g.se, I64 w, SV.row 2, SV.row 3]), some (Box.rows Pk n), some (Box.rows Ty.str o)]))
              (.req (!n.isEmpty) (.node (n.isEmpty)
                (.fail 113)
                (.req (decide ((0 + n.length) * 32 ≤ 140737488355328)) (.req (decide (0 ≤ (mg l i).snd.fst) && decide ((mg l i).snd.fst < (n.length : Int))) (.req (!((tn (pg n (mg l i).snd.fst).snd.fst).length : Int) == 0) (.req (!((tn (pg n (mg l i).snd.fst).snd.fst).length : Int) == 0) (.req (decide (0 ≤ (IntKind.i64.wrap (Int.tmod (mg l i).snd.snd ((tn (pg n (mg l i).snd.fst).snd.fst).length : Int) + ((tn (pg n (mg l i).snd.fst).snd.fst).length : Int))).tmod ((tn (pg n (mg l i).snd.fst).snd.fst).length : Int)) && decide ((IntKind.i64.wrap (Int.tmod (mg l i).snd.snd ((tn (pg n (mg l i).snd.fst).snd.fst).length : Int) + ((tn (pg n (mg l i).snd.fst).snd.fst).length : Int))).tmod ((tn (pg n (mg l i).snd.fst).snd.fst).length : Int) < ((tn (pg n (mg l i).snd.fst).snd.fst).length : Int))) (.req (decide (((IntKind.i64.wrap (Int.tmod (mg l i).snd.snd ((tn (pg n (mg l i).snd.fst).snd.fst).length : Int) + ((tn (pg n (mg l i).snd.fst).snd.fst).length : Int))).tmod ((tn (pg n (mg l i).snd.fst).snd.fst).length : Int)).toNat < (tn (pg n (mg l i).snd.fst).snd.fst).length)) (.req (decide (0 ≤ (IntKind.i64.wrap (Int.tmod (mg l i).snd.snd ((tn (pg n (mg l i).snd.fst).snd.fst).length : Int) + ((tn (pg n (mg l i).snd.fst).snd.fst).length : Int))).tmod ((tn (pg n (mg l i).snd.fst).snd.fst).length : Int)) && decide ((IntKind.i64.wrap (Int.tmod (mg l i).snd.snd ((tn (pg n (mg l i).snd.fst).snd.fst).length : Int) + ((tn (pg n (mg l i).snd.fst).snd.fst).length : Int))).tmod ((tn (pg n (mg l i).snd.fst).snd.fst).length : Int) < ((tn (pg n (mg l i).snd.fst).snd.fst).length : Int))) (.req (decide (((IntKind.i64.wrap (Int.tmod (mg l i).snd.snd ((tn (pg n (mg l i).snd.fst).snd.fst).length : Int) + ((tn (pg n (mg l i).snd.fst).snd.fst).length : Int))).tmod ((tn (pg n (mg l i).snd.fst).snd.fst).length : Int)).toNat < (tn (pg n (mg l i).snd.fst).snd.fst).length)) (.req (decide (0 ≤ (mg l i).snd.fst) && decide ((mg l i).snd.fst < (n.length : Int))) (.req (decide (Int.toNat (mg l i).snd.fst < n.length)) (.req (decide (0 ≤ (mg l i).snd.fst) && decide ((mg l i).snd.fst < ↑(n.set (Int.toNat (mg l i).snd.fst) ((n.getD (Int.toNat (mg l i).snd.fst) (Ty.bool.pair (Ty.str.pair Ty.bool)).dflt).fst, un ((tn (pg n (mg l i).snd.fst).snd.fst).set ((IntKind.i64.wrap (Int.tmod (mg l i).snd.snd ((tn (pg n (mg l i).snd.fst).snd.fst).length : Int) + ((tn (pg n (mg l i).snd.fst).snd.fst).length : Int))).tmod ((tn (pg n (mg l i).snd.fst).snd.fst).length : Int)).toNat (IntKind.u8.wrap ↑(BitVec.ofInt 8 ((tn (pg n (mg l i).snd.fst).snd.fst).getD ((IntKind.i64.wrap (Int.tmod (mg l i).snd.snd ((tn (pg n (mg l i).snd.fst).snd.fst).length : Int) + ((tn (pg n (mg l i).snd.fst).snd.fst).length : Int))).tmod ((tn (pg n (mg l i).snd.fst).snd.fst).length : Int)).toNat 0) ^^^ BitVec.ofInt 8 1).toNat)), (n.getD (Int.toNat (mg l i).snd.fst) (Ty.bool.pair (Ty.str.pair Ty.bool)).dflt).snd.snd)).length)) (.req (decide (Int.toNat (mg l i).snd.fst < (n.set (Int.toNat (mg l i).snd.fst) ((n.getD (Int.toNat (mg l i).snd.fst) (Ty.bool.pair (Ty.str.pair Ty.bool)).dflt).fst, un ((tn (pg n (mg l i).snd.fst).snd.fst).set ((IntKind.i64.wrap (Int.tmod (mg l i).snd.snd ((tn (pg n (mg l i).snd.fst).snd.fst).length : Int) + ((tn (pg n (mg l i).snd.fst).snd.fst).length : Int))).tmod ((tn (pg n (mg l i).snd.fst).snd.fst).length : Int)).toNat (IntKind.u8.wrap ↑(BitVec.ofInt 8 ((tn (pg n (mg l i).snd.fst).snd.fst).getD ((IntKind.i64.wrap (Int.tmod (mg l i).snd.snd ((tn (pg n (mg l i).snd.fst).snd.fst).length : Int) + ((tn (pg n (mg l i).snd.fst).snd.fst).length : Int))).tmod ((tn (pg n (mg l i).snd.fst).snd.fst).length : Int)).toNat 0) ^^^ BitVec.ofInt 8 1).toNat)), (n.getD (Int.toNat (mg l i).snd.fst) (Ty.bool.pair (Ty.str.pair Ty.bool)).dflt).snd.snd)).length)) (.leaf (Stop.at (loopOf Try.prog 9 0) 87 (slotsS 87 [(2, SV.list Mv l), (7, SV.ptr 0 0), (9, SV.ptr 1 0), (10, I64 (IntKind.i64.wrap (i + 1)))]) [some (Box.cells [SV.list Ty.str h.ls, I64 h.ba, I64 h.ne, I64 h.wi, I64 h.re, I64 h.se]), some (Box.cells [SV.list Ty.str g.ls, I64 g.ba, I64 g.ne, I64 g.wi, I64 g.re, I64 g.se, I64 w, SV.row 2, SV.row 3]), some (Box.rows Pk ((n.set (Int.toNat (mg l i).snd.fst) ((n.getD (Int.toNat (mg l i).snd.fst) (Ty.bool.pair (Ty.str.pair Ty.bool)).dflt).fst, un ((tn (pg n (mg l i).snd.fst).snd.fst).set ((IntKind.i64.wrap (Int.tmod (mg l i).snd.snd ((tn (pg n (mg l i).snd.fst).snd.fst).length : Int) + ((tn (pg n (mg l i).snd.fst).snd.fst).length : Int))).tmod ((tn (pg n (mg l i).snd.fst).snd.fst).length : Int)).toNat (IntKind.u8.wrap ↑(BitVec.ofInt 8 ((tn (pg n (mg l i).snd.fst).snd.fst).getD ((IntKind.i64.wrap (Int.tmod (mg l i).snd.snd ((tn (pg n (mg l i).snd.fst).snd.fst).length : Int) + ((tn (pg n (mg l i).snd.fst).snd.fst).length : Int))).tmod ((tn (pg n (mg l i).snd.fst).snd.fst).length : Int)).toNat 0) ^^^ BitVec.ofInt 8 1).toNat)), (n.getD (Int.toNat (mg l i).snd.fst) (Ty.bool.pair (Ty.str.pair Ty.bool)).dflt).snd.snd)).set (Int.toNat (mg l i).snd.fst) (((n.set (Int.toNat (mg l i).snd.fst) ((n.getD (Int.toNat (mg l i).snd.fst) (Ty.bool.pair (Ty.str.pair Ty.bool)).dflt).fst, un ((tn (pg n (mg l i).snd.fst).snd.fst).set ((IntKind.i64.wrap (Int.tmod (mg l i).snd.snd ((tn (pg n (mg l i).snd.fst).snd.fst).length : Int) + ((tn (pg n (mg l i).snd.fst).snd.fst).length : Int))).tmod ((tn (pg n (mg l i).snd.fst).snd.fst).length : Int)).toNat (IntKind.u8.wrap ↑(BitVec.ofInt 8 ((tn (pg n (mg l i).snd.fst).snd.fst).getD ((IntKind.i64.wrap (Int.tmod (mg l i).snd.snd ((tn (pg n (mg l i).snd.fst).snd.fst).length : Int) + ((tn (pg n (mg l i).snd.fst).snd.fst).length : Int))).tmod ((tn (pg n (mg l i).snd.fst).snd.fst).length : Int)).toNat 0) ^^^ BitVec.ofInt 8 1).toNat)), (n.getD (Int.toNat (mg l i).snd.fst) (Ty.bool.pair (Ty.str.pair Ty.bool)).dflt).snd.snd)).getD (Int.toNat (mg l i).snd.fst) (Ty.bool.pair (Ty.str.pair Ty.bool)).dflt).fst, ((n.set (Int.toNat (mg l i).snd.fst) ((n.getD (Int.toNat (mg l i).snd.fst) (Ty.bool.pair (Ty.str.pair Ty.bool)).dflt).fst, un ((tn (pg n (mg l i).snd.fst).snd.fst).set ((IntKind.i64.wrap (Int.tmod (mg l i).snd.snd ((tn (pg n (mg l i).snd.fst).snd.fst).length : Int) + ((tn (pg n (mg l i).snd.fst).snd.fst).length : Int))).tmod ((tn (pg n (mg l i).snd.fst).snd.fst).length : Int)).toNat (IntKind.u8.wrap ↑(BitVec.ofInt 8 ((tn (pg n (mg l i).snd.fst).snd.fst).getD ((IntKind.i64.wrap (Int.tmod (mg l i).snd.snd ((tn (pg n (mg l i).snd.fst).snd.fst).length : Int) + ((tn (pg n (mg l i).snd.fst).snd.fst).length : Int))).tmod ((tn (pg n (mg l i).snd.fst).snd.fst).length : Int)).toNat 0) ^^^ BitVec.ofInt 8 1).toNat)), (n.getD (Int.toNat (mg l i).snd.fst) (Ty.bool.pair (Ty.str.pair Ty.bool)).dflt).snd.snd)).getD (Int.toNat (mg l i).snd.fst) (Ty.bool.pair (Ty.str.pair Ty.bool)).dflt).snd.fst, true))), some (Box.rows Ty.str o)])))))))))))))))))))))
         (.leaf (Stop.at (loopOf Try.prog 9 0) 87 (slotsS 87 [(2, SV.list Mv l), (7, SV.ptr 0 0), (9, SV.ptr 1 0), (10, I64 (IntKind.i64.wrap (i + 1)))]) [some (Box.cells [SV.list Ty.str h.ls, I64 h.ba, I64 h.ne, I64 h.wi, I64 h.re, I64 h.se]), some (Box.cells [SV.list Ty.str g.ls, I64 g.ba, I64 g.ne, I64 g.wi, I64 g.re, I64 g.se, I64 w, SV.row 2, SV.row 3]), some (Box.rows Pk n), some (Box.rows Ty.str o)])))
        (.req (smallsB g.ls) (.node ((agaV g g.ba).snd == 0)
          (.leaf (Stop.at (loopOf Try.prog 9 0) 87 (slotsS 87 [(2, SV.list Mv l), (7, SV.ptr 0 0), (9, SV.ptr 1 0), (10, I64 (IntKind.i64.wrap (i + 1)))]) [some (Box.cells [SV.list Ty.str h.ls, I64 h.ba, I64 h.ne, I64 h.wi, I64 h.re, I64 h.se]), some (Box.cells [SV.list Ty.str (agaV g g.ba).fst.ls, I64 (agaV g g.ba).fst.ba, I64 (agaV g g.ba).fst.ne, I64 (agaV g g.ba).fst.wi, I64 (agaV g g.ba).fst.re, I64 (agaV g g.ba).fst.se, I64 w, SV.row 2, SV.row 3]), some (Box.rows Pk n), some (Box.rows Ty.str o)]))
          (.leaf (Stop.at (loopOf Try.prog 9 0) 87 (slotsS 87 [(2, SV.list Mv l), (7, SV.ptr 0 0), (9, SV.ptr 1 0), (10, I64 (IntKind.i64.wrap (i + 1)))]) [some (Box.cells [SV.list Ty.str h.ls, I64 h.ba, I64 h.ne, I64 h.wi, I64 h.re, I64 h.se]), some (Box.cells [SV.list Ty.str g.ls, I64 g.ba, I64 g.ne, I64 g.wi, I64 g.re, I64 g.se, I64 w, SV.row 2, SV.row 3]), some (Box.rows Pk n), some (Box.rows Ty.str o)]))))))))))
  (.req (smallsB g.ls) (.node ((agaV g g.ba).snd == 0)
    (.leaf (Stop.at (loopOf Try.prog 9 1) 87 (slotsS 87 [(2, SV.list Mv l), (7, SV.ptr 0 0), (9, SV.ptr 1 0), (10, I64 i), (11, I64 0)]) [some (Box.cells [SV.list Ty.str h.ls, I64 h.ba, I64 h.ne, I64 h.wi, I64 h.re, I64 h.se]), some (Box.cells [SV.list Ty.str (agaV g g.ba).fst.ls, I64 (agaV g g.ba).fst.ba, I64 (agaV g g.ba).fst.ne, I64 (agaV g g.ba).fst.wi, I64 (agaV g g.ba).fst.re, I64 (agaV g g.ba).fst.se, I64 w, SV.nilS, SV.row 2]), some (Box.rows Ty.str o)]))
    (.leaf (Stop.at (loopOf Try.prog 9 1) 87 (slotsS 87 [(2, SV.list Mv l), (7, SV.ptr 0 0), (9, SV.ptr 1 0), (10, I64 i), (11, I64 0)]) [some (Box.cells [SV.list Ty.str h.ls, I64 h.ba, I64 h.ne, I64 h.wi, I64 h.re, I64 h.se]), some (Box.cells [SV.list Ty.str g.ls, I64 g.ba, I64 g.ne, I64 g.wi, I64 g.re, I64 g.se, I64 w, SV.nilS, SV.row 2]), some (Box.rows Ty.str o)])))))
 (.req (smallsB g.ls) (.node ((agaV g g.ba).snd == 0)
   (.leaf (Stop.at (loopOf Try.prog 9 1) 87 (slotsS 87 [(2, SV.list Mv l), (7, SV.ptr 0 0), (9, SV.ptr 1 0), (10, I64 i), (11, I64 0)]) [some (Box.cells [SV.list Ty.str h.ls, I64 h.ba, I64 h.ne, I64 h.wi, I64 h.re, I64 h.se]), some (Box.cells [SV.list Ty.str (agaV g g.ba).fst.ls, I64 (agaV g g.ba).fst.ba, I64 (agaV g g.ba).fst.ne, I64 (agaV g g.ba).fst.wi, I64 (agaV g g.ba).fst.re, I64 (agaV g g.ba).fst.se, I64 w, SV.nilS, SV.row 2]), some (Box.rows Ty.str o)]))
   (.leaf (Stop.at (loopOf Try.prog 9 1) 87 (slotsS 87 [(2, SV.list Mv l), (7, SV.ptr 0 0), (9, SV.ptr 1 0), (10, I64 i), (11, I64 0)]) [some (Box.cells [SV.list Ty.str h.ls, I64 h.ba, I64 h.ne, I64 h.wi, I64 h.re, I64 h.se]), some (Box.cells [SV.list Ty.str g.ls, I64 g.ba, I64 g.ne, I64 g.wi, I64 g.re, I64 g.se, I64 w, SV.nilS, SV.row 2]), some (Box.rows Ty.str o)]))))
theorem le1 (l : List MvT) (h g : Ho) (w : Int) (n : List PkT) (o : List (List UInt8)) (i : Int) : segR (Env.ofR Try.prog (sumOf [fFew, fSta, fSnd, fAnsH, fRecv, fAga, fAwake]) (wrOf [wDel]) (rdOf [18, 20, 22])) 1000 (fnOf Try.prog 9) .unit (keepS 87 [2,7,9,10,11]) (loopOf Try.prog 9 0) le1_p (slotsS 87 [(2, .list Mv l), (7, .ptr 0 0), (9, .ptr 1 0), (10, I64 i)]) [some (.cells h.cells), some (.cells (wCells g w)), some (.rows Pk n), some (.rows .str o)] = le1_t l h g w n o i := by kernel_rfl
def le2_p : Plan := .fork (.lit (.fork (.lit (.lit (.lit (.lit (.lit (.lit (.lit (.lit (.lit (.lit (.lit (.lit (.lit (.lit (.lit (.lit (.lit (.lit (.fork (.fork (.lit (.lit (.lit (.lit (.lit (.lit (.lit (.lit (.lit (.lit (.lit (.fork (.fork (.all) (.all)) (.fork (.all) (.all)))))))))))))) (.lit (.lit (.lit (.lit (.lit (.lit (.lit (.lit (.lit (.all))))))))))) (.fork (.lit (.lit (.lit (.lit (.lit (.lit (.lit (.lit (.lit (.lit (.lit (.fork (.fork (.all) (.all)) (.fork (.all) (.all)))))))))))))) (.lit (.lit (.lit (.lit (.lit (.lit (.lit (.lit (.lit (.all)))))))))))))))))))))))))))))) (.lit (.lit (.lit (.lit (.lit (.lit (.lit (.lit (.lit (.lit (.lit (.lit (.lit (.lit (.lit (.lit (.lit (.lit (.lit (.lit (.lit (.lit (.lit (.lit (.lit (.all)))))))))))))))))))))))))))) (.fork (.lit (.lit (.lit (.lit (.lit (.lit (.lit (.lit (.lit (.lit (.fork (.lit (.all)) (.lit (.all))))))))))))) (.lit (.lit (.lit (.lit (.lit (.lit (.lit (.lit (.lit (.lit (.lit (.lit (.all))))))))))))))
noncomputable def le2_t (h g : Ho) (w : Int) (o : List (List UInt8)) (k : Int) : Tree Stop :=
   .node (decide (k < 30))
 (.req (smallsB g.ls) (.node (sndB g)
   (.req (decide ((0 + [(false, sndT g, false)].length) * 32 ≤ 140737488355328)) (.req (decide (0 < (([(false, sndT g, false)].length : Nat) : Int))) (.req (![(false, sndT g, false)].isEmpty) (.req (decide ((0 + [(false, sndT g, false)].length) * 32 ≤ 140737488355328)) (.req (decide (0 < (([(false, sndT g, false)].length : Nat) : Int)) && true) (.req (smallsB (sndV g).ls && small (sndT g)) (.req (small (sndT g)) (.node ((rcv w false (sndT g)).snd.snd.snd.snd)
           (.req (decide ((o.length + [(rcv w false (sndT g)).snd.fst].length) * 16 ≤ 140737488355328)) (.node ((rcv w false (sndT g)).snd.snd.fst)
             (.req (decide (((([] : List PkT)).length + [((rcv w false (sndT g)).snd.snd.fst, (rcv w false (sndT g)).snd.snd.snd.fst, false)].length) * 32 ≤ 140737488355328)) (.req (decide (0 < (([((rcv w false (sndT g)).snd.snd.fst, (rcv w false (sndT g)).snd.snd.snd.fst, false)].length : Nat) : Int))) (.req (![((rcv w false (sndT g)).snd.snd.fst, (rcv w false (sndT g)).snd.snd.snd.fst, false)].isEmpty) (.req (decide ((0 + [((rcv w false (sndT g)).snd.snd.fst, (rcv w false (sndT g)).snd.snd.snd.fst, false)].length) * 32 ≤ 140737488355328)) (.req (decide (0 < (([((rcv w false (sndT g)).snd.snd.fst, (rcv w false (sndT g)).snd.snd.snd.fst, false)].length : Nat) : Int)) && true) (.req (smallsB (ansV (sndV g) false (sndT g)).ls && small (rcv w false (sndT g)).snd.snd.snd.fst) (.req (small (rcv w false (sndT g)).snd.snd.snd.fst) (.node ((rcv (rcv w false (sndT g)).fst (rcv w false (sndT g)).snd.snd.fst (rcv w false (sndT g)).snd.snd.snd.fst).snd.snd.snd.snd)
                     (.req (decide (((o ++ [(rcv w false (sndT g)).snd.fst]).length + [(rcv (rcv w false (sndT g)).fst (rcv w false (sndT g)).snd.snd.fst (rcv w false (sndT g)).snd.snd.snd.fst).snd.fst].length) * 16 ≤ 140737488355328)) (.node ((rcv (rcv w false (sndT g)).fst (rcv w false (sndT g)).snd.snd.fst (rcv w false (sndT g)).snd.snd.snd.fst).snd.snd.fst)
                       (.req (decide (((([] : List PkT)).length + [((rcv (rcv w false (sndT g)).fst (rcv w false (sndT g)).snd.snd.fst (rcv w false (sndT g)).snd.snd.snd.fst).snd.snd.fst, (rcv (rcv w false (sndT g)).fst (rcv w false (sndT g)).snd.snd.fst (rcv w false (sndT g)).snd.snd.snd.fst).snd.snd.snd.fst, false)].length) * 32 ≤ 140737488355328)) (.leaf (Stop.at (loopOf Try.prog 9 1) 87 (slotsS 87 [(7, SV.ptr 0 0), (9, SV.ptr 1 0), (11, I64 (IntKind.i64.wrap (k + 1)))]) [some (Box.cells [SV.list Ty.str h.ls, I64 h.ba, I64 h.ne, I64 h.wi, I64 h.re, I64 h.se]), some (Box.cells [SV.list Ty.str (ansV (ansV (sndV g) false (sndT g)) (rcv w false (sndT g)).snd.snd.fst (rcv w false (sndT g)).snd.snd.snd.fst).ls, I64 (ansV (ansV (sndV g) false (sndT g)) (rcv w false (sndT g)).snd.snd.fst (rcv w false (sndT g)).snd.snd.snd.fst).ba, I64 (ansV (ansV (sndV g) false (sndT g)) (rcv w false (sndT g)).snd.snd.fst (rcv w false (sndT g)).snd.snd.snd.fst).ne, I64 (ansV (ansV (sndV g) false (sndT g)) (rcv w false (sndT g)).snd.snd.fst (rcv w false (sndT g)).snd.snd.snd.fst).wi, I64 (ansV (ansV (sndV g) false (sndT g)) (rcv w false (sndT g)).snd.snd.fst (rcv w false (sndT g)).snd.snd.snd.fst).re, I64 (ansV (ansV (sndV g) false (sndT g)) (rcv w false (sndT g)).snd.snd.fst (rcv w false (sndT g)).snd.snd.snd.fst).se, I64 (rcv (rcv w false (sndT g)).fst (rcv w false (sndT g)).snd.snd.fst (rcv w false (sndT g)).snd.snd.snd.fst).fst, SV.row 2, SV.row 3]), some (Box.rows Pk [((rcv (rcv w false (sndT g)).fst (rcv w false (sndT g)).snd.snd.fst (rcv w false (sndT g)).snd.snd.snd.fst).snd.snd.fst, (rcv (rcv w false (sndT g)).fst (rcv w false (sndT g)).snd.snd.fst (rcv w false (sndT g)).snd.snd.snd.fst).snd.snd.snd.fst, false)]), some (Box.rows Ty.str (o ++ [(rcv w false (sndT g)).snd.fst] ++ [(rcv (rcv w false (sndT g)).fst (rcv w false (sndT g)).snd.snd.fst (rcv w false (sndT g)).snd.snd.snd.fst).snd.fst]))])))
                       (.leaf (Stop.at (loopOf Try.prog 9 1) 87 (slotsS 87 [(7, SV.ptr 0 0), (9, SV.ptr 1 0), (11, I64 (IntKind.i64.wrap (k + 1)))]) [some (Box.cells [SV.list Ty.str h.ls, I64 h.ba, I64 h.ne, I64 h.wi, I64 h.re, I64 h.se]), some (Box.cells [SV.list Ty.str (ansV (ansV (sndV g) false (sndT g)) (rcv w false (sndT g)).snd.snd.fst (rcv w false (sndT g)).snd.snd.snd.fst).ls, I64 (ansV (ansV (sndV g) false (sndT g)) (rcv w false (sndT g)).snd.snd.fst (rcv w false (sndT g)).snd.snd.snd.fst).ba, I64 (ansV (ansV (sndV g) false (sndT g)) (rcv w false (sndT g)).snd.snd.fst (rcv w false (sndT g)).snd.snd.snd.fst).ne, I64 (ansV (ansV (sndV g) false (sndT g)) (rcv w false (sndT g)).snd.snd.fst (rcv w false (sndT g)).snd.snd.snd.fst).wi, I64 (ansV (ansV (sndV g) false (sndT g)) (rcv w false (sndT g)).snd.snd.fst (rcv w false (sndT g)).snd.snd.snd.fst).re, I64 (ansV (ansV (sndV g) false (sndT g)) (rcv w false (sndT g)).snd.snd.fst (rcv w false (sndT g)).snd.snd.snd.fst).se, I64 (rcv (rcv w false (sndT g)).fst (rcv w false (sndT g)).snd.snd.fst (rcv w false (sndT g)).snd.snd.snd.fst).fst, SV.row 2, SV.row 3]), some (Box.rows Pk []), some (Box.rows Ty.str (o ++ [(rcv w false (sndT g)).snd.fst] ++ [(rcv (rcv w false (sndT g)).fst (rcv w false (sndT g)).snd.snd.fst (rcv w false (sndT g)).snd.snd.snd.fst).snd.fst]))]))))
                     (.node ((rcv (rcv w false (sndT g)).fst (rcv w false (sndT g)).snd.snd.fst (rcv w false (sndT g)).snd.snd.snd.fst).snd.snd.fst)
                      (.req (decide (((([] : List PkT)).length + [((rcv (rcv w false (sndT g)).fst (rcv w false (sndT g)).snd.snd.fst (rcv w false (sndT g)).snd.snd.snd.fst).snd.snd.fst, (rcv (rcv w false (sndT g)).fst (rcv w false (sndT g)).snd.snd.fst (rcv w false (sndT g)).snd.snd.snd.fst).snd.snd.snd.fst, false)].length) * 32 ≤ 140737488355328)) (.leaf (Stop.at (loopOf Try.prog 9 1) 87 (slotsS 87 [(7, SV.ptr 0 0), (9, SV.ptr 1 0), (11, I64 (IntKind.i64.wrap (k + 1)))]) [some (Box.cells [SV.list Ty.str h.ls, I64 h.ba, I64 h.ne, I64 h.wi, I64 h.re, I64 h.se]), some (Box.cells [SV.list Ty.str (ansV (ansV (sndV g) false (sndT g)) (rcv w false (sndT g)).snd.snd.fst (rcv w false (sndT g)).snd.snd.snd.fst).ls, I64 (ansV (ansV (sndV g) false (sndT g)) (rcv w false (sndT g)).snd.snd.fst (rcv w false (sndT g)).snd.snd.snd.fst).ba, I64 (ansV (ansV (sndV g) false (sndT g)) (rcv w false (sndT g)).snd.snd.fst (rcv w false (sndT g)).snd.snd.snd.fst).ne, I64 (ansV (ansV (sndV g) false (sndT g)) (rcv w false (sndT g)).snd.snd.fst (rcv w false (sndT g)).snd.snd.snd.fst).wi, I64 (ansV (ansV (sndV g) false (sndT g)) (rcv w false (sndT g)).snd.snd.fst (rcv w false (sndT g)).snd.snd.snd.fst).re, I64 (ansV (ansV (sndV g) false (sndT g)) (rcv w false (sndT g)).snd.snd.fst (rcv w false (sndT g)).snd.snd.snd.fst).se, I64 (rcv (rcv w false (sndT g)).fst (rcv w false (sndT g)).snd.snd.fst (rcv w false (sndT g)).snd.snd.snd.fst).fst, SV.row 2, SV.row 3]), some (Box.rows Pk [((rcv (rcv w false (sndT g)).fst (rcv w false (sndT g)).snd.snd.fst (rcv w false (sndT g)).snd.snd.snd.fst).snd.snd.fst, (rcv (rcv w false (sndT g)).fst (rcv w false (sndT g)).snd.snd.fst (rcv w false (sndT g)).snd.snd.snd.fst).snd.snd.snd.fst, false)]), some (Box.rows Ty.str (o ++ [(rcv w false (sndT g)).snd.fst]))])))
                      (.leaf (Stop.at (loopOf Try.prog 9 1) 87 (slotsS 87 [(7, SV.ptr 0 0), (9, SV.ptr 1 0), (11, I64 (IntKind.i64.wrap (k + 1)))]) [some (Box.cells [SV.list Ty.str h.ls, I64 h.ba, I64 h.ne, I64 h.wi, I64 h.re, I64 h.se]), some (Box.cells [SV.list Ty.str (ansV (ansV (sndV g) false (sndT g)) (rcv w false (sndT g)).snd.snd.fst (rcv w false (sndT g)).snd.snd.snd.fst).ls, I64 (ansV (ansV (sndV g) false (sndT g)) (rcv w false (sndT g)).snd.snd.fst (rcv w false (sndT g)).snd.snd.snd.fst).ba, I64 (ansV (ansV (sndV g) false (sndT g)) (rcv w false (sndT g)).snd.snd.fst (rcv w false (sndT g)).snd.snd.snd.fst).ne, I64 (ansV (ansV (sndV g) false (sndT g)) (rcv w false (sndT g)).snd.snd.fst (rcv w false (sndT g)).snd.snd.snd.fst).wi, I64 (ansV (ansV (sndV g) false (sndT g)) (rcv w false (sndT g)).snd.snd.fst (rcv w false (sndT g)).snd.snd.snd.fst).re, I64 (ansV (ansV (sndV g) false (sndT g)) (rcv w false (sndT g)).snd.snd.fst (rcv w false (sndT g)).snd.snd.snd.fst).se, I64 (rcv (rcv w false (sndT g)).fst (rcv w false (sndT g)).snd.snd.fst (rcv w false (sndT g)).snd.snd.snd.fst).fst, SV.row 2, SV.row 3]), some (Box.rows Pk []), some (Box.rows Ty.str (o ++ [(rcv w false (sndT g)).snd.fst]))])))))))))))
             (.leaf (Stop.at (loopOf Try.prog 9 1) 87 (slotsS 87 [(7, SV.ptr 0 0), (9, SV.ptr 1 0), (11, I64 (IntKind.i64.wrap (k + 1)))]) [some (Box.cells [SV.list Ty.str h.ls, I64 h.ba, I64 h.ne, I64 h.wi, I64 h.re, I64 h.se]), some (Box.cells [SV.list Ty.str (ansV (sndV g) false (sndT g)).ls, I64 (ansV (sndV g) false (sndT g)).ba, I64 (ansV (sndV g) false (sndT g)).ne, I64 (ansV (sndV g) false (sndT g)).wi, I64 (ansV (sndV g) false (sndT g)).re, I64 (ansV (sndV g) false (sndT g)).se, I64 (rcv w false (sndT g)).fst, SV.row 2, SV.row 3]), some (Box.rows Pk []), some (Box.rows Ty.str (o ++ [(rcv w false (sndT g)).snd.fst]))]))))
           (.node ((rcv w false (sndT g)).snd.snd.fst)
            (.req (decide (((([] : List PkT)).length + [((rcv w false (sndT g)).snd.snd.fst, (rcv w false (sndT g)).snd.snd.snd.fst, false)].length) * 32 ≤ 140737488355328)) (.req (decide (0 < (([((rcv w false (sndT g)).snd.snd.fst, (rcv w false (sndT g)).snd.snd.snd.fst, false)].length : Nat) : Int))) (.req (![((rcv w false (sndT g)).snd.snd.fst, (rcv w false (sndT g)).snd.snd.snd.fst, false)].isEmpty) (.req (decide ((0 + [((rcv w false (sndT g)).snd.snd.fst, (rcv w false (sndT g)).snd.snd.snd.fst, false)].length) * 32 ≤ 140737488355328)) (.req (decide (0 < (([((rcv w false (sndT g)).snd.snd.fst, (rcv w false (sndT g)).snd.snd.snd.fst, false)].length : Nat) : Int)) && true) (.req (smallsB (ansV (sndV g) false (sndT g)).ls && small (rcv w false (sndT g)).snd.snd.snd.fst) (.req (small (rcv w false (sndT g)).snd.snd.snd.fst) (.node ((rcv (rcv w false (sndT g)).fst (rcv w false (sndT g)).snd.snd.fst (rcv w false (sndT g)).snd.snd.snd.fst).snd.snd.snd.snd)
                    (.req (decide ((o.length + [(rcv (rcv w false (sndT g)).fst (rcv w false (sndT g)).snd.snd.fst (rcv w false (sndT g)).snd.snd.snd.fst).snd.fst].length) * 16 ≤ 140737488355328)) (.node ((rcv (rcv w false (sndT g)).fst (rcv w false (sndT g)).snd.snd.fst (rcv w false (sndT g)).snd.snd.snd.fst).snd.snd.fst)
                      (.req (decide (((([] : List PkT)).length + [((rcv (rcv w false (sndT g)).fst (rcv w false (sndT g)).snd.snd.fst (rcv w false (sndT g)).snd.snd.snd.fst).snd.snd.fst, (rcv (rcv w false (sndT g)).fst (rcv w false (sndT g)).snd.snd.fst (rcv w false (sndT g)).snd.snd.snd.fst).snd.snd.snd.fst, false)].length) * 32 ≤ 140737488355328)) (.leaf (Stop.at (loopOf Try.prog 9 1) 87 (slotsS 87 [(7, SV.ptr 0 0), (9, SV.ptr 1 0), (11, I64 (IntKind.i64.wrap (k + 1)))]) [some (Box.cells [SV.list Ty.str h.ls, I64 h.ba, I64 h.ne, I64 h.wi, I64 h.re, I64 h.se]), some (Box.cells [SV.list Ty.str (ansV (ansV (sndV g) false (sndT g)) (rcv w false (sndT g)).snd.snd.fst (rcv w false (sndT g)).snd.snd.snd.fst).ls, I64 (ansV (ansV (sndV g) false (sndT g)) (rcv w false (sndT g)).snd.snd.fst (rcv w false (sndT g)).snd.snd.snd.fst).ba, I64 (ansV (ansV (sndV g) false (sndT g)) (rcv w false (sndT g)).snd.snd.fst (rcv w false (sndT g)).snd.snd.snd.fst).ne, I64 (ansV (ansV (sndV g) false (sndT g)) (rcv w false (sndT g)).snd.snd.fst (rcv w false (sndT g)).snd.snd.snd.fst).wi, I64 (ansV (ansV (sndV g) false (sndT g)) (rcv w false (sndT g)).snd.snd.fst (rcv w false (sndT g)).snd.snd.snd.fst).re, I64 (ansV (ansV (sndV g) false (sndT g)) (rcv w false (sndT g)).snd.snd.fst (rcv w false (sndT g)).snd.snd.snd.fst).se, I64 (rcv (rcv w false (sndT g)).fst (rcv w false (sndT g)).snd.snd.fst (rcv w false (sndT g)).snd.snd.snd.fst).fst, SV.row 2, SV.row 3]), some (Box.rows Pk [((rcv (rcv w false (sndT g)).fst (rcv w false (sndT g)).snd.snd.fst (rcv w false (sndT g)).snd.snd.snd.fst).snd.snd.fst, (rcv (rcv w false (sndT g)).fst (rcv w false (sndT g)).snd.snd.fst (rcv w false (sndT g)).snd.snd.snd.fst).snd.snd.snd.fst, false)]), some (Box.rows Ty.str (o ++ [(rcv (rcv w false (sndT g)).fst (rcv w false (sndT g)).snd.snd.fst (rcv w false (sndT g)).snd.snd.snd.fst).snd.fst]))])))
                      (.leaf (Stop.at (loopOf Try.prog 9 1) 87 (slotsS 87 [(7, SV.ptr 0 0), (9, SV.ptr 1 0), (11, I64 (IntKind.i64.wrap (k + 1)))]) [some (Box.cells [SV.list Ty.str h.ls, I64 h.ba, I64 h.ne, I64 h.wi, I64 h.re, I64 h.se]), some (Box.cells [SV.list Ty.str (ansV (ansV (sndV g) false (sndT g)) (rcv w false (sndT g)).snd.snd.fst (rcv w false (sndT g)).snd.snd.snd.fst).ls, I64 (ansV (ansV (sndV g) false (sndT g)) (rcv w false (sndT g)).snd.snd.fst (rcv w false (sndT g)).snd.snd.snd.fst).ba, I64 (ansV (ansV (sndV g) false (sndT g)) (rcv w false (sndT g)).snd.snd.fst (rcv w false (sndT g)).snd.snd.snd.fst).ne, I64 (ansV (ansV (sndV g) false (sndT g)) (rcv w false (sndT g)).snd.snd.fst (rcv w false (sndT g)).snd.snd.snd.fst).wi, I64 (ansV (ansV (sndV g) false (sndT g)) (rcv w false (sndT g)).snd.snd.fst (rcv w false (sndT g)).snd.snd.snd.fst).re, I64 (ansV (ansV (sndV g) false (sndT g)) (rcv w false (sndT g)).snd.snd.fst (rcv w false (sndT g)).snd.snd.snd.fst).se, I64 (rcv (rcv w false (sndT g)).fst (rcv w false (sndT g)).snd.snd.fst (rcv w false (sndT g)).snd.snd.snd.fst).fst, SV.row 2, SV.row 3]), some (Box.rows Pk []), some (Box.rows Ty.str (o ++ [(rcv (rcv w false (sndT g)).fst (rcv w false (sndT g)).snd.snd.fst (rcv w false (sndT g)).snd.snd.snd.fst).snd.fst]))]))))
                    (.node ((rcv (rcv w false (sndT g)).fst (rcv w false (sndT g)).snd.snd.fst (rcv w false (sndT g)).snd.snd.snd.fst).snd.snd.fst)
                     (.req (decide (((([] : List PkT)).length + [((rcv (rcv w false (sndT g)).fst (rcv w false (sndT g)).snd.snd.fst (rcv w false (sndT g)).snd.snd.snd.fst).snd.snd.fst, (rcv (rcv w false (sndT g)).fst (rcv w false (sndT g)).snd.snd.fst (rcv w false (sndT g)).snd.snd.snd.fst).snd.snd.snd.fst, false)].length) * 32 ≤ 140737488355328)) (.leaf (Stop.at (loopOf Try.prog 9 1) 87 (slotsS 87 [(7, SV.ptr 0 0), (9, SV.ptr 1 0), (11, I64 (IntKind.i64.wrap (k + 1)))]) [some (Box.cells [SV.list Ty.str h.ls, I64 h.ba, I64 h.ne, I64 h.wi, I64 h.re, I64 h.se]), some (Box.cells [SV.list Ty.str (ansV (ansV (sndV g) false (sndT g)) (rcv w false (sndT g)).snd.snd.fst (rcv w false (sndT g)).snd.snd.snd.fst).ls, I64 (ansV (ansV (sndV g) false (sndT g)) (rcv w false (sndT g)).snd.snd.fst (rcv w false (sndT g)).snd.snd.snd.fst).ba, I64 (ansV (ansV (sndV g) false (sndT g)) (rcv w false (sndT g)).snd.snd.fst (rcv w false (sndT g)).snd.snd.snd.fst).ne, I64 (ansV (ansV (sndV g) false (sndT g)) (rcv w false (sndT g)).snd.snd.fst (rcv w false (sndT g)).snd.snd.snd.fst).wi, I64 (ansV (ansV (sndV g) false (sndT g)) (rcv w false (sndT g)).snd.snd.fst (rcv w false (sndT g)).snd.snd.snd.fst).re, I64 (ansV (ansV (sndV g) false (sndT g)) (rcv w false (sndT g)).snd.snd.fst (rcv w false (sndT g)).snd.snd.snd.fst).se, I64 (rcv (rcv w false (sndT g)).fst (rcv w false (sndT g)).snd.snd.fst (rcv w false (sndT g)).snd.snd.snd.fst).fst, SV.row 2, SV.row 3]), some (Box.rows Pk [((rcv (rcv w false (sndT g)).fst (rcv w false (sndT g)).snd.snd.fst (rcv w false (sndT g)).snd.snd.snd.fst).snd.snd.fst, (rcv (rcv w false (sndT g)).fst (rcv w false (sndT g)).snd.snd.fst (rcv w false (sndT g)).snd.snd.snd.fst).snd.snd.snd.fst, false)]), some (Box.rows Ty.str o)])))
                     (.leaf (Stop.at (loopOf Try.prog 9 1) 87 (slotsS 87 [(7, SV.ptr 0 0), (9, SV.ptr 1 0), (11, I64 (IntKind.i64.wrap (k + 1)))]) [some (Box.cells [SV.list Ty.str h.ls, I64 h.ba, I64 h.ne, I64 h.wi, I64 h.re, I64 h.se]), some (Box.cells [SV.list Ty.str (ansV (ansV (sndV g) false (sndT g)) (rcv w false (sndT g)).snd.snd.fst (rcv w false (sndT g)).snd.snd.snd.fst).ls, I64 (ansV (ansV (sndV g) false (sndT g)) (rcv w false (sndT g)).snd.snd.fst (rcv w false (sndT g)).snd.snd.snd.fst).ba, I64 (ansV (ansV (sndV g) false (sndT g)) (rcv w false (sndT g)).snd.snd.fst (rcv w false (sndT g)).snd.snd.snd.fst).ne, I64 (ansV (ansV (sndV g) false (sndT g)) (rcv w false (sndT g)).snd.snd.fst (rcv w false (sndT g)).snd.snd.snd.fst).wi, I64 (ansV (ansV (sndV g) false (sndT g)) (rcv w false (sndT g)).snd.snd.fst (rcv w false (sndT g)).snd.snd.snd.fst).re, I64 (ansV (ansV (sndV g) false (sndT g)) (rcv w false (sndT g)).snd.snd.fst (rcv w false (sndT g)).snd.snd.snd.fst).se, I64 (rcv (rcv w false (sndT g)).fst (rcv w false (sndT g)).snd.snd.fst (rcv w false (sndT g)).snd.snd.snd.fst).fst, SV.row 2, SV.row 3]), some (Box.rows Pk []), some (Box.rows Ty.str o)])))))))))))
            (.leaf (Stop.at (loopOf Try.prog 9 1) 87 (slotsS 87 [(7, SV.ptr 0 0), (9, SV.ptr 1 0), (11, I64 (IntKind.i64.wrap (k + 1)))]) [some (Box.cells [SV.list Ty.str h.ls, I64 h.ba, I64 h.ne, I64 h.wi, I64 h.re, I64 h.se]), some (Box.cells [SV.list Ty.str (ansV (sndV g) false (sndT g)).ls, I64 (ansV (sndV g) false (sndT g)).ba, I64 (ansV (sndV g) false (sndT g)).ne, I64 (ansV (sndV g) false (sndT g)).wi, I64 (ansV (sndV g) false (sndT g)).re, I64 (ansV (sndV g) false (sndT g)).se, I64 (rcv w false (sndT g)).fst, SV.row 2, SV.row 3]), some (Box.rows Pk []), some (Box.rows Ty.str o)])))))))))))
   (.leaf (Stop.at (loopOf Try.prog 9 1) 87 (slotsS 87 [(7, SV.ptr 0 0), (9, SV.ptr 1 0), (11, I64 (IntKind.i64.wrap (k + 1)))]) [some (Box.cells [SV.list Ty.str h.ls, I64 h.ba, I64 h.ne, I64 h.wi, I64 h.re, I64 h.se]), some (Box.cells [SV.list Ty.str (sndV g).ls, I64 (sndV g).ba, I64 (sndV g).ne, I64 (sndV g).wi, I64 (sndV g).re, I64 (sndV g).se, I64 w, SV.row 2, SV.row 3]), some (Box.rows Pk []), some (Box.rows Ty.str o)]))))
 (.node ((o.length : Int) == (h.ls.length : Int))
  (.node (g.ba == IntKind.i64.wrap ((h.ls.length : Int) + 1))
   (.leaf (Stop.done (SV.bool true)))
   (.leaf (Stop.done (SV.bool false))))
  (.leaf (Stop.done (SV.bool false))))
theorem le2 (h g : Ho) (w : Int) (o : List (List UInt8)) (k : Int) : segR (Env.ofR Try.prog (sumOf [fFew, fSta, fSnd, fAnsH, fRecv, fAga, fAwake]) (wrOf [wDel]) (rdOf [18, 20, 22])) 1000 (fnOf Try.prog 9) .unit (keepS 87 [7,9,11]) (loopOf Try.prog 9 1) le2_p (slotsS 87 [(7, .ptr 0 0), (9, .ptr 1 0), (11, I64 k)]) [some (.cells h.cells), some (.cells (wCells g w)), some (.rows Pk []), some (.rows .str o)] = le2_t h g w o k := by kernel_rfl
end Go.Proofs.Ytibpodgdondakaa
set_option linter.unusedSimpArgs false
set_option linter.unusedVariables false
set_option maxRecDepth 100000
namespace Go.Proofs.Ytibpodgdondakaa
open Go.Sx
def lo0_p : Plan := .fork (.all) (.all)
noncomputable def lo0_t (ls : List (List UInt8)) (win : Int) (l : List MvT) : Tree Stop :=
   .req (smallsB (fewL (Ho.mk ls 0 0 0 0 0).ls)) (.node ((staV (fewL (Ho.mk ls 0 0 0 0 0).ls) win).snd != 0)
  (.leaf (Stop.done (SV.bool true)))
  (.leaf (Stop.at (loopOf Try.prog 8 0) 103 (slotsS 103 [(2, SV.list Mv l), (7, SV.ptr 0 0), (9, SV.ptr 1 0), (10, I64 0), (11, SV.undef)]) [some (Box.cells [SV.list Ty.str (staV (fewL (Ho.mk ls 0 0 0 0 0).ls) win).fst.ls, I64 (staV (fewL (Ho.mk ls 0 0 0 0 0).ls) win).fst.ba, I64 (staV (fewL (Ho.mk ls 0 0 0 0 0).ls) win).fst.ne, I64 (staV (fewL (Ho.mk ls 0 0 0 0 0).ls) win).fst.wi, I64 (staV (fewL (Ho.mk ls 0 0 0 0 0).ls) win).fst.re, I64 (staV (fewL (Ho.mk ls 0 0 0 0 0).ls) win).fst.se]), some (Box.cells [SV.list Ty.str (staV (fewL (Ho.mk ls 0 0 0 0 0).ls) win).fst.ls, I64 (staV (fewL (Ho.mk ls 0 0 0 0 0).ls) win).fst.ba, I64 (staV (fewL (Ho.mk ls 0 0 0 0 0).ls) win).fst.ne, I64 (staV (fewL (Ho.mk ls 0 0 0 0 0).ls) win).fst.wi, I64 (staV (fewL (Ho.mk ls 0 0 0 0 0).ls) win).fst.re, I64 (staV (fewL (Ho.mk ls 0 0 0 0 0).ls) win).fst.se, I64 1, SV.nilS, SV.nilS])])))
theorem lo0 (ls : List (List UInt8)) (win : Int) (l : List MvT) : segR (Env.ofR Try.prog (sumOf [fFew, fSta, fSnd, fAnsH, fRecv, fAga, fAwake]) (wrOf [wDel]) (rdOf [18, 20, 22])) 1000 (fnOf Try.prog 8) .unit (keepS 103 [2,7,9,10,11]) (codeS Try.prog 8) lo0_p (startS Try.prog 8 [.list .str ls, I64 win, .list Mv l]) [] = lo0_t ls win l := by kernel_rfl
def lo1_p : Plan := .fork (.lit (.lit (.fork (.fork (.fork (.lit (.lit (.lit (.lit (.lit (.lit (.fork (.fork (.lit (.lit (.lit (.lit (.lit (.lit (.lit (.lit (.lit (.lit (.lit (.lit (.lit (.lit (.lit (.lit (.lit (.lit (.lit (.lit (.lit (.lit (.all))))))))))))))))))))))) (.lit (.lit (.lit (.lit (.lit (.lit (.lit (.lit (.lit (.fork (.lit (.lit (.lit (.lit (.lit (.lit (.lit (.lit (.lit (.lit (.lit (.lit (.all))))))))))))) (.lit (.lit (.lit (.lit (.lit (.lit (.lit (.lit (.lit (.lit (.lit (.fork (.all) (.all)))))))))))))))))))))))) (.fork (.lit (.lit (.lit (.lit (.lit (.lit (.lit (.lit (.lit (.lit (.lit (.lit (.lit (.lit (.lit (.lit (.lit (.lit (.lit (.lit (.lit (.lit (.all))))))))))))))))))))))) (.lit (.lit (.lit (.lit (.lit (.lit (.lit (.lit (.lit (.fork (.lit (.lit (.lit (.lit (.lit (.lit (.lit (.lit (.lit (.lit (.lit (.lit (.all))))))))))))) (.lit (.lit (.lit (.lit (.lit (.lit (.lit (.lit (.lit (.lit (.lit (.fork (.all) (.all))))))))))))))))))))))))))))))) (.lit (.lit (.lit (.lit (.lit (.lit (.lit (.fork (.lit (.lit (.lit (.lit (.lit (.lit (.lit (.lit (.lit (.lit (.lit (.lit (.lit (.lit (.lit (.lit (.lit (.lit (.lit (.lit (.lit (.lit (.all))))))))))))))))))))))) (.lit (.lit (.lit (.lit (.lit (.lit (.lit (.lit (.lit (.fork (.lit (.lit (.lit (.lit (.lit (.lit (.lit (.lit (.lit (.lit (.lit (.lit (.all))))))))))))) (.lit (.lit (.lit (.lit (.lit (.lit (.lit (.lit (.lit (.lit (.lit (.fork (.all) (.all)))))))))))))))))))))))))))))))) (.fork (.fork (.lit (.lit (.lit (.lit (.fork (.lit (.fork (.lit (.lit (.lit (.lit (.lit (.lit (.lit (.lit (.lit (.lit (.lit (.lit (.lit (.lit (.lit (.lit (.lit (.lit (.lit (.lit (.lit (.lit (.all))))))))))))))))))))))) (.lit (.lit (.lit (.lit (.lit (.lit (.lit (.lit (.lit (.fork (.lit (.lit (.lit (.lit (.lit (.lit (.lit (.lit (.lit (.lit (.lit (.lit (.all))))))))))))) (.lit (.lit (.lit (.lit (.lit (.lit (.lit (.lit (.lit (.lit (.lit (.fork (.all) (.all))))))))))))))))))))))))) (.lit (.fork (.all) (.lit (.fork (.fork (.fork (.lit (.lit (.lit (.lit (.lit (.lit (.lit (.lit (.lit (.lit (.lit (.lit (.lit (.lit (.lit (.lit (.lit (.lit (.lit (.lit (.lit (.lit (.all))))))))))))))))))))))) (.lit (.lit (.lit (.lit (.lit (.lit (.lit (.lit (.lit (.fork (.lit (.lit (.lit (.lit (.lit (.lit (.lit (.lit (.lit (.lit (.lit (.lit (.all))))))))))))) (.lit (.lit (.lit (.lit (.lit (.lit (.lit (.lit (.lit (.lit (.lit (.fork (.all) (.all)))))))))))))))))))))))) (.fork (.lit (.lit (.lit (.lit (.lit (.lit (.lit (.lit (.lit (.lit (.lit (.lit (.lit (.lit (.lit (.lit (.lit (.lit (.lit (.lit (.lit (.lit (.all))))))))))))))))))))))) (.lit (.lit (.lit (.lit (.lit (.lit (.lit (.lit (.lit (.fork (.lit (.lit (.lit (.lit (.lit (.lit (.lit (.lit (.lit (.lit (.lit (.lit (.all))))))))))))) (.lit (.lit (.lit (.lit (.lit (.lit (.lit (.lit (.lit (.lit (.lit (.fork (.all) (.all))))))))))))))))))))))))) (.fork (.fork (.lit (.lit (.lit (.lit (.lit (.lit (.lit (.lit (.lit (.lit (.lit (.lit (.lit (.lit (.lit (.lit (.lit (.lit (.lit (.lit (.lit (.lit (.all))))))))))))))))))))))) (.lit (.lit (.lit (.lit (.lit (.lit (.lit (.lit (.lit (.fork (.lit (.lit (.lit (.lit (.lit (.lit (.lit (.lit (.lit (.lit (.lit (.lit (.all))))))))))))) (.lit (.lit (.lit (.lit (.lit (.lit (.lit (.lit (.lit (.lit (.lit (.fork (.all) (.all)))))))))))))))))))))))) (.fork (.lit (.lit (.lit (.lit (.lit (.lit (.lit (.lit (.lit (.lit (.lit (.lit (.lit (.lit (.lit (.lit (.lit (.lit (.lit (.lit (.lit (.lit (.all))))))))))))))))))))))) (.lit (.lit (.lit (.lit (.lit (.lit (.lit (.lit (.lit (.fork (.lit (.lit (.lit (.lit (.lit (.lit (.lit (.lit (.lit (.lit (.lit (.lit (.all))))))))))))) (.lit (.lit (.lit (.lit (.lit (.lit (.lit (.lit (.lit (.lit (.lit (.fork (.all) (.all)))))))))))))))))))))))))))))))))) (.lit (.lit (.lit (.lit (.lit (.lit (.fork (.lit (.lit (.lit (.lit (.lit (.lit (.lit (.lit (.lit (.lit (.lit (.lit (.lit (.lit (.lit (.lit (.lit (.lit (.lit (.lit (.lit (.lit (.all))))))))))))))))))))))) (.lit (.lit (.lit (.lit (.lit (.lit (.lit (.lit (.lit (.fork (.lit (.lit (.lit (.lit (.lit (.lit (.lit (.lit (.lit (.lit (.lit (.lit (.all))))))))))))) (.lit (.lit (.lit (.lit (.lit (.lit (.lit (.lit (.lit (.lit (.lit (.fork (.all) (.all))))))))))))))))))))))))))))))) (.fork (.fork (.lit (.lit (.lit (.lit (.fork (.lit (.fork (.lit (.lit (.lit (.lit (.lit (.lit (.lit (.lit (.lit (.lit (.lit (.lit (.lit (.lit (.lit (.lit (.lit (.lit (.lit (.lit (.lit (.lit (.all))))))))))))))))))))))) (.lit (.lit (.lit (.lit (.lit (.lit (.lit (.lit (.lit (.fork (.lit (.lit (.lit (.lit (.lit (.lit (.lit (.lit (.lit (.lit (.lit (.lit (.all))))))))))))) (.lit (.lit (.lit (.lit (.lit (.lit (.lit (.lit (.lit (.lit (.lit (.fork (.all) (.all))))))))))))))))))))))))) (.lit (.fork (.all) (.lit (.fork (.lit (.lit (.lit (.lit (.lit (.lit (.lit (.lit (.lit (.lit (.lit (.lit (.lit (.lit (.lit (.lit (.lit (.lit (.lit (.lit (.lit (.lit (.all))))))))))))))))))))))) (.lit (.lit (.lit (.lit (.lit (.lit (.lit (.lit (.lit (.fork (.lit (.lit (.lit (.lit (.lit (.lit (.lit (.lit (.lit (.lit (.lit (.lit (.all))))))))))))) (.lit (.lit (.lit (.lit (.lit (.lit (.lit (.lit (.lit (.lit (.lit (.fork (.all) (.all)))))))))))))))))))))))))))))))) (.lit (.lit (.lit (.lit (.lit (.lit (.fork (.lit (.lit (.lit (.lit (.lit (.lit (.lit (.lit (.lit (.lit (.lit (.lit (.lit (.lit (.lit (.lit (.lit (.lit (.lit (.lit (.lit (.lit (.all))))))))))))))))))))))) (.lit (.lit (.lit (.lit (.lit (.lit (.lit (.lit (.lit (.fork (.lit (.lit (.lit (.lit (.lit (.lit (.lit (.lit (.lit (.lit (.lit (.lit (.all))))))))))))) (.lit (.lit (.lit (.lit (.lit (.lit (.lit (.lit (.lit (.lit (.lit (.fork (.all) (.all))))))))))))))))))))))))))))))) (.fork (.fork (.lit (.lit (.lit (.lit (.fork (.lit (.lit (.lit (.lit (.lit (.fork (.lit (.lit (.lit (.lit (.lit (.lit (.lit (.lit (.lit (.lit (.lit (.lit (.lit (.lit (.lit (.lit (.lit (.lit (.lit (.lit (.lit (.lit (.all))))))))))))))))))))))) (.lit (.lit (.lit (.lit (.lit (.lit (.lit (.lit (.lit (.fork (.lit (.lit (.lit (.lit (.lit (.lit (.lit (.lit (.lit (.lit (.lit (.lit (.all))))))))))))) (.lit (.lit (.lit (.lit (.lit (.lit (.lit (.lit (.lit (.lit (.lit (.fork (.all) (.all))))))))))))))))))))))))))))) (.fork (.lit (.lit (.lit (.lit (.lit (.fork (.lit (.lit (.lit (.lit (.lit (.lit (.lit (.lit (.lit (.lit (.lit (.lit (.lit (.lit (.lit (.lit (.lit (.lit (.lit (.lit (.lit (.lit (.all))))))))))))))))))))))) (.lit (.lit (.lit (.lit (.lit (.lit (.lit (.lit (.lit (.fork (.lit (.lit (.lit (.lit (.lit (.lit (.lit (.lit (.lit (.lit (.lit (.lit (.all))))))))))))) (.lit (.lit (.lit (.lit (.lit (.lit (.lit (.lit (.lit (.lit (.lit (.fork (.all) (.all))))))))))))))))))))))))))))) (.lit (.fork (.all) (.lit (.lit (.lit (.lit (.fork (.fork (.lit (.lit (.lit (.lit (.lit (.lit (.lit (.lit (.lit (.lit (.lit (.lit (.lit (.lit (.lit (.lit (.lit (.lit (.lit (.lit (.lit (.lit (.all))))))))))))))))))))))) (.lit (.lit (.lit (.lit (.lit (.lit (.lit (.lit (.lit (.fork (.lit (.lit (.lit (.lit (.lit (.lit (.lit (.lit (.lit (.lit (.lit (.lit (.all))))))))))))) (.lit (.lit (.lit (.lit (.lit (.lit (.lit (.lit (.lit (.lit (.lit (.fork (.all) (.all)))))))))))))))))))))))) (.fork (.lit (.lit (.lit (.lit (.lit (.lit (.lit (.lit (.lit (.lit (.lit (.lit (.lit (.lit (.lit (.lit (.lit (.lit (.lit (.lit (.lit (.lit (.all))))))))))))))))))))))) (.lit (.lit (.lit (.lit (.lit (.lit (.lit (.lit (.lit (.fork (.lit (.lit (.lit (.lit (.lit (.lit (.lit (.lit (.lit (.lit (.lit (.lit (.all))))))))))))) (.lit (.lit (.lit (.lit (.lit (.lit (.lit (.lit (.lit (.lit (.lit (.fork (.all) (.all))))))))))))))))))))))))))))))))))))) (.lit (.lit (.lit (.lit (.lit (.lit (.lit (.lit (.lit (.lit (.fork (.lit (.lit (.lit (.lit (.lit (.lit (.lit (.lit (.lit (.lit (.lit (.lit (.lit (.lit (.lit (.lit (.lit (.lit (.lit (.lit (.lit (.lit (.all))))))))))))))))))))))) (.lit (.lit (.lit (.lit (.lit (.lit (.lit (.lit (.lit (.fork (.lit (.lit (.lit (.lit (.lit (.lit (.lit (.lit (.lit (.lit (.lit (.lit (.all))))))))))))) (.lit (.lit (.lit (.lit (.lit (.lit (.lit (.lit (.lit (.lit (.lit (.fork (.all) (.all))))))))))))))))))))))))))))))))))) (.fork (.fork (.lit (.lit (.lit (.lit (.fork (.lit (.fork (.lit (.lit (.lit (.lit (.lit (.lit (.lit (.lit (.lit (.lit (.lit (.lit (.lit (.lit (.lit (.lit (.lit (.lit (.lit (.lit (.lit (.lit (.all))))))))))))))))))))))) (.lit (.lit (.lit (.lit (.lit (.lit (.lit (.lit (.lit (.fork (.lit (.lit (.lit (.lit (.lit (.lit (.lit (.lit (.lit (.lit (.lit (.lit (.all))))))))))))) (.lit (.lit (.lit (.lit (.lit (.lit (.lit (.lit (.lit (.lit (.lit (.fork (.all) (.all))))))))))))))))))))))))) (.fork (.lit (.lit (.lit (.lit (.lit (.lit (.lit (.lit (.fork (.lit (.lit (.lit (.lit (.lit (.lit (.lit (.lit (.lit (.lit (.lit (.lit (.lit (.lit (.lit (.lit (.lit (.lit (.lit (.lit (.lit (.lit (.all))))))))))))))))))))))) (.lit (.lit (.lit (.lit (.lit (.lit (.lit (.lit (.lit (.fork (.lit (.lit (.lit (.lit (.lit (.lit (.lit (.lit (.lit (.lit (.lit (.lit (.all))))))))))))) (.lit (.lit (.lit (.lit (.lit (.lit (.lit (.lit (.lit (.lit (.lit (.fork (.all) (.all)))))))))))))))))))))))))))))))) (.lit (.lit (.lit (.lit (.lit (.lit (.fork (.lit (.fork (.lit (.lit (.lit (.lit (.lit (.lit (.lit (.lit (.lit (.lit (.lit (.lit (.lit (.lit (.lit (.lit (.lit (.lit (.lit (.lit (.lit (.lit (.all))))))))))))))))))))))) (.lit (.lit (.lit (.lit (.lit (.lit (.lit (.lit (.lit (.fork (.lit (.lit (.lit (.lit (.lit (.lit (.lit (.lit (.lit (.lit (.lit (.lit (.all))))))))))))) (.lit (.lit (.lit (.lit (.lit (.lit (.lit (.lit (.lit (.lit (.lit (.fork (.all) (.all))))))))))))))))))))))))) (.lit (.fork (.all) (.lit (.fork (.lit (.lit (.lit (.lit (.lit (.lit (.lit (.lit (.lit (.lit (.lit (.lit (.lit (.lit (.lit (.lit (.lit (.lit (.lit (.lit (.lit (.lit (.all))))))))))))))))))))))) (.lit (.lit (.lit (.lit (.lit (.lit (.lit (.lit (.lit (.fork (.lit (.lit (.lit (.lit (.lit (.lit (.lit (.lit (.lit (.lit (.lit (.lit (.all))))))))))))) (.lit (.lit (.lit (.lit (.lit (.lit (.lit (.lit (.lit (.lit (.lit (.fork (.all) (.all)))))))))))))))))))))))))))))))))))))))) (.lit (.lit (.lit (.lit (.lit (.lit (.fork (.lit (.lit (.lit (.lit (.lit (.lit (.lit (.lit (.lit (.lit (.lit (.lit (.lit (.lit (.lit (.lit (.lit (.lit (.lit (.lit (.lit (.lit (.all))))))))))))))))))))))) (.lit (.lit (.lit (.lit (.lit (.lit (.lit (.lit (.lit (.fork (.lit (.lit (.lit (.lit (.lit (.lit (.lit (.lit (.lit (.lit (.lit (.lit (.all))))))))))))) (.lit (.lit (.lit (.lit (.lit (.lit (.lit (.lit (.lit (.lit (.lit (.fork (.all) (.all))))))))))))))))))))))))))))))) (.fork (.fork (.lit (.lit (.lit (.lit (.lit (.lit (.lit (.lit (.lit (.lit (.lit (.lit (.lit (.lit (.lit (.lit (.lit (.lit (.lit (.lit (.lit (.lit (.all))))))))))))))))))))))) (.lit (.lit (.lit (.lit (.lit (.lit (.lit (.lit (.lit (.fork (.lit (.lit (.lit (.lit (.lit (.lit (.lit (.lit (.lit (.lit (.lit (.lit (.all))))))))))))) (.lit (.lit (.lit (.lit (.lit (.lit (.lit (.lit (.lit (.lit (.lit (.fork (.all) (.all)))))))))))))))))))))))) (.fork (.lit (.lit (.lit (.lit (.lit (.lit (.lit (.lit (.lit (.lit (.lit (.lit (.lit (.lit (.lit (.lit (.lit (.lit (.lit (.lit (.lit (.lit (.all))))))))))))))))))))))) (.lit (.lit (.lit (.lit (.lit (.lit (.lit (.lit (.lit (.fork (.lit (.lit (.lit (.lit (.lit (.lit (.lit (.lit (.lit (.lit (.lit (.lit (.all))))))))))))) (.lit (.lit (.lit (.lit (.lit (.lit (.lit (.lit (.lit (.lit (.lit (.fork (.all) (.all)))))))))))))))))))))))))))))) (.all)))) (.lit (.lit (.lit (.all))))
noncomputable def lo1_t (l : List MvT) (h g : Ho) (w : Int) (n : List PkT) (o : List (List UInt8)) (i : Int) : Tree Stop :=
   .node (decide (i < (l.length : Int)))
 (.node (decide (i < 40))
  (.req (decide (0 ≤ i) && decide (i < (l.length : Int))) (.node ((mg l i).fst == 0)
    (.req (smallsB g.ls) (.node (sndB g)
      (.node (decide ((n.length : Int) < 30))
       (.req (decide ((n.length + ([(false, sndT g, false)]).length) * 32 ≤ 140737488355328)) (.node (w != IntKind.i64.wrap ((o.length : Int) + 1))
         (.leaf (Stop.done (SV.bool false)))
         (.node (decide ((o.length : Int) > (h.ls.length : Int)))
          (.leaf (Stop.done (SV.bool false)))
          (.node (decide ((sndV g).ba > w))
           (.leaf (Stop.done (SV.bool false)))
           (.leaf (Stop.at (loopOf Try.prog 8 1) 103 (slotsS 103 [(2, SV.list Mv l), (7, SV.ptr 0 0), (9, SV.ptr 1 0), (10, I64 i), (11, I64 0)]) [some (Box.cells [SV.list Ty.str h.ls, I64 h.ba, I64 h.ne, I64 h.wi, I64 h.re, I64 h.se]), some (Box.cells [SV.list Ty.str (sndV g).ls, I64 (sndV g).ba, I64 (sndV g).ne, I64 (sndV g).wi, I64 (sndV g).re, I64 (sndV g).se, I64 w, SV.row 2, SV.row 3]), some (Box.rows Pk (n ++ [(false, sndT g, false)])), some (Box.rows Ty.str o)]))))))
       (.node (w != IntKind.i64.wrap ((o.length : Int) + 1))
        (.leaf (Stop.done (SV.bool false)))
        (.node (decide ((o.length : Int) > (h.ls.length : Int)))
         (.leaf (Stop.done (SV.bool false)))
         (.node (decide ((sndV g).ba > w))
          (.leaf (Stop.done (SV.bool false)))
          (.leaf (Stop.at (loopOf Try.prog 8 1) 103 (slotsS 103 [(2, SV.list Mv l), (7, SV.ptr 0 0), (9, SV.ptr 1 0), (10, I64 i), (11, I64 0)]) [some (Box.cells [SV.list Ty.str h.ls, I64 h.ba, I64 h.ne, I64 h.wi, I64 h.re, I64 h.se]), some (Box.cells [SV.list Ty.str (sndV g).ls, I64 (sndV g).ba, I64 (sndV g).ne, I64 (sndV g).wi, I64 (sndV g).re, I64 (sndV g).se, I64 w, SV.row 2, SV.row 3]), some (Box.rows Pk n), some (Box.rows Ty.str o)]))))))
      (.node (w != IntKind.i64.wrap ((o.length : Int) + 1))
       (.leaf (Stop.done (SV.bool false)))
       (.node (decide ((o.length : Int) > (h.ls.length : Int)))
        (.leaf (Stop.done (SV.bool false)))
        (.node (decide ((sndV g).ba > w))
         (.leaf (Stop.done (SV.bool false)))
         (.leaf (Stop.at (loopOf Try.prog 8 1) 103 (slotsS 103 [(2, SV.list Mv l), (7, SV.ptr 0 0), (9, SV.ptr 1 0), (10, I64 i), (11, I64 0)]) [some (Box.cells [SV.list Ty.str h.ls, I64 h.ba, I64 h.ne, I64 h.wi, I64 h.re, I64 h.se]), some (Box.cells [SV.list Ty.str (sndV g).ls, I64 (sndV g).ba, I64 (sndV g).ne, I64 (sndV g).wi, I64 (sndV g).re, I64 (sndV g).se, I64 w, SV.row 2, SV.row 3]), some (Box.rows Pk n), some (Box.rows Ty.str o)])))))))
    (.node ((mg l i).fst == 1)
     (.node (decide ((mg l i).snd.fst ≥ 0))
      (.node (!decide ((mg l i).snd.fst < (n.length : Int)))
       (.node (w != IntKind.i64.wrap ((o.length : Int) + 1))
        (.leaf (Stop.done (SV.bool false)))
        (.node (decide ((o.length : Int) > (h.ls.length : Int)))
         (.leaf (Stop.done (SV.bool false)))
         (.node (decide (g.ba > w))
          (.leaf (Stop.done (SV.bool false)))
          (.leaf (Stop.at (loopOf Try.prog 8 1) 103 (slotsS 103 [(2, SV.list Mv l), (7, SV.ptr 0 0), (9, SV.ptr 1 0), (10, I64 i), (11, I64 0)]) [some (Box.cells [SV.list Ty.str h.ls, I64 h.ba, I64 h.ne, I64 h.wi, I64 h.re, I64 h.se]), some (Box.cells [SV.list Ty.str g.ls, I64 g.ba, I64 g.ne, I64 g.wi, I64 g.re, I64 g.se, I64 w, SV.row 2, SV.row 3]), some (Box.rows Pk n), some (Box.rows Ty.str o)])))))
       (.req (decide (0 ≤ (mg l i).snd.fst) && decide ((mg l i).snd.fst < (n.length : Int))) (.req (!n.isEmpty) (.node ((n).isEmpty)
          (.fail 113)
          (.req (decide ((0 + (n).length) * 32 ≤ 140737488355328)) (.req (decide (0 ≤ (mg l i).snd.fst) && decide ((mg l i).snd.fst < ↑([] ++ n).length) && IntKind.i64.wrap ((mg l i).snd.fst + 1) == (mg l i).snd.fst + 1) (.req (smallsB g.ls && small (pg n (mg l i).snd.fst).snd.fst) (.req (small (pg n (mg l i).snd.fst).snd.fst) (.node ((rcv w (pg n (mg l i).snd.fst).fst (pg n (mg l i).snd.fst).snd.fst).snd.snd.snd.snd)
               (.req (decide ((o.length + [(rcv w (pg n (mg l i).snd.fst).fst (pg n (mg l i).snd.fst).snd.fst).snd.fst].length) * 16 ≤ 140737488355328)) (.node ((rcv w (pg n (mg l i).snd.fst).fst (pg n (mg l i).snd.fst).snd.fst).snd.snd.fst)
                 (.req (decide (((er n (mg l i).snd.fst).length + ([((rcv w (pg n (mg l i).snd.fst).fst (pg n (mg l i).snd.fst).snd.fst).snd.snd.fst, (rcv w (pg n (mg l i).snd.fst).fst (pg n (mg l i).snd.fst).snd.fst).snd.snd.snd.fst, false)]).length) * 32 ≤ 140737488355328)) (.node ((rcv w (pg n (mg l i).snd.fst).fst (pg n (mg l i).snd.fst).snd.fst).fst != IntKind.i64.wrap (↑(o ++ [(rcv w (pg n (mg l i).snd.fst).fst (pg n (mg l i).snd.fst).snd.fst).snd.fst]).length + 1))
                   (.leaf (Stop.done (SV.bool false)))
                   (.node (decide (↑(o ++ [(rcv w (pg n (mg l i).snd.fst).fst (pg n (mg l i).snd.fst).snd.fst).snd.fst]).length > (h.ls.length : Int)))
                    (.leaf (Stop.done (SV.bool false)))
                    (.node (decide ((ansV g (pg n (mg l i).snd.fst).fst (pg n (mg l i).snd.fst).snd.fst).ba > (rcv w (pg n (mg l i).snd.fst).fst (pg n (mg l i).snd.fst).snd.fst).fst))
                     (.leaf (Stop.done (SV.bool false)))
                     (.leaf (Stop.at (loopOf Try.prog 8 1) 103 (slotsS 103 [(2, SV.list Mv l), (7, SV.ptr 0 0), (9, SV.ptr 1 0), (10, I64 i), (11, I64 0)]) [some (Box.cells [SV.list Ty.str h.ls, I64 h.ba, I64 h.ne, I64 h.wi, I64 h.re, I64 h.se]), some (Box.cells [SV.list Ty.str (ansV g (pg n (mg l i).snd.fst).fst (pg n (mg l i).snd.fst).snd.fst).ls, I64 (ansV g (pg n (mg l i).snd.fst).fst (pg n (mg l i).snd.fst).snd.fst).ba, I64 (ansV g (pg n (mg l i).snd.fst).fst (pg n (mg l i).snd.fst).snd.fst).ne, I64 (ansV g (pg n (mg l i).snd.fst).fst (pg n (mg l i).snd.fst).snd.fst).wi, I64 (ansV g (pg n (mg l i).snd.fst).fst (pg n (mg l i).snd.fst).snd.fst).re, I64 (ansV g (pg n (mg l i).snd.fst).fst (pg n (mg l i).snd.fst).snd.fst).se, I64 (rcv w (pg n (mg l i).snd.fst).fst (pg n (mg l i).snd.fst).snd.fst).fst, SV.row 2, SV.row 3]), some (Box.rows Pk (er n (mg l i).snd.fst ++ [((rcv w (pg n (mg l i).snd.fst).fst (pg n (mg l i).snd.fst).snd.fst).snd.snd.fst, (rcv w (pg n (mg l i).snd.fst).fst (pg n (mg l i).snd.fst).snd.fst).snd.snd.snd.fst, false)])), some (Box.rows Ty.str (o ++ [(rcv w (pg n (mg l i).snd.fst).fst (pg n (mg l i).snd.fst).snd.fst).snd.fst]))]))))))
                 (.node ((rcv w (pg n (mg l i).snd.fst).fst (pg n (mg l i).snd.fst).snd.fst).fst != IntKind.i64.wrap (↑(o ++ [(rcv w (pg n (mg l i).snd.fst).fst (pg n (mg l i).snd.fst).snd.fst).snd.fst]).length + 1))
                  (.leaf (Stop.done (SV.bool false)))
                  (.node (decide (↑(o ++ [(rcv w (pg n (mg l i).snd.fst).fst (pg n (mg l i).snd.fst).snd.fst).snd.fst]).length > (h.ls.length : Int)))
                   (.leaf (Stop.done (SV.bool false)))
                   (.node (decide ((ansV g (pg n (mg l i).snd.fst).fst (pg n (mg l i).snd.fst).snd.fst).ba > (rcv w (pg n (mg l i).snd.fst).fst (pg n (mg l i).snd.fst).snd.fst).fst))
                    (.leaf (Stop.done (SV.bool false)))
                    (.leaf (Stop.at (loopOf Try.prog 8 1) 103 (slotsS 103 [(2, SV.list Mv l), (7, SV.ptr 0 0), (9, SV.ptr 1 0), (10, I64 i), (11, I64 0)]) [some (Box.cells [SV.list Ty.str h.ls, I64 h.ba, I64 h.ne, I64 h.wi, I64 h.re, I64 h.se]), some (Box.cells [SV.list Ty.str (ansV g (pg n (mg l i).snd.fst).fst (pg n (mg l i).snd.fst).snd.fst).ls, I64 (ansV g (pg n (mg l i).snd.fst).fst (pg n (mg l i).snd.fst).snd.fst).ba, I64 (ansV g (pg n (mg l i).snd.fst).fst (pg n (mg l i).snd.fst).snd.fst).ne, I64 (ansV g (pg n (mg l i).snd.fst).fst (pg n (mg l i).snd.fst).snd.fst).wi, I64 (ansV g (pg n (mg l i).snd.fst).fst (pg n (mg l i).snd.fst).snd.fst).re, I64 (ansV g (pg n (mg l i).snd.fst).fst (pg n (mg l i).snd.fst).snd.fst).se, I64 (rcv w (pg n (mg l i).snd.fst).fst (pg n (mg l i).snd.fst).snd.fst).fst, SV.row 2, SV.row 3]), some (Box.rows Pk (er n (mg l i).snd.fst)), some (Box.rows Ty.str (o ++ [(rcv w (pg n (mg l i).snd.fst).fst (pg n (mg l i).snd.fst).snd.fst).snd.fst]))])))))))
               (.node ((rcv w (pg n (mg l i).snd.fst).fst (pg n (mg l i).snd.fst).snd.fst).snd.snd.fst)
                (.req (decide (((er n (mg l i).snd.fst).length + ([((rcv w (pg n (mg l i).snd.fst).fst (pg n (mg l i).snd.fst).snd.fst).snd.snd.fst, (rcv w (pg n (mg l i).snd.fst).fst (pg n (mg l i).snd.fst).snd.fst).snd.snd.snd.fst, false)]).length) * 32 ≤ 140737488355328)) (.node ((rcv w (pg n (mg l i).snd.fst).fst (pg n (mg l i).snd.fst).snd.fst).fst != IntKind.i64.wrap ((o.length : Int) + 1))
                  (.leaf (Stop.done (SV.bool false)))
                  (.node (decide ((o.length : Int) > (h.ls.length : Int)))
                   (.leaf (Stop.done (SV.bool false)))
                   (.node (decide ((ansV g (pg n (mg l i).snd.fst).fst (pg n (mg l i).snd.fst).snd.fst).ba > (rcv w (pg n (mg l i).snd.fst).fst (pg n (mg l i).snd.fst).snd.fst).fst))
                    (.leaf (Stop.done (SV.bool false)))
                    (.leaf (Stop.at (loopOf Try.prog 8 1) 103 (slotsS 103 [(2, SV.list Mv l), (7, SV.ptr 0 0), (9, SV.ptr 1 0), (10, I64 i), (11, I64 0)]) [some (Box.cells [SV.list Ty.str h.ls, I64 h.ba, I64 h.ne, I64 h.wi, I64 h.re, I64 h.se]), some (Box.cells [SV.list Ty.str (ansV g (pg n (mg l i).snd.fst).fst (pg n (mg l i).snd.fst).snd.fst).ls, I64 (ansV g (pg n (mg l i).snd.fst).fst (pg n (mg l i).snd.fst).snd.fst).ba, I64 (ansV g (pg n (mg l i).snd.fst).fst (pg n (mg l i).snd.fst).snd.fst).ne, I64 (ansV g (pg n (mg l i).snd.fst).fst (pg n (mg l i).snd.fst).snd.fst).wi, I64 (ansV g (pg n (mg l i).snd.fst).fst (pg n (mg l i).snd.fst).snd.fst).re, I64 (ansV g (pg n (mg l i).snd.fst).fst (pg n (mg l i).snd.fst).snd.fst).se, I64 (rcv w (pg n (mg l i).snd.fst).fst (pg n (mg l i).snd.fst).snd.fst).fst, SV.row 2, SV.row 3]), some (Box.rows Pk (er n (mg l i).snd.fst ++ [((rcv w (pg n (mg l i).snd.fst).fst (pg n (mg l i).snd.fst).snd.fst).snd.snd.fst, (rcv w (pg n (mg l i).snd.fst).fst (pg n (mg l i).snd.fst).snd.fst).snd.snd.snd.fst, false)])), some (Box.rows Ty.str o)]))))))
                (.node ((rcv w (pg n (mg l i).snd.fst).fst (pg n (mg l i).snd.fst).snd.fst).fst != IntKind.i64.wrap ((o.length : Int) + 1))
                 (.leaf (Stop.done (SV.bool false)))
                 (.node (decide ((o.length : Int) > (h.ls.length : Int)))
                  (.leaf (Stop.done (SV.bool false)))
                  (.node (decide ((ansV g (pg n (mg l i).snd.fst).fst (pg n (mg l i).snd.fst).snd.fst).ba > (rcv w (pg n (mg l i).snd.fst).fst (pg n (mg l i).snd.fst).snd.fst).fst))
                   (.leaf (Stop.done (SV.bool false)))
                   (.leaf (Stop.at (loopOf Try.prog 8 1) 103 (slotsS 103 [(2, SV.list Mv l), (7, SV.ptr 0 0), (9, SV.ptr 1 0), (10, I64 i), (11, I64 0)]) [some (Box.cells [SV.list Ty.str h.ls, I64 h.ba, I64 h.ne, I64 h.wi, I64 h.re, I64 h.se]), some (Box.cells [SV.list Ty.str (ansV g (pg n (mg l i).snd.fst).fst (pg n (mg l i).snd.fst).snd.fst).ls, I64 (ansV g (pg n (mg l i).snd.fst).fst (pg n (mg l i).snd.fst).snd.fst).ba, I64 (ansV g (pg n (mg l i).snd.fst).fst (pg n (mg l i).snd.fst).snd.fst).ne, I64 (ansV g (pg n (mg l i).snd.fst).fst (pg n (mg l i).snd.fst).snd.fst).wi, I64 (ansV g (pg n (mg l i).snd.fst).fst (pg n (mg l i).snd.fst).snd.fst).re, I64 (ansV g (pg n (mg l i).snd.fst).fst (pg n (mg l i).snd.fst).snd.fst).se, I64 (rcv w (pg n (mg l i).snd.fst).fst (pg n (mg l i).snd.fst).snd.fst).fst, SV.row 2, SV.row 3]), some (Box.rows Pk (er n (mg l i).snd.fst)), some (Box.rows Ty.str o)])))))))))))))))
      (.node (w != IntKind.i64.wrap ((o.length : Int) + 1))
       (.leaf (Stop.done (SV.bool false)))
       (.node (decide ((o.length : Int) > (h.ls.length : Int)))
        (.leaf (Stop.done (SV.bool false)))
        (.node (decide (g.ba > w))
         (.leaf (Stop.done (SV.bool false)))
         (.leaf (Stop.at (loopOf Try.prog 8 1) 103 (slotsS 103 [(2, SV.list Mv l), (7, SV.ptr 0 0), (9, SV.ptr 1 0), (10, I64 i), (11, I64 0)]) [some (Box.cells [SV.list Ty.str h.ls, I64 h.ba, I64 h.ne, I64 h.wi, I64 h.re, I64 h.se]), some (Box.cells [SV.list Ty.str g.ls, I64 g.ba, I64 g.ne, I64 g.wi, I64 g.re, I64 g.se, I64 w, SV.row 2, SV.row 3]), some (Box.rows Pk n), some (Box.rows Ty.str o)]))))))
     (.node ((mg l i).fst == 2)
      (.node (decide ((mg l i).snd.fst ≥ 0))
       (.node (!decide ((mg l i).snd.fst < (n.length : Int)))
        (.node (w != IntKind.i64.wrap ((o.length : Int) + 1))
         (.leaf (Stop.done (SV.bool false)))
         (.node (decide ((o.length : Int) > (h.ls.length : Int)))
          (.leaf (Stop.done (SV.bool false)))
          (.node (decide (g.ba > w))
           (.leaf (Stop.done (SV.bool false)))
           (.leaf (Stop.at (loopOf Try.prog 8 1) 103 (slotsS 103 [(2, SV.list Mv l), (7, SV.ptr 0 0), (9, SV.ptr 1 0), (10, I64 i), (11, I64 0)]) [some (Box.cells [SV.list Ty.str h.ls, I64 h.ba, I64 h.ne, I64 h.wi, I64 h.re, I64 h.se]), some (Box.cells [SV.list Ty.str g.ls, I64 g.ba, I64 g.ne, I64 g.wi, I64 g.re, I64 g.se, I64 w, SV.row 2, SV.row 3]), some (Box.rows Pk n), some (Box.rows Ty.str o)])))))
        (.req (decide (0 ≤ (mg l i).snd.fst) && decide ((mg l i).snd.fst < (n.length : Int))) (.req (!n.isEmpty) (.node ((n).isEmpty)
           (.fail 113)
           (.req (decide ((0 + (n).length) * 32 ≤ 140737488355328)) (.req (decide (0 ≤ (mg l i).snd.fst) && decide ((mg l i).snd.fst < ↑([] ++ n).length) && IntKind.i64.wrap ((mg l i).snd.fst + 1) == (mg l i).snd.fst + 1) (.node (w != IntKind.i64.wrap ((o.length : Int) + 1))
              (.leaf (Stop.done (SV.bool false)))
              (.node (decide ((o.length : Int) > (h.ls.length : Int)))
               (.leaf (Stop.done (SV.bool false)))
               (.node (decide (g.ba > w))
                (.leaf (Stop.done (SV.bool false)))
                (.leaf (Stop.at (loopOf Try.prog 8 1) 103 (slotsS 103 [(2, SV.list Mv l), (7, SV.ptr 0 0), (9, SV.ptr 1 0), (10, I64 i), (11, I64 0)]) [some (Box.cells [SV.list Ty.str h.ls, I64 h.ba, I64 h.ne, I64 h.wi, I64 h.re, I64 h.se]), some (Box.cells [SV.list Ty.str g.ls, I64 g.ba, I64 g.ne, I64 g.wi, I64 g.re, I64 g.se, I64 w, SV.row 2, SV.row 3]), some (Box.rows Pk (er n (mg l i).snd.fst)), some (Box.rows Ty.str o)])))))))))))
       (.node (w != IntKind.i64.wrap ((o.length : Int) + 1))
        (.leaf (Stop.done (SV.bool false)))
        (.node (decide ((o.length : Int) > (h.ls.length : Int)))
         (.leaf (Stop.done (SV.bool false)))
         (.node (decide (g.ba > w))
          (.leaf (Stop.done (SV.bool false)))
          (.leaf (Stop.at (loopOf Try.prog 8 1) 103 (slotsS 103 [(2, SV.list Mv l), (7, SV.ptr 0 0), (9, SV.ptr 1 0), (10, I64 i), (11, I64 0)]) [some (Box.cells [SV.list Ty.str h.ls, I64 h.ba, I64 h.ne, I64 h.wi, I64 h.re, I64 h.se]), some (Box.cells [SV.list Ty.str g.ls, I64 g.ba, I64 g.ne, I64 g.wi, I64 g.re, I64 g.se, I64 w, SV.row 2, SV.row 3]), some (Box.rows Pk n), some (Box.rows Ty.str o)]))))))
      (.node ((mg l i).fst == 3)
       (.node (decide ((mg l i).snd.fst ≥ 0))
        (.node (!decide ((mg l i).snd.fst < (n.length : Int)))
         (.node (w != IntKind.i64.wrap ((o.length : Int) + 1))
          (.leaf (Stop.done (SV.bool false)))
          (.node (decide ((o.length : Int) > (h.ls.length : Int)))
           (.leaf (Stop.done (SV.bool false)))
           (.node (decide (g.ba > w))
            (.leaf (Stop.done (SV.bool false)))
            (.leaf (Stop.at (loopOf Try.prog 8 1) 103 (slotsS 103 [(2, SV.list Mv l), (7, SV.ptr 0 0), (9, SV.ptr 1 0), (10, I64 i), (11, I64 0)]) [some (Box.cells [SV.list Ty.str h.ls, I64 h.ba, I64 h.ne, I64 h.wi, I64 h.re, I64 h.se]), some (Box.cells [SV.list Ty.str g.ls, I64 g.ba, I64 g.ne, I64 g.wi, I64 g.re, I64 g.se, I64 w, SV.row 2, SV.row 3]), some (Box.rows Pk n), some (Box.rows Ty.str o)])))))
         (.node (decide ((n.length : Int) ≥ 64))
          (.node (w != IntKind.i64.wrap ((o.length : Int) + 1))
           (.leaf (Stop.done (SV.bool false)))
           (.node (decide ((o.length : Int) > (h.ls.length : Int)))
            (.leaf (Stop.done (SV.bool false)))
            (.node (decide (g.ba > w))
             (.leaf (Stop.done (SV.bool false)))
             (.leaf (Stop.at (loopOf Try.prog 8 1) 103 (slotsS 103 [(2, SV.list Mv l), (7, SV.ptr 0 0), (9, SV.ptr 1 0), (10, I64 i), (11, I64 0)]) [some (Box.cells [SV.list Ty.str h.ls, I64 h.ba, I64 h.ne, I64 h.wi, I64 h.re, I64 h.se]), some (Box.cells [SV.list Ty.str g.ls, I64 g.ba, I64 g.ne, I64 g.wi, I64 g.re, I64 g.se, I64 w, SV.row 2, SV.row 3]), some (Box.rows Pk n), some (Box.rows Ty.str o)])))))
          (.req (!n.isEmpty) (.node ((n).isEmpty)
            (.fail 113)
            (.req (decide ((0 + (n).length) * 32 ≤ 140737488355328)) (.req (decide (0 ≤ (mg l i).snd.fst) && decide ((mg l i).snd.fst < (n.length : Int))) (.req (decide ((([] ++ n).length + ([(pg n (mg l i).snd.fst)]).length) * 32 ≤ 140737488355328)) (.node (decide ((((([] ++ n) ++ [(pg n (mg l i).snd.fst)]).length : Nat) : Int) < 30))
                (.node (w != IntKind.i64.wrap ((o.length : Int) + 1))
                 (.leaf (Stop.done (SV.bool false)))
                 (.node (decide ((o.length : Int) > (h.ls.length : Int)))
                  (.leaf (Stop.done (SV.bool false)))
                  (.node (decide (g.ba > w))
                   (.leaf (Stop.done (SV.bool false)))
                   (.leaf (Stop.at (loopOf Try.prog 8 1) 103 (slotsS 103 [(2, SV.list Mv l), (7, SV.ptr 0 0), (9, SV.ptr 1 0), (10, I64 i), (11, I64 0)]) [some (Box.cells [SV.list Ty.str h.ls, I64 h.ba, I64 h.ne, I64 h.wi, I64 h.re, I64 h.se]), some (Box.cells [SV.list Ty.str g.ls, I64 g.ba, I64 g.ne, I64 g.wi, I64 g.re, I64 g.se, I64 w, SV.row 2, SV.row 3]), some (Box.rows Pk (([] ++ n) ++ [(pg n (mg l i).snd.fst)])), some (Box.rows Ty.str o)])))))
                (.node (w != IntKind.i64.wrap ((o.length : Int) + 1))
                 (.leaf (Stop.done (SV.bool false)))
                 (.node (decide ((o.length : Int) > (h.ls.length : Int)))
                  (.leaf (Stop.done (SV.bool false)))
                  (.node (decide (g.ba > w))
                   (.leaf (Stop.done (SV.bool false)))
                   (.leaf (Stop.at (loopOf Try.prog 8 1) 103 (slotsS 103 [(2, SV.list Mv l), (7, SV.ptr 0 0), (9, SV.ptr 1 0), (10, I64 i), (11, I64 0)]) [some (Box.cells [SV.list Ty.str h.ls, I64 h.ba, I64 h.ne, I64 h.wi, I64 h.re, I64 h.se]), some (Box.cells [SV.list Ty.str g.ls, I64 g.ba, I64 g.ne, I64 g.wi, I64 g.re, I64 g.se, I64 w, SV.row 2, SV.row 3]), some (Box.rows Pk n), some (Box.rows Ty.str o)])))))))))))))
        (.node (w != IntKind.i64.wrap ((o.length : Int) + 1))
         (.leaf (Stop.done (SV.bool false)))
         (.node (decide ((o.length : Int) > (h.ls.length : Int)))
          (.leaf (Stop.done (SV.bool false)))
          (.node (decide (g.ba > w))
           (.leaf (Stop.done (SV.bool false)))
           (.leaf (Stop.at (loopOf Try.prog 8 1) 103 (slotsS 103 [(2, SV.list Mv l), (7, SV.ptr 0 0), (9, SV.ptr 1 0), (10, I64 i), (11, I64 0)]) [some (Box.cells [SV.list Ty.str h.ls, I64 h.ba, I64 h.ne, I64 h.wi, I64 h.re, I64 h.se]), some (Box.cells [SV.list Ty.str g.ls, I64 g.ba, I64 g.ne, I64 g.wi, I64 g.re, I64 g.se, I64 w, SV.row 2, SV.row 3]), some (Box.rows Pk n), some (Box.rows Ty.str o)]))))))
       (.node ((mg l i).fst == 4)
        (.node (decide ((mg l i).snd.fst ≥ 0))
         (.node (!decide ((mg l i).snd.fst < (n.length : Int)))
          (.node (w != IntKind.i64.wrap ((o.length : Int) + 1))
           (.leaf (Stop.done (SV.bool false)))
           (.node (decide ((o.length : Int) > (h.ls.length : Int)))
            (.leaf (Stop.done (SV.bool false)))
            (.node (decide (g.ba > w))
             (.leaf (Stop.done (SV.bool false)))
             (.leaf (Stop.at (loopOf Try.prog 8 1) 103 (slotsS 103 [(2, SV.list Mv l), (7, SV.ptr 0 0), (9, SV.ptr 1 0), (10, I64 i), (11, I64 0)]) [some (Box.cells [SV.list Ty.str h.ls, I64 h.ba, I64 h.ne, I64 h.wi, I64 h.re, I64 h.se]), some (Box.cells [SV.list Ty.str g.ls, I64 g.ba, I64 g.ne, I64 g.wi, I64 g.re, I64 g.se, I64 w, SV.row 2, SV.row 3]), some (Box.rows Pk n), some (Box.rows Ty.str o)])))))
          (.req (decide (0 ≤ (mg l i).snd.fst) && decide ((mg l i).snd.fst < (n.length : Int))) (.node ((pg n (mg l i).snd.fst).snd.snd)
            (.node (w != IntKind.i64.wrap ((o.length : Int) + 1))
             (.leaf (Stop.done (SV.bool false)))
             (.node (decide ((o.length : Int) > (h.ls.length : Int)))
              (.leaf (Stop.done (SV.bool false)))
              (.node (decide (g.ba > w))
               (.leaf (Stop.done (SV.bool false)))
               (.leaf (Stop.at (loopOf Try.prog 8 1) 103 (slotsS 103 [(2, SV.list Mv l), (7, SV.ptr 0 0), (9, SV.ptr 1 0), (10, I64 i), (11, I64 0)]) [some (Box.cells [SV.list Ty.str h.ls, I64 h.ba, I64 h.ne, I64 h.wi, I64 h.re, I64 h.se]), some (Box.cells [SV.list Ty.str g.ls, I64 g.ba, I64 g.ne, I64 g.wi, I64 g.re, I64 g.se, I64 w, SV.row 2, SV.row 3]), some (Box.rows Pk n), some (Box.rows Ty.str o)])))))
            (.req (decide (0 ≤ (mg l i).snd.fst) && decide ((mg l i).snd.fst < (n.length : Int))) (.node ((pg n (mg l i).snd.fst).snd.fst == [])
              (.node (w != IntKind.i64.wrap ((o.length : Int) + 1))
               (.leaf (Stop.done (SV.bool false)))
               (.node (decide ((o.length : Int) > (h.ls.length : Int)))
                (.leaf (Stop.done (SV.bool false)))
                (.node (decide (g.ba > w))
                 (.leaf (Stop.done (SV.bool false)))
                 (.leaf (Stop.at (loopOf Try.prog 8 1) 103 (slotsS 103 [(2, SV.list Mv l), (7, SV.ptr 0 0), (9, SV.ptr 1 0), (10, I64 i), (11, I64 0)]) [some (Box.cells [SV.list Ty.str h.ls, I64 h.ba, I64 h.ne, I64 h.wi, I64 h.re, I64 h.se]), some (Box.cells [SV.list Ty.str g.ls, I64 g.ba, I64 g.ne, I64 g.wi, I64 g.re, I64 g.se, I64 w, SV.row 2, SV.row 3]), some (Box.rows Pk n), some (Box.rows Ty.str o)])))))
              (.req (!n.isEmpty) (.node ((n).isEmpty)
                (.fail 113)
                (.req (decide ((0 + (n).length) * 32 ≤ 140737488355328)) (.req (decide (0 ≤ (mg l i).snd.fst) && decide ((mg l i).snd.fst < (n.length : Int))) (.req (!((tn (pg n (mg l i).snd.fst).snd.fst).length : Int) == 0) (.req (!((tn (pg n (mg l i).snd.fst).snd.fst).length : Int) == 0) (.req (decide (0 ≤ (IntKind.i64.wrap (Int.tmod (mg l i).snd.snd ((tn (pg n (mg l i).snd.fst).snd.fst).length : Int) + ((tn (pg n (mg l i).snd.fst).snd.fst).length : Int))).tmod ((tn (pg n (mg l i).snd.fst).snd.fst).length : Int)) && decide ((IntKind.i64.wrap (Int.tmod (mg l i).snd.snd ((tn (pg n (mg l i).snd.fst).snd.fst).length : Int) + ((tn (pg n (mg l i).snd.fst).snd.fst).length : Int))).tmod ((tn (pg n (mg l i).snd.fst).snd.fst).length : Int) < ((tn (pg n (mg l i).snd.fst).snd.fst).length : Int))) (.req (decide (((IntKind.i64.wrap (Int.tmod (mg l i).snd.snd ((tn (pg n (mg l i).snd.fst).snd.fst).length : Int) + ((tn (pg n (mg l i).snd.fst).snd.fst).length : Int))).tmod ((tn (pg n (mg l i).snd.fst).snd.fst).length : Int)).toNat < (tn (pg n (mg l i).snd.fst).snd.fst).length)) (.req (decide (0 ≤ (IntKind.i64.wrap (Int.tmod (mg l i).snd.snd ((tn (pg n (mg l i).snd.fst).snd.fst).length : Int) + ((tn (pg n (mg l i).snd.fst).snd.fst).length : Int))).tmod ((tn (pg n (mg l i).snd.fst).snd.fst).length : Int)) && decide ((IntKind.i64.wrap (Int.tmod (mg l i).snd.snd ((tn (pg n (mg l i).snd.fst).snd.fst).length : Int) + ((tn (pg n (mg l i).snd.fst).snd.fst).length : Int))).tmod ((tn (pg n (mg l i).snd.fst).snd.fst).length : Int) < ((tn (pg n (mg l i).snd.fst).snd.fst).length : Int))) (.req (decide (((IntKind.i64.wrap (Int.tmod (mg l i).snd.snd ((tn (pg n (mg l i).snd.fst).snd.fst).length : Int) + ((tn (pg n (mg l i).snd.fst).snd.fst).length : Int))).tmod ((tn (pg n (mg l i).snd.fst).snd.fst).length : Int)).toNat < (tn (pg n (mg l i).snd.fst).snd.fst).length)) (.req (decide (0 ≤ (mg l i).snd.fst) && decide ((mg l i).snd.fst < ↑([] ++ n).length)) (.req (decide (Int.toNat (mg l i).snd.fst < ([] ++ n).length)) (.req (decide (0 ≤ (mg l i).snd.fst) && decide ((mg l i).snd.fst < ↑(([] ++ n).set (Int.toNat (mg l i).snd.fst) ((([] ++ n).getD (Int.toNat (mg l i).snd.fst) (Ty.bool.pair (Ty.str.pair Ty.bool)).dflt).fst, un ((tn (pg n (mg l i).snd.fst).snd.fst).set ((IntKind.i64.wrap (Int.tmod (mg l i).snd.snd ((tn (pg n (mg l i).snd.fst).snd.fst).length : Int) + ((tn (pg n (mg l i).snd.fst).snd.fst).length : Int))).tmod ((tn (pg n (mg l i).snd.fst).snd.fst).length : Int)).toNat (IntKind.u8.wrap ↑(BitVec.ofInt 8 ((tn (pg n (mg l i).snd.fst).snd.fst).getD ((IntKind.i64.wrap (Int.tmod (mg l i).snd.snd ((tn (pg n (mg l i).snd.fst).snd.fst).length : Int) + ((tn (pg n (mg l i).snd.fst).snd.fst).length : Int))).tmod ((tn (pg n (mg l i).snd.fst).snd.fst).length : Int)).toNat 0) ^^^ BitVec.ofInt 8 1).toNat)), (([] ++ n).getD (Int.toNat (mg l i).snd.fst) (Ty.bool.pair (Ty.str.pair Ty.bool)).dflt).snd.snd)).length)) (.req (decide (Int.toNat (mg l i).snd.fst < (([] ++ n).set (Int.toNat (mg l i).snd.fst) ((([] ++ n).getD (Int.toNat (mg l i).snd.fst) (Ty.bool.pair (Ty.str.pair Ty.bool)).dflt).fst, un ((tn (pg n (mg l i).snd.fst).snd.fst).set ((IntKind.i64.wrap (Int.tmod (mg l i).snd.snd ((tn (pg n (mg l i).snd.fst).snd.fst).length : Int) + ((tn (pg n (mg l i).snd.fst).snd.fst).length : Int))).tmod ((tn (pg n (mg l i).snd.fst).snd.fst).length : Int)).toNat (IntKind.u8.wrap ↑(BitVec.ofInt 8 ((tn (pg n (mg l i).snd.fst).snd.fst).getD ((IntKind.i64.wrap (Int.tmod (mg l i).snd.snd ((tn (pg n (mg l i).snd.fst).snd.fst).length : Int) + ((tn (pg n (mg l i).snd.fst).snd.fst).length : Int))).tmod ((tn (pg n (mg l i).snd.fst).snd.fst).length : Int)).toNat 0) ^^^ BitVec.ofInt 8 1).toNat)), (([] ++ n).getD (Int.toNat (mg l i).snd.fst) (Ty.bool.pair (Ty.str.pair Ty.bool)).dflt).snd.snd)).length)) (.node (w != IntKind.i64.wrap ((o.length : Int) + 1))
                             (.leaf (Stop.done (SV.bool false)))
                             (.node (decide ((o.length : Int) > (h.ls.length : Int)))
                              (.leaf (Stop.done (SV.bool false)))
                              (.node (decide (g.ba > w))
                               (.leaf (Stop.done (SV.bool false)))
                               (.leaf (Stop.at (loopOf Try.prog 8 1) 103 (slotsS 103 [(2, SV.list Mv l), (7, SV.ptr 0 0), (9, SV.ptr 1 0), (10, I64 i), (11, I64 0)]) [some (Box.cells [SV.list Ty.str h.ls, I64 h.ba, I64 h.ne, I64 h.wi, I64 h.re, I64 h.se]), some (Box.cells [SV.list Ty.str g.ls, I64 g.ba, I64 g.ne, I64 g.wi, I64 g.re, I64 g.se, I64 w, SV.row 2, SV.row 3]), some (Box.rows Pk ((([] ++ n).set (Int.toNat (mg l i).snd.fst) ((([] ++ n).getD (Int.toNat (mg l i).snd.fst) (Ty.bool.pair (Ty.str.pair Ty.bool)).dflt).fst, un ((tn (pg n (mg l i).snd.fst).snd.fst).set ((IntKind.i64.wrap (Int.tmod (mg l i).snd.snd ((tn (pg n (mg l i).snd.fst).snd.fst).length : Int) + ((tn (pg n (mg l i).snd.fst).snd.fst).length : Int))).tmod ((tn (pg n (mg l i).snd.fst).snd.fst).length : Int)).toNat (IntKind.u8.wrap ↑(BitVec.ofInt 8 ((tn (pg n (mg l i).snd.fst).snd.fst).getD ((IntKind.i64.wrap (Int.tmod (mg l i).snd.snd ((tn (pg n (mg l i).snd.fst).snd.fst).length : Int) + ((tn (pg n (mg l i).snd.fst).snd.fst).length : Int))).tmod ((tn (pg n (mg l i).snd.fst).snd.fst).length : Int)).toNat 0) ^^^ BitVec.ofInt 8 1).toNat)), (([] ++ n).getD (Int.toNat (mg l i).snd.fst) (Ty.bool.pair (Ty.str.pair Ty.bool)).dflt).snd.snd)).set (Int.toNat (mg l i).snd.fst) (((([] ++ n).set (Int.toNat (mg l i).snd.fst) ((([] ++ n).getD (Int.toNat (mg l i).snd.fst) (Ty.bool.pair (Ty.str.pair Ty.bool)).dflt).fst, un ((tn (pg n (mg l i).snd.fst).snd.fst).set ((IntKind.i64.wrap (Int.tmod (mg l i).snd.snd ((tn (pg n (mg l i).snd.fst).snd.fst).length : Int) + ((tn (pg n (mg l i).snd.fst).snd.fst).length : Int))).tmod ((tn (pg n (mg l i).snd.fst).snd.fst).length : Int)).toNat (IntKind.u8.wrap ↑(BitVec.ofInt 8 ((tn (pg n (mg l i).snd.fst).snd.fst).getD ((IntKind.i64.wrap (Int.tmod (mg l i).snd.snd ((tn (pg n (mg l i).snd.fst).snd.fst).length : Int) + ((tn (pg n (mg l i).snd.fst).snd.fst).length : Int))).tmod ((tn (pg n (mg l i).snd.fst).snd.fst).length : Int)).toNat 0) ^^^ BitVec.ofInt 8 1).toNat)), (([] ++ n).getD (Int.toNat (mg l i).snd.fst) (Ty.bool.pair (Ty.str.pair Ty.bool)).dflt).snd.snd)).getD (Int.toNat (mg l i).snd.fst) (Ty.bool.pair (Ty.str.pair Ty.bool)).dflt).fst, ((([] ++ n).set (Int.toNat (mg l i).snd.fst) ((([] ++ n).getD (Int.toNat (mg l i).snd.fst) (Ty.bool.pair (Ty.str.pair Ty.bool)).dflt).fst, un ((tn (pg n (mg l i).snd.fst).snd.fst).set ((IntKind.i64.wrap (Int.tmod (mg l i).snd.snd ((tn (pg n (mg l i).snd.fst).snd.fst).length : Int) + ((tn (pg n (mg l i).snd.fst).snd.fst).length : Int))).tmod ((tn (pg n (mg l i).snd.fst).snd.fst).length : Int)).toNat (IntKind.u8.wrap ↑(BitVec.ofInt 8 ((tn (pg n (mg l i).snd.fst).snd.fst).getD ((IntKind.i64.wrap (Int.tmod (mg l i).snd.snd ((tn (pg n (mg l i).snd.fst).snd.fst).length : Int) + ((tn (pg n (mg l i).snd.fst).snd.fst).length : Int))).tmod ((tn (pg n (mg l i).snd.fst).snd.fst).length : Int)).toNat 0) ^^^ BitVec.ofInt 8 1).toNat)), (([] ++ n).getD (Int.toNat (mg l i).snd.fst) (Ty.bool.pair (Ty.str.pair Ty.bool)).dflt).snd.snd)).getD (Int.toNat (mg l i).snd.fst) (Ty.bool.pair (Ty.str.pair Ty.bool)).dflt).snd.fst, true))), some (Box.rows Ty.str o)]))))))))))))))))))))))))
         (.node (w != IntKind.i64.wrap ((o.length : Int) + 1))
          (.leaf (Stop.done (SV.bool false)))
          (.node (decide ((o.length : Int) > (h.ls.length : Int)))
           (.leaf (Stop.done (SV.bool false)))
           (.node (decide (g.ba > w))
            (.leaf (Stop.done (SV.bool false)))
            (.leaf (Stop.at (loopOf Try.prog 8 1) 103 (slotsS 103 [(2, SV.list Mv l), (7, SV.ptr 0 0), (9, SV.ptr 1 0), (10, I64 i), (11, I64 0)]) [some (Box.cells [SV.list Ty.str h.ls, I64 h.ba, I64 h.ne, I64 h.wi, I64 h.re, I64 h.se]), some (Box.cells [SV.list Ty.str g.ls, I64 g.ba, I64 g.ne, I64 g.wi, I64 g.re, I64 g.se, I64 w, SV.row 2, SV.row 3]), some (Box.rows Pk n), some (Box.rows Ty.str o)]))))))
        (.req (smallsB g.ls) (.node ((agaV g g.ba).snd == 0)
          (.node (w != IntKind.i64.wrap ((o.length : Int) + 1))
           (.leaf (Stop.done (SV.bool false)))
           (.node (decide ((o.length : Int) > (h.ls.length : Int)))
            (.leaf (Stop.done (SV.bool false)))
            (.node (decide ((agaV g g.ba).fst.ba > w))
             (.leaf (Stop.done (SV.bool false)))
             (.leaf (Stop.at (loopOf Try.prog 8 1) 103 (slotsS 103 [(2, SV.list Mv l), (7, SV.ptr 0 0), (9, SV.ptr 1 0), (10, I64 i), (11, I64 0)]) [some (Box.cells [SV.list Ty.str h.ls, I64 h.ba, I64 h.ne, I64 h.wi, I64 h.re, I64 h.se]), some (Box.cells [SV.list Ty.str (agaV g g.ba).fst.ls, I64 (agaV g g.ba).fst.ba, I64 (agaV g g.ba).fst.ne, I64 (agaV g g.ba).fst.wi, I64 (agaV g g.ba).fst.re, I64 (agaV g g.ba).fst.se, I64 w, SV.row 2, SV.row 3]), some (Box.rows Pk n), some (Box.rows Ty.str o)])))))
          (.node (w != IntKind.i64.wrap ((o.length : Int) + 1))
           (.leaf (Stop.done (SV.bool false)))
           (.node (decide ((o.length : Int) > (h.ls.length : Int)))
            (.leaf (Stop.done (SV.bool false)))
            (.node (decide (g.ba > w))
             (.leaf (Stop.done (SV.bool false)))
             (.leaf (Stop.at (loopOf Try.prog 8 1) 103 (slotsS 103 [(2, SV.list Mv l), (7, SV.ptr 0 0), (9, SV.ptr 1 0), (10, I64 i), (11, I64 0)]) [some (Box.cells [SV.list Ty.str h.ls, I64 h.ba, I64 h.ne, I64 h.wi, I64 h.re, I64 h.se]), some (Box.cells [SV.list Ty.str g.ls, I64 g.ba, I64 g.ne, I64 g.wi, I64 g.re, I64 g.se, I64 w, SV.row 2, SV.row 3]), some (Box.rows Pk n), some (Box.rows Ty.str o)])))))))))))))
  (.leaf (Stop.done (SV.bool true))))
 (.leaf (Stop.done (SV.bool true)))
theorem lo1 (l : List MvT) (h g : Ho) (w : Int) (n : List PkT) (o : List (List UInt8)) (i : Int) : segR (Env.ofR Try.prog (sumOf [fFew, fSta, fSnd, fAnsH, fRecv, fAga, fAwake]) (wrOf [wDel]) (rdOf [18, 20, 22])) 1000 (fnOf Try.prog 8) .unit (keepS 103 [2,7,9,10,11]) (loopOf Try.prog 8 0) lo1_p (slotsS 103 [(2, .list Mv l), (7, .ptr 0 0), (9, .ptr 1 0), (10, I64 i)]) [some (.cells h.cells), some (.cells (wCells g w)), some (.rows Pk n), some (.rows .str o)] = lo1_t l h g w n o i := by kernel_rfl
def lo2_p : Plan := .fork (.fork (.all) (.all)) (.all)
noncomputable def lo2_t (l : List MvT) (h g : Ho) (w : Int) (n : List PkT) (o : List (List UInt8)) (i k : Int) : Tree Stop :=
   .node (decide (k < (o.length : Int)))
 (.req (decide (0 ≤ k) && decide (k < (o.length : Int))) (.req (decide (k.toNat < o.length)) (.req (decide (0 ≤ k) && decide (k < (h.ls.length : Int))) (.node (!o.getD k.toNat Ty.str.dflt == h.ls.getD k.toNat Ty.str.dflt)
     (.leaf (Stop.done (SV.bool false)))
     (.leaf (Stop.at (loopOf Try.prog 8 1) 103 (slotsS 103 [(2, SV.list Mv l), (7, SV.ptr 0 0), (9, SV.ptr 1 0), (10, I64 i), (11, I64 (IntKind.i64.wrap (k + 1)))]) [some (Box.cells [SV.list Ty.str h.ls, I64 h.ba, I64 h.ne, I64 h.wi, I64 h.re, I64 h.se]), some (Box.cells [SV.list Ty.str g.ls, I64 g.ba, I64 g.ne, I64 g.wi, I64 g.re, I64 g.se, I64 w, SV.row 2, SV.row 3]), some (Box.rows Pk n), some (Box.rows Ty.str o)]))))))
 (.leaf (Stop.at (loopOf Try.prog 8 0) 103 (slotsS 103 [(2, SV.list Mv l), (7, SV.ptr 0 0), (9, SV.ptr 1 0), (10, I64 (IntKind.i64.wrap (i + 1))), (11, I64 k)]) [some (Box.cells [SV.list Ty.str h.ls, I64 h.ba, I64 h.ne, I64 h.wi, I64 h.re, I64 h.se]), some (Box.cells [SV.list Ty.str g.ls, I64 g.ba, I64 g.ne, I64 g.wi, I64 g.re, I64 g.se, I64 w, SV.row 2, SV.row 3]), some (Box.rows Pk n), some (Box.rows Ty.str o)]))
theorem lo2 (l : List MvT) (h g : Ho) (w : Int) (n : List PkT) (o : List (List UInt8)) (i k : Int) : segR (Env.ofR Try.prog (sumOf [fFew, fSta, fSnd, fAnsH, fRecv, fAga, fAwake]) (wrOf [wDel]) (rdOf [18, 20, 22])) 1000 (fnOf Try.prog 8) .unit (keepS 103 [2,7,9,10,11]) (loopOf Try.prog 8 1) lo2_p (slotsS 103 [(2, .list Mv l), (7, .ptr 0 0), (9, .ptr 1 0), (10, I64 i), (11, I64 k)]) [some (.cells h.cells), some (.cells (wCells g w)), some (.rows Pk n), some (.rows .str o)] = lo2_t l h g w n o i k := by kernel_rfl
end Go.Proofs.Ytibpodgdondakaa
set_option linter.unusedSimpArgs false
set_option linter.unusedVariables false
set_option maxRecDepth 100000
namespace Go.Proofs.Ytibpodgdondakaa
open Go.Sx

theorem h_node {α : Type} {L : α → Prop} {b : Bool} {t f : Tree α} (ht : b = true → t.holds L) (hf : b = false → f.holds L) : (Tree.node b t f).holds L := ⟨ht, hf⟩
theorem h_req {α : Type} {L : α → Prop} {b : Bool} {t : Tree α} (hb : b = true) (ht : t.holds L) : (Tree.req b t).holds L := ⟨hb, ht⟩

theorem lkFs : allOk Try.prog [fFew, fSta, fSnd, fAnsH, fRecv, fAga, fAwake] := ⟨o_few, o_sta, o_snd, o_ansH, o_recv, o_aga, o_awake, trivial⟩

noncomputable def chkT (l : List MvT) (h g : Ho) (w : Int) (n : List PkT) (o : List (List UInt8)) (i : Int) : Tree Stop :=
  .node (w != IntKind.i64.wrap ((o.length : Int) + 1))
   (.leaf (Stop.done (SV.bool false)))
   (.node (decide ((o.length : Int) > (h.ls.length : Int)))
    (.leaf (Stop.done (SV.bool false)))
    (.node (decide (g.ba > w))
     (.leaf (Stop.done (SV.bool false)))
     (.leaf (Stop.at (loopOf Try.prog 8 1) 103 (slotsS 103 [(2, SV.list Mv l), (7, SV.ptr 0 0), (9, SV.ptr 1 0), (10, I64 i), (11, I64 0)]) [some (Box.cells h.cells), some (Box.cells (wCells g w)), some (Box.rows Pk n), some (Box.rows Ty.str o)]))))

abbrev Ends1 (items : List Item) (slots : List SV) (boxes : List (Option Box)) : Prop := RunsR Try.prog (fnOf Try.prog 8) (.bool true) items slots boxes
def Outer (l : List MvT) (h : Ho) (W : Wi) (i : Int) : Prop :=
  Ends1 (loopOf Try.prog 8 0) (slotsS 103 [(2, .list Mv l), (7, .ptr 0 0), (9, .ptr 1 0), (10, I64 i)]) [some (.cells h.cells), some (.cells (wCells W.g W.w)), some (.rows Pk W.n), some (.rows .str W.o)]
def Inner (l : List MvT) (h : Ho) (W : Wi) (i k : Int) : Prop :=
  Ends1 (loopOf Try.prog 8 1) (slotsS 103 [(2, .list Mv l), (7, .ptr 0 0), (9, .ptr 1 0), (10, I64 i), (11, I64 k)]) [some (.cells h.cells), some (.cells (wCells W.g W.w)), some (.rows Pk W.n), some (.rows .str W.o)]

theorem no_top (a b c d : SV) : slotsS 103 [(2, a), (7, b), (9, c), (10, d), (11, .top)] = slotsS 103 [(2, a), (7, b), (9, c), (10, d)] := by kernel_rfl
theorem inner_ok {l : List MvT} {h : Ho} {W : Wi} {i : Int} (hi : Inv h.ls W) (h0 : 0 ≤ i ∧ i < 40) (hO : Outer l h W (i + 1)) : ∀ k : Int, (0 ≤ k ∧ k ≤ W.o.length) → Inner l h W i k := by
  refine runsR_of (hKR lkFs) (n := 1000) (hint := .unit) rfl (fun k : Int => 0 ≤ k ∧ k ≤ W.o.length) (fun k => ((W.o.length : Int) - k).toNat) (keepS 103 [2, 7, 9, 10, 11]) (fun _ => loopOf Try.prog 8 1)
    (fun k => slotsS 103 [(2, .list Mv l), (7, .ptr 0 0), (9, .ptr 1 0), (10, I64 i), (11, I64 k)]) (fun _ => [some (.cells h.cells), some (.cells (wCells W.g W.w)), some (.rows Pk W.n), some (.rows .str W.o)]) (fun _ => lo2_p) fun k hk => ?_
  rw [lo2]
  unfold lo2_t
  have hol := hi.ol
  have hoE := hi.oE
  have hfew := hi.few
  simp only [Tree.holds, decide_eq_true_eq, decide_eq_false_iff_not, Bool.and_eq_true, Bool.not_eq_true', Bool.not_eq_false']
  refine ⟨fun c => ⟨⟨hk.1, c⟩, by omega, ⟨hk.1, by omega⟩, fun d => ?_, fun d => ⟨slotsS_len _ _, .inl ?_⟩⟩, fun c => ⟨slotsS_len _ _, .inr ?_⟩⟩
  · have he : (W.o.getD k.toNat [] : List UInt8) = h.ls.getD k.toNat [] := by
      rw [hoE, List.getD_eq_getElem?_getD, List.getD_eq_getElem?_getD, List.getElem?_take, if_pos (by omega)]
    have e2 : (W.o.getD k.toNat Ty.str.dflt == h.ls.getD k.toNat Ty.str.dflt) = true := beq_iff_eq.2 he
    rw [d] at e2; cases e2
  · rw [wrap64 (by omega) (by omega)]
    exact ⟨k + 1, ⟨by omega, by omega⟩, by omega, by trivial, rfl, rfl⟩
  · rw [wrap64 (by omega) (by omega)]
    have e : k = W.o.length := by omega
    refine runsR_weak false [] (slots' := slotsS 103 [(2, .list Mv l), (7, .ptr 0 0), (9, .ptr 1 0), (10, I64 (i + 1)), (11, .top)]) (boxes' := [some (.cells h.cells), some (.cells (wCells W.g W.w)), some (.rows Pk W.n), some (.rows .str W.o)])
      (slotsS_wk ⟨rfl, .same _, rfl, .same _, rfl, .same _, rfl, .same _, rfl, .top _, trivial⟩) ⟨List.not_mem_nil, .same _, List.not_mem_nil, .same _, List.not_mem_nil, .same _, List.not_mem_nil, .same _, rfl⟩ ?_
    rw [no_top]
    exact hO

abbrev Goes1 (o : Stop) : Prop := match o with
  | .done v' => v' = .bool true
  | .at items' size slots' boxes' => slots'.length = size ∧ RunsR Try.prog (fnOf Try.prog 8) (.bool true) items' slots' boxes'

theorem chk_ok {l : List MvT} {h : Ho} {W : Wi} {i : Int} {g : Ho} {w : Int} {n : List PkT} {o : List (List UInt8)} (hi : Inv h.ls W) (hg : g = W.g) (hw : w = W.w) (hn : n = W.n) (ho : o = W.o) (hI : Inner l h W i 0) : (chkT l h g w n o i).holds Goes1 := by
  subst hg hw hn ho
  have hw := hi.wE
  have hol := hi.ol
  have hfew := hi.few
  have hb := hi.ba
  refine h_node (fun c => ?_) fun _ => h_node (fun c => ?_) fun _ => h_node (fun c => ?_) fun _ => ⟨slotsS_len _ _, hI⟩
  · rw [wrap64 (by omega) (by omega), hw] at c
    simp at c
  · have := of_decide_eq_true c; omega
  · have := of_decide_eq_true c; omega

theorem outer_ok (l : List MvT) (h : Ho) : ∀ (m : Nat) (i : Int) (W : Wi), 0 ≤ i → i ≤ 40 → (40 - i).toNat ≤ m → Inv h.ls W → Outer l h W i := by
  intro m
  induction m with
  | zero =>
    intro i W h0 h1 hm hi
    refine runsR_seg (hKR lkFs) (n := 1000) (hint := .unit) (keep := keepS 103 [2, 7, 9, 10, 11]) (p := lo1_p) rfl ?_
    rw [lo1]
    unfold lo1_t
    refine h_node (fun c1 => h_node (fun c2 => ?_) fun _ => rfl) fun _ => rfl
    have := of_decide_eq_true c2; omega
  | succ m ih =>
    intro i W h0 h1 hm hi
    refine runsR_seg (hKR lkFs) (n := 1000) (hint := .unit) (keep := keepS 103 [2, 7, 9, 10, 11]) (p := lo1_p) rfl ?_
    rw [lo1]
    unfold lo1_t
    refine h_node (fun c1 => h_node (fun c2 => ?_) fun _ => rfl) fun _ => rfl
    have c1 := of_decide_eq_true c1
    have c2 := of_decide_eq_true c2
    refine h_req (by simp; omega) ?_
    have hsm := hi.smalls
    -- on from a state that keeps the law
    have onn : ∀ (W' : Wi) {g : Ho} {w : Int} {n : List PkT} {o : List (List UInt8)}, Inv h.ls W' → g = W'.g → w = W'.w → n = W'.n → o = W'.o → (chkT l h g w n o i).holds Goes1 := fun W' _ _ _ _ hi' hg hw hn ho =>
      chk_ok hi' hg hw hn ho (inner_ok hi' ⟨h0, c2⟩ (ih (i + 1) W' (by omega) (by omega) (by omega) hi') 0 ⟨Int.le_refl 0, by omega⟩)
    have stay : (chkT l h W.g W.w W.n W.o i).holds Goes1 := onn W hi rfl rfl rfl rfl
    have hnl := hi.nl
    have hol := hi.ol
    have hfew := hi.few
    refine h_node (fun k => ?_) fun k0 => h_node (fun k => ?_) fun k1 => h_node (fun k => ?_) fun k2 => h_node (fun k => ?_) fun k3 => h_node (fun k => ?_) fun k4 => ?_
    · -- send
      refine h_req hsm (h_node (fun s => ?_) fun s => ?_)
      · obtain ⟨s1, s2⟩ := hi.send s
        refine h_node (fun c => h_req (by simp; omega) ?_) fun c => ?_
        · exact onn _ (s2 (of_decide_eq_true c)) rfl rfl rfl rfl
        · exact onn _ s1 rfl rfl rfl rfl
      · exact onn _ hi (snd_no s).1 rfl rfl rfl
    · -- arrive
      refine h_node (fun a0 => h_node (fun a1 => ?_) fun a1 => ?_) fun a0 => ?_
      · exact stay
      · have a0 := of_decide_eq_true a0
        have a1 : (mg l i).2.1 < (W.n.length : Int) := by simpa using a1
        have hne : W.n ≠ [] := fun e => by rw [e] at a1; simp at a1; omega
        have hA := hi.arrive a0 a1
        have hsp := (hi.gd _ (pg_mem a0 a1)).1
        have hel : (er W.n (mg l i).2.1).length + 1 = W.n.length := by rw [er_eq, List.length_eraseIdx, if_pos (by omega)]; omega
        refine h_req (by simp; omega) (h_req (by simpa using hne) (h_node (fun c => by simp at c; exact absurd c hne) fun _ => h_req (by simp; omega) (h_req ?_ (h_req ?_ (h_req hsp ?_)))))
        · rw [wrap64 (by omega) (by omega)]; simp; omega
        · rw [hsm, hsp]; rfl
        refine h_node (fun r => h_req (by simp; omega) (h_node (fun b => h_req (by simp; omega) ?_) fun b => ?_)) fun r => h_node (fun b => h_req (by simp; omega) ?_) fun b => ?_
        · exact onn _ hA rfl rfl (by dsimp only; rw [if_pos b]) (by dsimp only; rw [if_pos r])
        · exact onn _ hA rfl rfl (by dsimp only; rw [if_neg (by rw [b]; simp)]) (by dsimp only; rw [if_pos r])
        · exact onn _ hA rfl rfl (by dsimp only; rw [if_pos b]) (by dsimp only; rw [if_neg (by rw [r]; simp)])
        · exact onn _ hA rfl rfl (by dsimp only; rw [if_neg (by rw [b]; simp)]) (by dsimp only; rw [if_neg (by rw [r]; simp)])
      · exact stay
    · -- lost
      refine h_node (fun a0 => h_node (fun a1 => ?_) fun a1 => ?_) fun a0 => ?_
      · exact stay
      · have a0 := of_decide_eq_true a0
        have a1 : (mg l i).2.1 < (W.n.length : Int) := by simpa using a1
        have hne : W.n ≠ [] := fun e => by rw [e] at a1; simp at a1; omega
        refine h_req (by simp; omega) (h_req (by simpa using hne) (h_node (fun c => by simp at c; exact absurd c hne) fun _ => h_req (by simp; omega) (h_req ?_ ?_)))
        · rw [wrap64 (by omega) (by omega)]; simp; omega
        · exact onn _ (hi.lose _) rfl rfl rfl rfl
      · exact stay
    · -- doubled
      refine h_node (fun a0 => h_node (fun a1 => ?_) fun a1 => ?_) fun a0 => ?_
      · exact stay
      · have a0 := of_decide_eq_true a0
        have a1 : (mg l i).2.1 < (W.n.length : Int) := by simpa using a1
        have hne : W.n ≠ [] := fun e => by rw [e] at a1; simp at a1; omega
        refine h_node (fun _ => stay) fun _ => h_req (by simpa using hne) (h_node (fun c => by simp at c; exact absurd c hne) fun _ => h_req (by simp; omega) (h_req (by simp; omega) (h_req (by simp; omega) (h_node (fun c => ?_) fun _ => stay))))
        have c : ((W.n ++ [pg W.n (mg l i).2.1]).length : Int) < 30 := of_decide_eq_true c
        exact onn _ (hi.double a0 a1 c) rfl rfl rfl rfl
      · exact stay
    · -- spoilt
      refine h_node (fun a0 => h_node (fun a1 => ?_) fun a1 => ?_) fun a0 => ?_
      · exact stay
      · have a0 := of_decide_eq_true a0
        have a1 : (mg l i).2.1 < (W.n.length : Int) := by simpa using a1
        have hne : W.n ≠ [] := fun e => by rw [e] at a1; simp at a1; omega
        refine h_req (by simp; omega) (h_node (fun _ => stay) fun sp => h_req (by simp; omega) (h_node (fun _ => stay) fun tx => ?_))
        have tx : (pg W.n (mg l i).2.1).2.1 ≠ [] := by simpa using tx
        have hL : 0 < ((pg W.n (mg l i).2.1).2.1.length : Int) := by
          have : (pg W.n (mg l i).2.1).2.1.length ≠ 0 := fun c => tx (List.eq_nil_of_length_eq_zero c)
          omega
        have hs' := small_iff.1 (hi.gd _ (pg_mem a0 a1)).1
        obtain ⟨t1, t2, t3, _⟩ := tmod_plus (n := (mg l i).2.2) hL
        have ew : IntKind.i64.wrap ((mg l i).2.2.tmod ((pg W.n (mg l i).2.1).2.1.length : Int) + ((pg W.n (mg l i).2.1).2.1.length : Int)) = (mg l i).2.2.tmod ((pg W.n (mg l i).2.1).2.1.length : Int) + ((pg W.n (mg l i).2.1).2.1.length : Int) := wrap64 (by omega) (by omega)
        have hk : ((mg l i).2.2 % ((pg W.n (mg l i).2.1).2.1.length : Int)).toNat < (pg W.n (mg l i).2.1).2.1.length := by omega
        simp only [tn_len, ew, tmod_twice hL]
        have hat : (mg l i).2.1.toNat < W.n.length := by omega
        refine h_req (by simpa using hne) (h_node (fun c => by simp at c; exact absurd c hne) fun _ => ?_)
        iterate 12 refine h_req (by simp; omega) ?_
        show Tree.holds Goes1 (chkT l h W.g W.w _ W.o i)
        refine onn _ (hi.spoil a0 a1 sp t2 (by omega)) rfl rfl ?_ rfl
        simp only [un_set _ _ hk, chg_eq, List.nil_append]
        have gx : ∀ x d : PkT, (W.n.set (mg l i).2.1.toNat x).getD (mg l i).2.1.toNat d = x := fun x d => by
          rw [List.getD_eq_getElem?_getD, List.getElem?_set_self hat]; rfl
        have fin : ∀ x d : PkT, (W.n.set (mg l i).2.1.toNat x).set (mg l i).2.1.toNat (((W.n.set (mg l i).2.1.toNat x).getD (mg l i).2.1.toNat d).1, (((W.n.set (mg l i).2.1.toNat x).getD (mg l i).2.1.toNat d).2.1, true)) = W.n.set (mg l i).2.1.toNat (x.1, (x.2.1, true)) := fun x d => by
          rw [gx, List.set_set]
        exact fin _ _
      · exact stay
    · -- again
      obtain ⟨e, hA⟩ := hi.again
      refine h_req hsm (h_node (fun _ => ?_) fun c => ?_)
      · exact onn _ hA (by rw [e]) rfl rfl rfl
      · rw [e] at c; cases c

theorem s_law8 (ls : List (List UInt8)) (win : Int) (l : List MvT) : SCall Try.prog 8 [.list .str ls, I64 win, .list Mv l] (.bool true) := by
  refine scallR_loops rfl rfl (by kernel_rfl) (runsR_seg (hKR lkFs) (n := 1000) (hint := .unit) (keep := keepS 103 [2, 7, 9, 10, 11]) (p := lo0_p) (boxes := []) rfl ?_)
  have e := lo0 ls win l
  unfold startS codeS at e
  erw [e]
  unfold lo0_t
  have hs : smallsB (fewL ls) = true := fewL_smalls ls
  have hf : ((fewL ls).length : Int) ≤ 20 := by unfold fewL; rw [List.length_map, List.length_take]; omega
  refine h_req hs (h_node (fun _ => rfl) fun c => ⟨slotsS_len _ _, ?_⟩)
  have c : (staV (fewL ls) win).2 = 0 := by simpa using c
  obtain ⟨hi, hl⟩ := Inv.start hf hs c
  -- nil slices are rows without room
  refine runsR_weak true [] (slots' := slotsS 103 [(2, .list Mv l), (7, .ptr 0 0), (9, .ptr 1 0), (10, I64 0), (11, .top)])
    (boxes' := [some (.cells (staV (fewL ls) win).1.cells), some (.cells [.list .str (staV (fewL ls) win).1.ls, I64 (staV (fewL ls) win).1.ba, I64 (staV (fewL ls) win).1.ne, I64 (staV (fewL ls) win).1.wi, I64 (staV (fewL ls) win).1.re, I64 (staV (fewL ls) win).1.se, I64 1, .row 2, .nilS]), some (.rows Pk [])])
    (slotsS_wk ⟨rfl, .same _, rfl, .same _, rfl, .same _, rfl, .same _, rfl, .top _, trivial⟩)
    ⟨List.not_mem_nil, .same _, List.not_mem_nil, .cells ⟨.same _, .same _, .same _, .same _, .same _, .same _, .same _, .nil rfl, .same _, trivial⟩, trivial⟩ ?_
  refine runsR_weak true [] (slots' := slotsS 103 [(2, .list Mv l), (7, .ptr 0 0), (9, .ptr 1 0), (10, I64 0), (11, .top)])
    (boxes' := [some (.cells (staV (fewL ls) win).1.cells), some (.cells (wCells (staV (fewL ls) win).1 1)), some (.rows Pk []), some (.rows .str [])])
    (slotsS_wk ⟨rfl, .same _, rfl, .same _, rfl, .same _, rfl, .same _, rfl, .same _, trivial⟩)
    ⟨List.not_mem_nil, .same _, List.not_mem_nil, .cells ⟨.same _, .same _, .same _, .same _, .same _, .same _, .same _, .same _, .nil rfl, trivial⟩, List.not_mem_nil, .same _, trivial⟩ ?_
  rw [no_top]
  exact outer_ok l (staV (fewL ls) win).1 40 0 ⟨(staV (fewL ls) win).1, 1, [], []⟩ (Int.le_refl 0) (by decide) (by decide) (by rw [hl]; exact hi)
end Go.Proofs.Ytibpodgdondakaa
set_option linter.unusedSimpArgs false
set_option linter.unusedVariables false
set_option maxRecDepth 100000
namespace Go.Proofs.Ytibpodgdondakaa
open Go.Sx

/-! ### One round where nothing is lost -/

structure Calm (ls : List (List UInt8)) (W : Wi) : Prop extends Inv ls W where
  none : W.n = []
  eq : W.g.ne = W.g.ba

/-- The host has sent all. -/
theorem Calm.done {ls : List (List UInt8)} {W : Wi} (h : Calm ls W) (hb : W.g.ba > ls.length) : sndB W.g = false := by
  unfold sndB
  have := h.eq
  have := h.lsE
  rw [show decide (W.g.ne > (W.g.ls.length : Int)) = true from decide_eq_true (by rw [h.lsE]; omega)]
  simp

theorem Calm.round {ls : List (List UInt8)} {W : Wi} (h : Calm ls W) (hb : W.g.ba ≤ ls.length) : sndB W.g = true ∧ small (sndT W.g) = true ∧ ∃ (w' : Int) (t : List UInt8) (ok : Bool), rcv W.w false (sndT W.g) = (w', (t, (true, (repl wOk (w' - 1), ok)))) ∧ small (repl wOk (w' - 1)) = true ∧ ansV (sndV W.g) false (sndT W.g) = sndV W.g ∧
    rcv w' true (repl wOk (w' - 1)) = (w', ([], (false, ([], false)))) ∧ W.g.ba + 1 ≤ w' ∧ (ansV (sndV W.g) true (repl wOk (w' - 1))).ba = w' ∧
    Calm ls { g := ansV (sndV W.g) true (repl wOk (w' - 1)), w := w', n := [], o := if ok = true then W.o ++ [t] else W.o } := by
  have hMC := MC_eq
  have hi := h.toInv
  have hne := h.eq
  have hls := hi.lsE
  have hw := hi.wE
  have hol := hi.ol
  have hfew := hi.few
  have hba := hi.ba
  have hp := hi.ok
  unfold hostP at hp
  have hs : sndB W.g = true := by
    unfold sndB
    rw [hi.valid, beq_eq_false_iff_ne.2 (show W.g.ne ≠ W.g.ba + W.g.wi by omega), decide_eq_false (show ¬ W.g.ne > (W.g.ls.length : Int) by rw [hls]; omega)]
    rfl
  obtain ⟨y1, y2⟩ := snd_yes hs
  rw [hls] at y2
  obtain ⟨f1, f2, f3⟩ := frame_gt hi.sd hi.few (k := W.g.ne) (by omega) (by omega)
  rw [← y2] at f2 f3
  have hn0 : (W.n.length : Int) < 30 := by rw [h.none]; decide
  have hI1 := (hi.send hs).2 hn0
  rw [h.none] at hI1
  have hI1 : Inv ls ⟨sndV W.g, W.w, [(false, (sndT W.g, false))], W.o⟩ := hI1
  have ha : ansV (sndV W.g) false (sndT W.g) = sndV W.g := ans_no (.inr (.inl rfl))
  have hw0 : ¬ (W.w < 1 ∨ W.w > MC + 1 ∨ false = true) := by
    intro c
    rcases c with c | c | c
    · omega
    · omega
    · cases c
  have hno : ¬ ((0 : Int) ≠ 0 ∨ W.g.ne > W.w) := by omega
  have hr : ∃ (w' : Int) (t : List UInt8) (ok : Bool), rcv W.w false (sndT W.g) = (w', (t, (true, (repl wOk (w' - 1), ok)))) ∧ W.g.ba + 1 ≤ w' ∧ w' - 1 ≤ ls.length := by
    by_cases hk : W.g.ne < W.w
    · refine ⟨W.w, [], false, ?_, by omega, by omega⟩
      unfold rcv; rw [if_neg hw0, f2]; dsimp only; rw [if_neg hno, if_pos hk, wrap64 (by omega) (by omega)]
    · refine ⟨W.w + 1, gt ls (W.g.ne - 1), true, ?_, by omega, by omega⟩
      unfold rcv; rw [if_neg hw0, f2]; dsimp only; rw [if_neg hno, if_neg hk, wrap64 (by omega) (by omega)]
      rw [show W.g.ne = W.w + 1 - 1 by omega]
  obtain ⟨w', t, ok, hr, hw1, hw2⟩ := hr
  have hA := hI1.arrive (a := 0) (Int.le_refl 0) (by simp)
  have hA : Inv ls ⟨sndV W.g, w', [(true, (repl wOk (w' - 1), false))], if ok = true then W.o ++ [t] else W.o⟩ := by
    have e : pg [(false, (sndT W.g, false))] 0 = (false, (sndT W.g, false)) := rfl
    have e2 : er [(false, (sndT W.g, false))] 0 = [] := rfl
    dsimp only at hA
    rw [e] at hA
    dsimp only at hA
    rw [ha, hr, e2] at hA
    exact hA
  have hB := hA.arrive (a := 0) (Int.le_refl 0) (by simp)
  have hr2 : rcv w' true (repl wOk (w' - 1)) = (w', ([], (false, ([], false)))) := by unfold rcv; rw [if_pos (.inr (.inr rfl))]
  have hB : Inv ls ⟨ansV (sndV W.g) true (repl wOk (w' - 1)), w', [], if ok = true then W.o ++ [t] else W.o⟩ := by
    have e : pg [(true, (repl wOk (w' - 1), false))] 0 = (true, (repl wOk (w' - 1), false)) := rfl
    have e2 : er [(true, (repl wOk (w' - 1), false))] 0 = [] := rfl
    dsimp only at hB
    rw [e] at hB
    dsimp only at hB
    rw [hr2, e2] at hB
    simpa using hB
  obtain ⟨r1, r2, r3⟩ := repl_read (v := wOk) (k := w' - 1) (.inl rfl) (by omega) (by omega)
  have hv1 := hI1.valid
  dsimp only at hv1
  have hans : (ansV (sndV W.g) true (repl wOk (w' - 1))).ba = w' ∧ (ansV (sndV W.g) true (repl wOk (w' - 1))).ne = w' := by
    have hno2 : ¬ (validB (sndV W.g) = false ∨ true = false ∨ aB (repl wOk (w' - 1)) = false) := by rw [hv1, r1]; simp
    unfold ansV
    rw [if_neg hno2, if_pos r2, r3, if_pos (by rw [snd_ls, hls]; exact hw2)]
    dsimp only
    rw [y1]
    dsimp only
    constructor
    · rw [if_pos (by omega)]; omega
    · split <;> omega
  exact ⟨hs, f3, w', t, ok, hr, repl_small (by decide) _, ha, hr2, hw1, hans.1, ⟨hB, rfl, by rw [hans.1, hans.2]⟩⟩

/-! ### The last loop -/

abbrev Ends2 (items : List Item) (slots : List SV) (boxes : List (Option Box)) : Prop := RunsR Try.prog (fnOf Try.prog 9) (.bool true) items slots boxes

theorem last_ok (h : Ho) : ∀ s : Wi × Int, (Calm h.ls s.1 ∧ 0 ≤ s.2 ∧ s.2 ≤ 30 ∧ (s.1.g.ba > h.ls.length ∨ s.2 + 1 ≤ s.1.g.ba)) →
    Ends2 (loopOf Try.prog 9 1) (slotsS 87 [(7, .ptr 0 0), (9, .ptr 1 0), (11, I64 s.2)]) [some (.cells h.cells), some (.cells (wCells s.1.g s.1.w)), some (.rows Pk []), some (.rows .str s.1.o)] := by
  refine runsR_of (hKR lkFs) (n := 1000) (hint := .unit) rfl (fun s : Wi × Int => Calm h.ls s.1 ∧ 0 ≤ s.2 ∧ s.2 ≤ 30 ∧ (s.1.g.ba > h.ls.length ∨ s.2 + 1 ≤ s.1.g.ba)) (fun s => (30 - s.2).toNat) (keepS 87 [7, 9, 11]) (fun _ => loopOf Try.prog 9 1)
    (fun s => slotsS 87 [(7, .ptr 0 0), (9, .ptr 1 0), (11, I64 s.2)]) (fun s => [some (.cells h.cells), some (.cells (wCells s.1.g s.1.w)), some (.rows Pk []), some (.rows .str s.1.o)]) (fun _ => le2_p) fun s hs => ?_
  obtain ⟨W, k⟩ := s
  obtain ⟨hc, h0, h1, hb⟩ := hs
  dsimp only at hc h0 h1 hb ⊢
  rw [le2]
  unfold le2_t
  have hi := hc.toInv
  have hfew := hi.few
  have hw := hi.wE
  have hol := hi.ol
  have hba := hi.ba
  have hp := hi.ok
  unfold hostP at hp
  rw [hi.lsE] at hp
  refine h_node (fun c => h_req hi.smalls ?_) fun c => ?_
  · have c := of_decide_eq_true c
    by_cases hle : W.g.ba ≤ h.ls.length
    · obtain ⟨s1, s2, w', t, ok, hr, s3, ha, hr2, hw1, hb2, hC⟩ := hc.round hle
      rw [s1]
      have hsm : smallsB (sndV W.g).ls = true := by rw [snd_ls]; exact hi.smalls
      simp only [hr, ha, hr2, s2, s3, hsm]
      refine h_node (fun _ => ?_) fun d => by cases d
      have nxt : ∀ o, o = (if ok = true then W.o ++ [t] else W.o) → ∃ s' : Wi × Int, (Calm h.ls s'.1 ∧ 0 ≤ s'.2 ∧ s'.2 ≤ 30 ∧ (s'.1.g.ba > h.ls.length ∨ s'.2 + 1 ≤ s'.1.g.ba)) ∧ (30 - s'.2).toNat < (30 - k).toNat ∧ loopOf Try.prog 9 1 = loopOf Try.prog 9 1 ∧ slotsS 87 [(7, SV.ptr 0 0), (9, SV.ptr 1 0), (11, I64 (IntKind.i64.wrap (k + 1)))] = slotsS 87 [(7, .ptr 0 0), (9, .ptr 1 0), (11, I64 s'.2)] ∧
          [some (Box.cells h.cells), some (Box.cells (wCells (ansV (sndV W.g) true (repl wOk (w' - 1))) w')), some (Box.rows Pk []), some (Box.rows Ty.str o)] = [some (Box.cells h.cells), some (Box.cells (wCells s'.1.g s'.1.w)), some (Box.rows Pk []), some (Box.rows Ty.str s'.1.o)] := by
        intro o ho
        rw [wrap64 (by omega) (by omega)]
        refine ⟨(_, k + 1), ⟨hC, by dsimp only; omega, by dsimp only; omega, ?_⟩, by dsimp only; omega, rfl, rfl, by rw [ho]⟩
        dsimp only
        rw [hb2]; omega
      iterate 7 refine h_req (by simp) ?_
      refine h_node (fun hok => ?_) fun hok => ?_
      · refine h_req (by simp; omega) (h_node (fun _ => ?_) fun d => by cases d)
        iterate 7 refine h_req (by simp) ?_
        refine h_node (fun d => by cases d) fun _ => h_node (fun d => by cases d) fun _ => ⟨slotsS_len _ _, .inl ?_⟩
        exact nxt (W.o ++ [t]) (by rw [if_pos hok])
      · refine h_node (fun _ => ?_) fun d => by cases d
        iterate 7 refine h_req (by simp) ?_
        refine h_node (fun d => by cases d) fun _ => h_node (fun d => by cases d) fun _ => ⟨slotsS_len _ _, .inl ?_⟩
        exact nxt W.o (by rw [if_neg (by rw [hok]; simp)])
    · have s0 := hc.done (by omega)
      rw [s0]
      refine h_node (fun d => by cases d) fun _ => ⟨slotsS_len _ _, .inl ⟨(W, k + 1), ⟨hc, by dsimp only; omega, by dsimp only; omega, .inl (by dsimp only; omega)⟩, by dsimp only; omega, by trivial, ?_, ?_⟩⟩
      · dsimp only; rw [wrap64 (by omega) (by omega)]
      · rw [(snd_no s0).1]; rfl
  · have c := of_decide_eq_false c
    have hb3 : W.g.ba = (h.ls.length : Int) + 1 := by omega
    refine h_node (fun _ => h_node (fun _ => rfl) fun d => ?_) fun d => ?_
    · rw [wrap64 (by omega) (by omega), hb3] at d; simp at d
    · have : (W.o.length : Int) = h.ls.length := by omega
      rw [this] at d; simp at d
end Go.Proofs.Ytibpodgdondakaa
set_option linter.unusedSimpArgs false
set_option linter.unusedVariables false
set_option maxRecDepth 100000
namespace Go.Proofs.Ytibpodgdondakaa
open Go.Sx

abbrev Goes2 (o : Stop) : Prop := match o with
  | .done v' => v' = .bool true
  | .at items' size slots' boxes' => slots'.length = size ∧ RunsR Try.prog (fnOf Try.prog 9) (.bool true) items' slots' boxes'
def Outer2 (l : List MvT) (h : Ho) (W : Wi) (i : Int) : Prop :=
  Ends2 (loopOf Try.prog 9 0) (slotsS 87 [(2, .list Mv l), (7, .ptr 0 0), (9, .ptr 1 0), (10, I64 i)]) [some (.cells h.cells), some (.cells (wCells W.g W.w)), some (.rows Pk W.n), some (.rows .str W.o)]

theorem no_topA (a b c d : SV) : slotsS 87 [(2, a), (7, b), (9, c), (10, d), (11, .top)] = slotsS 87 [(2, a), (7, b), (9, c), (10, d)] := by kernel_rfl
theorem no_topB (b c : SV) (k : SV) : slotsS 87 [(2, .top), (7, b), (9, c), (10, .top), (11, k)] = slotsS 87 [(7, b), (9, c), (11, k)] := by kernel_rfl
theorem ren_S (k : Int) : renL [0, 1, 3, 2] (slotsS 87 [(7, .ptr 0 0), (9, .ptr 1 0), (11, I64 k)]) = slotsS 87 [(7, .ptr 0 0), (9, .ptr 1 0), (11, I64 k)] := by kernel_rfl

/-- The moves are over: host and device go on alone. -/
theorem leave_ok {l : List MvT} {h : Ho} {W : Wi} {i : Int} (hc : Calm h.ls { W with n := [] }) (hb : 1 ≤ W.g.ba) :
    Ends2 (loopOf Try.prog 9 1) (slotsS 87 [(2, .list Mv l), (7, .ptr 0 0), (9, .ptr 1 0), (10, I64 i), (11, I64 0)]) [some (.cells h.cells), some (.cells [.list .str W.g.ls, I64 W.g.ba, I64 W.g.ne, I64 W.g.wi, I64 W.g.re, I64 W.g.se, I64 W.w, .nilS, .row 2]), some (.rows .str W.o)] := by
  refine runsR_weak true [] (slots' := slotsS 87 [(2, .top), (7, .ptr 0 0), (9, .ptr 1 0), (10, .top), (11, I64 0)])
    (boxes' := [some (.cells h.cells), some (.cells [.list .str W.g.ls, I64 W.g.ba, I64 W.g.ne, I64 W.g.wi, I64 W.g.re, I64 W.g.se, I64 W.w, .row 3, .row 2]), some (.rows .str W.o), some (.rows Pk [])])
    (slotsS_wk ⟨rfl, .top _, rfl, .same _, rfl, .same _, rfl, .top _, rfl, .same _, trivial⟩)
    ⟨List.not_mem_nil, .same _, List.not_mem_nil, .cells ⟨.same _, .same _, .same _, .same _, .same _, .same _, .same _, .nil rfl, .same _, trivial⟩, List.not_mem_nil, .same _, trivial⟩ ?_
  rw [no_topB]
  refine runsR_ren [0, 1, 3, 2] rfl ?_
  rw [ren_S]
  exact last_ok h ({ W with n := [] }, 0) ⟨hc, Int.le_refl 0, by dsimp only; omega, .inr (by dsimp only; omega)⟩

theorem outer2_ok (l : List MvT) (h : Ho) : ∀ (m : Nat) (i : Int) (W : Wi), 0 ≤ i → i ≤ 40 → (40 - i).toNat ≤ m → Inv h.ls W → Outer2 l h W i := by
  intro m
  induction m with
  | zero =>
    intro i W h0 h1 hm hi
    refine runsR_seg (hKR lkFs) (n := 1000) (hint := .unit) (keep := keepS 87 [2, 7, 9, 10, 11]) (p := le1_p) rfl ?_
    rw [le1]
    unfold le1_t
    have hba := hi.ba
    obtain ⟨e, hA⟩ := hi.again
    have hC : Calm h.ls { W with g := { W.g with ne := W.g.ba }, n := [] } := ⟨hA.less (fun p hp => by cases hp) (Nat.zero_le _), rfl, rfl⟩
    have hp := hi.ok
    unfold hostP at hp
    have fin : (Tree.req (smallsB W.g.ls) (.node ((agaV W.g W.g.ba).snd == 0)
      (.leaf (Stop.at (loopOf Try.prog 9 1) 87 (slotsS 87 [(2, SV.list Mv l), (7, SV.ptr 0 0), (9, SV.ptr 1 0), (10, I64 i), (11, I64 0)]) [some (Box.cells h.cells), some (Box.cells [SV.list Ty.str (agaV W.g W.g.ba).fst.ls, I64 (agaV W.g W.g.ba).fst.ba, I64 (agaV W.g W.g.ba).fst.ne, I64 (agaV W.g W.g.ba).fst.wi, I64 (agaV W.g W.g.ba).fst.re, I64 (agaV W.g W.g.ba).fst.se, I64 W.w, SV.nilS, SV.row 2]), some (Box.rows Ty.str W.o)]))
      (.leaf (Stop.at (loopOf Try.prog 9 1) 87 (slotsS 87 [(2, SV.list Mv l), (7, SV.ptr 0 0), (9, SV.ptr 1 0), (10, I64 i), (11, I64 0)]) [some (Box.cells h.cells), some (Box.cells [SV.list Ty.str W.g.ls, I64 W.g.ba, I64 W.g.ne, I64 W.g.wi, I64 W.g.re, I64 W.g.se, I64 W.w, SV.nilS, SV.row 2]), some (Box.rows Ty.str W.o)])))).holds Goes2 := by
      rw [e]
      exact h_req hi.smalls (h_node (fun _ => ⟨slotsS_len _ _, leave_ok (W := ⟨{ W.g with ne := W.g.ba }, W.w, W.n, W.o⟩) hC (by dsimp only; omega)⟩) fun c => by cases c)
    refine h_node (fun c1 => h_node (fun c2 => ?_) fun _ => fin) fun _ => fin
    have := of_decide_eq_true c2; omega
  | succ m ih =>
    intro i W h0 h1 hm hi
    refine runsR_seg (hKR lkFs) (n := 1000) (hint := .unit) (keep := keepS 87 [2, 7, 9, 10, 11]) (p := le1_p) rfl ?_
    rw [le1]
    unfold le1_t
    have hba := hi.ba
    have hA := hi.again.2
    have e := hi.again.1
    have hC : Calm h.ls { W with g := { W.g with ne := W.g.ba }, n := [] } := ⟨hA.less (fun p hp => by cases hp) (Nat.zero_le _), rfl, rfl⟩
    have hp := hi.ok
    unfold hostP at hp
    have fin : (Tree.req (smallsB W.g.ls) (.node ((agaV W.g W.g.ba).snd == 0)
      (.leaf (Stop.at (loopOf Try.prog 9 1) 87 (slotsS 87 [(2, SV.list Mv l), (7, SV.ptr 0 0), (9, SV.ptr 1 0), (10, I64 i), (11, I64 0)]) [some (Box.cells h.cells), some (Box.cells [SV.list Ty.str (agaV W.g W.g.ba).fst.ls, I64 (agaV W.g W.g.ba).fst.ba, I64 (agaV W.g W.g.ba).fst.ne, I64 (agaV W.g W.g.ba).fst.wi, I64 (agaV W.g W.g.ba).fst.re, I64 (agaV W.g W.g.ba).fst.se, I64 W.w, SV.nilS, SV.row 2]), some (Box.rows Ty.str W.o)]))
      (.leaf (Stop.at (loopOf Try.prog 9 1) 87 (slotsS 87 [(2, SV.list Mv l), (7, SV.ptr 0 0), (9, SV.ptr 1 0), (10, I64 i), (11, I64 0)]) [some (Box.cells h.cells), some (Box.cells [SV.list Ty.str W.g.ls, I64 W.g.ba, I64 W.g.ne, I64 W.g.wi, I64 W.g.re, I64 W.g.se, I64 W.w, SV.nilS, SV.row 2]), some (Box.rows Ty.str W.o)])))).holds Goes2 := by
      rw [e]
      exact h_req hi.smalls (h_node (fun _ => ⟨slotsS_len _ _, leave_ok (W := ⟨{ W.g with ne := W.g.ba }, W.w, W.n, W.o⟩) hC (by dsimp only; omega)⟩) fun c => by cases c)
    refine h_node (fun c1 => h_node (fun c2 => ?_) fun _ => fin) fun _ => fin
    have c1 := of_decide_eq_true c1
    have c2 := of_decide_eq_true c2
    refine h_req (by simp; omega) ?_
    have hsm := hi.smalls
    -- on from a state that keeps the law
    have onn : ∀ (W' : Wi) {g : Ho} {w : Int} {n : List PkT} {o : List (List UInt8)}, Inv h.ls W' → g = W'.g → w = W'.w → n = W'.n → o = W'.o →
        (Tree.leaf (Stop.at (loopOf Try.prog 9 0) 87 (slotsS 87 [(2, SV.list Mv l), (7, SV.ptr 0 0), (9, SV.ptr 1 0), (10, I64 (IntKind.i64.wrap (i + 1)))]) [some (Box.cells h.cells), some (Box.cells (wCells g w)), some (Box.rows Pk n), some (Box.rows Ty.str o)])).holds Goes2 := by
      intro W' g w n o hi' hg hw hn ho
      subst hg hw hn ho
      refine ⟨slotsS_len _ _, ?_⟩
      rw [wrap64 (by omega) (by omega)]
      exact ih (i + 1) W' (by omega) (by omega) (by omega) hi'
    have stay := onn W hi rfl rfl rfl rfl
    have hnl := hi.nl
    have hol := hi.ol
    have hfew := hi.few
    refine h_node (fun k => ?_) fun k0 => h_node (fun k => ?_) fun k1 => h_node (fun k => ?_) fun k2 => h_node (fun k => ?_) fun k3 => h_node (fun k => ?_) fun k4 => ?_
    · -- send
      refine h_req hsm (h_node (fun s => ?_) fun s => ?_)
      · obtain ⟨s1, s2⟩ := hi.send s
        refine h_node (fun c => h_req (by simp; omega) ?_) fun c => ?_
        · exact onn _ (s2 (of_decide_eq_true c)) rfl rfl rfl rfl
        · exact onn _ s1 rfl rfl rfl rfl
      · exact onn _ hi (snd_no s).1 rfl rfl rfl
    · -- arrive
      refine h_node (fun a0 => h_node (fun a1 => ?_) fun a1 => ?_) fun a0 => ?_
      · exact stay
      · have a0 := of_decide_eq_true a0
        have a1 : (mg l i).2.1 < (W.n.length : Int) := by simpa using a1
        have hne : W.n ≠ [] := fun e => by rw [e] at a1; simp at a1; omega
        have hA := hi.arrive a0 a1
        have hsp := (hi.gd _ (pg_mem a0 a1)).1
        have hel : (er W.n (mg l i).2.1).length + 1 = W.n.length := by rw [er_eq, List.length_eraseIdx, if_pos (by omega)]; omega
        refine h_req (by simp; omega) (h_req (by simpa using hne) (h_node (fun c => by simp at c; exact absurd c hne) fun _ => h_req (by simp; omega) (h_req ?_ (h_req ?_ (h_req hsp ?_)))))
        · rw [wrap64 (by omega) (by omega)]; simp; omega
        · rw [hsm, hsp]; rfl
        refine h_node (fun r => h_req (by simp; omega) (h_node (fun b => h_req (by simp; omega) ?_) fun b => ?_)) fun r => h_node (fun b => h_req (by simp; omega) ?_) fun b => ?_
        · exact onn _ hA rfl rfl (by dsimp only; rw [if_pos b]) (by dsimp only; rw [if_pos r])
        · exact onn _ hA rfl rfl (by dsimp only; rw [if_neg (by rw [b]; simp)]) (by dsimp only; rw [if_pos r])
        · exact onn _ hA rfl rfl (by dsimp only; rw [if_pos b]) (by dsimp only; rw [if_neg (by rw [r]; simp)])
        · exact onn _ hA rfl rfl (by dsimp only; rw [if_neg (by rw [b]; simp)]) (by dsimp only; rw [if_neg (by rw [r]; simp)])
      · exact stay
    · -- lost
      refine h_node (fun a0 => h_node (fun a1 => ?_) fun a1 => ?_) fun a0 => ?_
      · exact stay
      · have a0 := of_decide_eq_true a0
        have a1 : (mg l i).2.1 < (W.n.length : Int) := by simpa using a1
        have hne : W.n ≠ [] := fun e => by rw [e] at a1; simp at a1; omega
        refine h_req (by simp; omega) (h_req (by simpa using hne) (h_node (fun c => by simp at c; exact absurd c hne) fun _ => h_req (by simp; omega) (h_req ?_ ?_)))
        · rw [wrap64 (by omega) (by omega)]; simp; omega
        · exact onn _ (hi.lose _) rfl rfl rfl rfl
      · exact stay
    · -- doubled
      refine h_node (fun a0 => h_node (fun a1 => ?_) fun a1 => ?_) fun a0 => ?_
      · exact stay
      · have a0 := of_decide_eq_true a0
        have a1 : (mg l i).2.1 < (W.n.length : Int) := by simpa using a1
        have hne : W.n ≠ [] := fun e => by rw [e] at a1; simp at a1; omega
        refine h_node (fun _ => stay) fun _ => h_req (by simpa using hne) (h_node (fun c => by simp at c; exact absurd c hne) fun _ => h_req (by simp; omega) (h_req (by simp; omega) (h_req (by simp; omega) (h_node (fun c => ?_) fun _ => stay))))
        have c : ((W.n ++ [pg W.n (mg l i).2.1]).length : Int) < 30 := of_decide_eq_true c
        exact onn _ (hi.double a0 a1 c) rfl rfl rfl rfl
      · exact stay
    · -- spoilt
      refine h_node (fun a0 => h_node (fun a1 => ?_) fun a1 => ?_) fun a0 => ?_
      · exact stay
      · have a0 := of_decide_eq_true a0
        have a1 : (mg l i).2.1 < (W.n.length : Int) := by simpa using a1
        have hne : W.n ≠ [] := fun e => by rw [e] at a1; simp at a1; omega
        refine h_req (by simp; omega) (h_node (fun _ => stay) fun sp => h_req (by simp; omega) (h_node (fun _ => stay) fun tx => ?_))
        have tx : (pg W.n (mg l i).2.1).2.1 ≠ [] := by simpa using tx
        have hL : 0 < ((pg W.n (mg l i).2.1).2.1.length : Int) := by
          have : (pg W.n (mg l i).2.1).2.1.length ≠ 0 := fun c => tx (List.eq_nil_of_length_eq_zero c)
          omega
        have hs' := small_iff.1 (hi.gd _ (pg_mem a0 a1)).1
        obtain ⟨t1, t2, t3, _⟩ := tmod_plus (n := (mg l i).2.2) hL
        have ew : IntKind.i64.wrap ((mg l i).2.2.tmod ((pg W.n (mg l i).2.1).2.1.length : Int) + ((pg W.n (mg l i).2.1).2.1.length : Int)) = (mg l i).2.2.tmod ((pg W.n (mg l i).2.1).2.1.length : Int) + ((pg W.n (mg l i).2.1).2.1.length : Int) := wrap64 (by omega) (by omega)
        have hk : ((mg l i).2.2 % ((pg W.n (mg l i).2.1).2.1.length : Int)).toNat < (pg W.n (mg l i).2.1).2.1.length := by omega
        simp only [tn_len, ew, tmod_twice hL]
        have hat : (mg l i).2.1.toNat < W.n.length := by omega
        refine h_req (by simpa using hne) (h_node (fun c => by simp at c; exact absurd c hne) fun _ => ?_)
        iterate 12 refine h_req (by simp; omega) ?_
        refine onn _ (hi.spoil a0 a1 sp t2 (by omega)) rfl rfl ?_ rfl
        simp only [un_set _ _ hk, chg_eq, List.nil_append]
        have gx : ∀ x d : PkT, (W.n.set (mg l i).2.1.toNat x).getD (mg l i).2.1.toNat d = x := fun x d => by
          rw [List.getD_eq_getElem?_getD, List.getElem?_set_self hat]; rfl
        have fin : ∀ x d : PkT, (W.n.set (mg l i).2.1.toNat x).set (mg l i).2.1.toNat (((W.n.set (mg l i).2.1.toNat x).getD (mg l i).2.1.toNat d).1, (((W.n.set (mg l i).2.1.toNat x).getD (mg l i).2.1.toNat d).2.1, true)) = W.n.set (mg l i).2.1.toNat (x.1, (x.2.1, true)) := fun x d => by
          rw [gx, List.set_set]
        exact fin _ _
      · exact stay
    · -- again
      obtain ⟨e, hA⟩ := hi.again
      refine h_req hsm (h_node (fun _ => ?_) fun c => ?_)
      · exact onn _ hA (by rw [e]) rfl rfl rfl
      · rw [e] at c; cases c

theorem s_law9 (ls : List (List UInt8)) (win : Int) (l : List MvT) : SCall Try.prog 9 [.list .str ls, I64 win, .list Mv l] (.bool true) := by
  refine scallR_loops rfl rfl (by kernel_rfl) (runsR_seg (hKR lkFs) (n := 1000) (hint := .unit) (keep := keepS 87 [2, 7, 9, 10, 11]) (p := le0_p) (boxes := []) rfl ?_)
  have e := le0 ls win l
  unfold startS codeS at e
  erw [e]
  unfold le0_t
  have hs : smallsB (fewL ls) = true := fewL_smalls ls
  have hf : ((fewL ls).length : Int) ≤ 20 := by unfold fewL; rw [List.length_map, List.length_take]; omega
  refine h_req hs (h_node (fun _ => rfl) fun c => ⟨slotsS_len _ _, ?_⟩)
  have c : (staV (fewL ls) win).2 = 0 := by simpa using c
  obtain ⟨hi, hl⟩ := Inv.start hf hs c
  -- nil slices are rows without room
  refine runsR_weak true [] (slots' := slotsS 87 [(2, .list Mv l), (7, .ptr 0 0), (9, .ptr 1 0), (10, I64 0), (11, .top)])
    (boxes' := [some (.cells (staV (fewL ls) win).1.cells), some (.cells [.list .str (staV (fewL ls) win).1.ls, I64 (staV (fewL ls) win).1.ba, I64 (staV (fewL ls) win).1.ne, I64 (staV (fewL ls) win).1.wi, I64 (staV (fewL ls) win).1.re, I64 (staV (fewL ls) win).1.se, I64 1, .row 2, .nilS]), some (.rows Pk [])])
    (slotsS_wk ⟨rfl, .same _, rfl, .same _, rfl, .same _, rfl, .same _, rfl, .top _, trivial⟩)
    ⟨List.not_mem_nil, .same _, List.not_mem_nil, .cells ⟨.same _, .same _, .same _, .same _, .same _, .same _, .same _, .nil rfl, .same _, trivial⟩, trivial⟩ ?_
  refine runsR_weak true [] (slots' := slotsS 87 [(2, .list Mv l), (7, .ptr 0 0), (9, .ptr 1 0), (10, I64 0), (11, .top)])
    (boxes' := [some (.cells (staV (fewL ls) win).1.cells), some (.cells (wCells (staV (fewL ls) win).1 1)), some (.rows Pk []), some (.rows .str [])])
    (slotsS_wk ⟨rfl, .same _, rfl, .same _, rfl, .same _, rfl, .same _, rfl, .same _, trivial⟩)
    ⟨List.not_mem_nil, .same _, List.not_mem_nil, .cells ⟨.same _, .same _, .same _, .same _, .same _, .same _, .same _, .same _, .nil rfl, trivial⟩, List.not_mem_nil, .same _, trivial⟩ ?_
  rw [no_topA]
  exact outer2_ok l (staV (fewL ls) win).1 40 0 ⟨(staV (fewL ls) win).1, 1, [], []⟩ (Int.le_refl 0) (by decide) (by decide) (by rw [hl]; exact hi)
end Go.Proofs.Ytibpodgdondakaa
namespace Go.Proofs.Ytibpodgdondakaa
open Go.ChangeShapes Go.WideShapes Go.ChangeAt Go.RowKit
open Go.Sx
set_option linter.unusedVariables false
set_option maxRecDepth 100000

theorem linkEnds_own : ownKnob Try.prog.godebug = none := by kernel_rfl
theorem linkEnds_laid : laidOutB Try.prog = true := by kernel_rfl

theorem linkEnds_lifted (os : Os) (started : os.Started) (H : Type) (enc : TypeId × Value → H) :
    ReturnsInHanded {} Try.checked os 9 .any (Rows.linkEndsSpec.pre6 enc Try.prog Try.f9 Rows.linkEndsRow.domain false) (Rows.linkEndsSpec.post enc Try.prog Try.f9 false true false false) := by
  refine returnsInHanded_of_change (C := Try.checked) linkEnds_own started (by kernel_rfl) Try.func9
    (ChangeSpec.witness6 (enc := enc) (C := Try.checked) false ⟨#[], #[.slice none 0 0, .int .i64 0, .slice none 0 0], []⟩ 8 (by kernel_rfl) (by kernel_rfl) (by kernel_rfl) (by kernel_rfl)) ?_
  intro W base args ds gs before hval0 hW hcnd _
  have hval : ∀ (j : Nat) t v, Try.f9.params[j]? = some t → args[j]? = some v → Value.okWide Try.prog W .any base t v := hval0
  have hW' := hW
  obtain ⟨p, q, hA0, hV, rfl, hfz, hnd⟩ := hW
  have hA : DataW.TrodAll enc Try.prog W 0 (fun _ => true) true Try.f9.params.toList args.toList ds p := hA0
  rw [Try.params9] at hA hval
  obtain ⟨v0, vs0, d0, ds0, p0, q0, hargs, rfl, rfl, h0, r0⟩ := trodAll_cons hA
  obtain ⟨v1, vs1, d1, ds1, p1, q1, rfl, rfl, rfl, h1, r1⟩ := trodAll_cons r0
  obtain ⟨v2, vs2, d2, ds2, p2, q2, rfl, rfl, rfl, h2, r2⟩ := trodAll_cons r1
  obtain ⟨rfl, rfl, rfl⟩ := trodAll_nil r2
  obtain rfl : args = #[v0, v1, v2] := by cases args; simp_all
  obtain ⟨rfl, rfl⟩ := trodVars_none hV
  have lt0 : ∀ x ∈ p0, x.block < W.heap.size := by obtain ⟨m, hm⟩ := h0; exact DataW.trod_lt m _ _ _ hm
  obtain ⟨y0, w0, s0⟩ := argOf_list (d := 20) (u := .str) (by kernel_rfl) Try.underlying45 (hval 0 45 v0 rfl rfl) h0
  have lt1 : ∀ x ∈ p1, x.block < W.heap.size := by obtain ⟨m, hm⟩ := h1; exact DataW.trod_lt m _ _ _ hm
  obtain ⟨y1, w1, s1⟩ := argOf_int (d := 1) (by kernel_rfl) Try.underlying3 (hval 1 3 v1 rfl rfl) h1
  have lt2 : ∀ x ∈ p2, x.block < W.heap.size := by obtain ⟨m, hm⟩ := h2; exact DataW.trod_lt m _ _ _ hm
  obtain ⟨y2, w2, s2⟩ := argOf_list (d := 20) (u := .pair (.int .i64) (.pair (.int .i64) (.int .i64))) (by kernel_rfl) Try.underlying59 (hval 2 59 v2 rfl rfl) h2
  clear hA0 hval0
  refine (SCall.calls_some (s_law9 y0 y1 y2) rfl Try.func9 (by kernel_rfl) (by kernel_rfl) W [v0, v1, v2] (⟨_, _, rfl, s0, ⟨_, _, rfl, s1, ⟨_, _, rfl, s2, rfl⟩⟩⟩)).mono fun e W' he => ?_
  obtain ⟨u, rfl, bel, rfl⟩ := he
  exact ⟨_, rfl, _, _, _, [], _, [], hW', trodAll_mk1 (shut_bool Try.underlying4 _), (trodAll_cons_mk (Below.trod linkEnds_laid (by kernel_rfl) (of_decide_eq_true (by kernel_rfl)) h0 bel lt0) (trodAll_cons_mk (Below.trod linkEnds_laid (by kernel_rfl) (of_decide_eq_true (by kernel_rfl)) h1 bel lt1) (trodAll_cons_mk (Below.trod linkEnds_laid (by kernel_rfl) (of_decide_eq_true (by kernel_rfl)) h2 bel lt2) trodAll_mk0))), rfl, bel.frame _, fun h => by cases h⟩

theorem linkEnds_over : Rows.linkEndsRow.holds Try.pinned (OpenSpec.ofChange Rows.linkEndsSpec) :=
  OpenClaim.holds_of_wide 9 Try.f9 rfl rfl rfl rfl rfl rfl rfl ⟨rfl, rfl, rfl, rfl, rfl⟩ rfl rfl rfl rfl rfl (by kernel_rfl) Try.func9 (by kernel_rfl)
    (of_decide_eq_true (by kernel_rfl)) (by unfold Func.isWrapper; first | (rw [if_pos (by decide +kernel)]; kernel_rfl) | (rw [if_neg (by decide +kernel)]; exact ⟨rfl, rfl⟩))
    (fun os started H enc _ => linkEnds_lifted os started H enc)

theorem linkEnds_proved : Rows.LinkEndsSaid := linkEnds_over
end Go.Proofs.Ytibpodgdondakaa
