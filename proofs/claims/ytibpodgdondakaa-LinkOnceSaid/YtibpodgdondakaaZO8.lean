/-
  H1: the segments of the laws on the wire. Written by gen.py.
  H2: the wire in plain words: what holds of host, device and packets, whatever happens.
  H3: LinkOnce: whatever happens, the device accepts the host's lines in their order.
  LinkOnce: the statement out of the contract. Written by shell.py.
-/
import Derived.Test.YtibpodgdondakaaZO7
import Derived.Test.YtibpodgdondakaaRows
import Derived.OpenShut
import Derived.ShutString
import Derived.ChangeOld
import Derived.Below
set_option linter.unusedSimpArgs false
set_option linter.unusedVariables false
set_option maxRecDepth 100000
namespace Go.Proofs.Ytibpodgdondakaa
open Go.Sx
def lo0_p : Plan := .fork (.all) (.all)
noncomputable def lo0_t (ls : List (List UInt8)) (win : Int) (l : List MvT) : Tree Stop :=
   .req (smallsB (fewL (Ho.mk ls 0 0 0 0 0).ls)) (.node ((staV (fewL (Ho.mk ls 0 0 0 0 0).ls) win).snd != 0)
  (.leaf (Stop.done (SV.bool true)))
  (.leaf (Stop.at (loopOf Try.prog 8 0) 103 (slotsS 103 [(2, SV.list Mv l), (7, SV.ptr 0 0), (9, SV.ptr 1 0), (10, I64 0), (11, SV.undef)]) [some (Box.cells [SV.list Ty.str (staV (fewL (Ho.mk ls 0 0 0 0 0).ls) win).fst.ls, I64 (staV (fewL (Ho.mk ls 0 0 0 0 0).ls) win).fst.ba, I64 (staV (fewL (Ho.mk ls 0 0 0 0 0).ls) win).fst.ne, I64 (staV (fewL (Ho.mk ls 0 0 0 0 0).ls) win).fst.wi, I64 (staV (fewL (Ho.mk ls 0 0 0 0 0).ls) win).fst.re, I64 (staV (fewL (Ho.mk ls 0 0 0 0 0).ls) win).fst.se]), some (Box.cells [SV.list Ty.str (staV (fewL (Ho.mk ls 0 0 0 0 0).ls) win).fst.ls, I64 (staV (fewL (Ho.mk ls 0 0 0 0 0).ls) win).fst.ba, I64 (staV (fewL (Ho.mk ls 0 0 0 0 0).ls) win).fst.ne, I64 (staV (fewL (Ho.mk ls 0 0 0 0 0).ls) win).fst.wi, I64 (staV (fewL (Ho.mk ls 0 0 0 0 0).ls) win).fst.re, I64 (staV (fewL (Ho.mk ls 0 0 0 0 0).ls) win).fst.se, I64 1, SV.nilS, SV.nilS])])))
theorem lo0 (ls : List (List UInt8)) (win : Int) (l : List MvT) : segR (Env.ofR Try.prog (sumOf [fFew, fSta, fSnd, fAnsH, fRecv, fAga, fAwake]) (wrOf [wDel]) (rdOf [18, 20, 22])) 1000 (fnOf Try.prog 8) .unit (keepS 103 [2,7,9,10,11]) (codeS Try.prog 8) lo0_p (startS Try.prog 8 [.list .str ls, I64 win, .list Mv l]) [] = lo0_t ls win l := by kernel_rfl
def lo1_p : Plan := .fork (.lit (.lit (.fork (.fork (.fork (.lit (.lit (.lit (.lit (.lit (.lit (.fork (.fork (.lit (.lit (.lit (.lit (.lit (.lit (.lit (.lit (.lit (.lit (.lit (.lit (.lit (.lit (.lit (.lit (.lit (.lit (.lit (.lit (.lit (.lit (.all))))))))))))))))))))))) (.lit (.lit (.lit (.lit (.lit (.lit (.lit (.lit (.lit (.fork (.lit (.lit (.lit (.lit (.lit (.lit (.lit (.lit (.lit (.lit (.lit (.lit (.all))))))))))))) (.lit (.lit (.lit (.lit (.lit (.lit (.lit (.lit (.lit (.lit (.lit (.fork (.all) (.all)))))))))))))))))))))))) (.fork (.lit (.lit (.lit (.lit (.lit (.lit (.lit (.lit (.lit (.lit (.lit (.lit (.lit (.lit (.lit (.lit (.lit (.lit (.lit (.lit (.lit (.lit (.all))))))))))))))))))))))) (.lit (.lit (.lit (.lit (.lit (.lit (.lit (.lit (.lit (.fork (.lit (.lit (.lit (.lit (.lit (.lit (.lit (.lit (.lit (.lit (.lit (.lit (.all))))))))))))) (.lit (.lit (.lit (.lit (.lit (.lit (.lit (.lit (.lit (.lit (.lit (.fork (.all) (.all))))))))))))))))))))))))))))))) (.lit (.lit (.lit (.lit (.lit (.lit (.lit (.fork (.lit (.lit (.lit (.lit (.lit (.lit (.lit (.lit (.lit (.lit (.lit (.lit (.lit (.lit (.lit (.lit (.lit (.lit (.lit (.lit (.lit (.lit (.all))))))))))))))))))))))) (.lit (.lit (.lit (.lit (.lit (.lit (.lit (.lit (.lit (.fork (.lit (.lit (.lit (.lit (.lit (.lit (.lit (.lit (.lit (.lit (.lit (.lit (.all))))))))))))) (.lit (.lit (.lit (.lit (.lit (.lit (.lit (.lit (.lit (.lit (.lit (.fork (.all) (.all)))))))))))))))))))))))))))))))) (.fork (.fork (.lit (.lit (.lit (.lit (.fork (.lit (.fork (.lit (.lit (.lit (.lit (.lit (.lit (.lit (.lit (.lit (.lit (.lit (.lit (.lit (.lit (.lit (.lit (.lit (.lit (.lit (.lit (.lit (.lit (.all))))))))))))))))))))))) (.lit (.lit (.lit (.lit (.lit (.lit (.lit (.lit (.lit (.fork (.lit (.lit (.lit (.lit (.lit (.lit (.lit (.lit (.lit (.lit (.lit (.lit (.all))))))))))))) (.lit (.lit (.lit (.lit (.lit (.lit (.lit (.lit (.lit (.lit (.lit (.fork (.all) (.all))))))))))))))))))))))))) (.lit (.fork (.all) (.lit (.fork (.fork (.fork (.lit (.lit (.lit (.lit (.lit (.lit (.lit (.lit (.lit (.lit (.lit (.lit (.lit (.lit (.lit (.lit (.lit (.lit (.lit (.lit (.lit (.lit (.all))))))))))))))))))))))) (.lit (.lit (.lit (.lit (.lit (.lit (.lit (.lit (.lit (.fork (.lit (.lit (.lit (.lit (.lit (.lit (.lit (.lit (.lit (.lit (.lit (.lit (.all))))))))))))) (.lit (.lit (.lit (.lit (.lit (.lit (.lit (.lit (.lit (.lit (.lit (.fork (.all) (.all)))))))))))))))))))))))) (.fork (.lit (.lit (.lit (.lit (.lit (.lit (.lit (.lit (.lit (.lit (.lit (.lit (.lit (.lit (.lit (.lit (.lit (.lit (.lit (.lit (.lit (.lit (.all))))))))))))))))))))))) (.lit (.lit (.lit (.lit (.lit (.lit (.lit (.lit (.lit (.fork (.lit (.lit (.lit (.lit (.lit (.lit (.lit (.lit (.lit (.lit (.lit (.lit (.all))))))))))))) (.lit (.lit (.lit (.lit (.lit (.lit (.lit (.lit (.lit (.lit (.lit (.fork (.all) (.all))))))))))))))))))))))))) (.fork (.fork (.lit (.lit (.lit (.lit (.lit (.lit (.lit (.lit (.lit (.lit (.lit (.lit (.lit (.lit (.lit (.lit (.lit (.lit (.lit (.lit (.lit (.lit (.all))))))))))))))))))))))) (.lit (.lit (.lit (.lit (.lit (.lit (.lit (.lit (.lit (.fork (.lit (.lit (.lit (.lit (.lit (.lit (.lit (.lit (.lit (.lit (.lit (.lit (.all))))))))))))) (.lit (.lit (.lit (.lit (.lit (.lit (.lit (.lit (.lit (.lit (.lit (.fork (.all) (.all)))))))))))))))))))))))) (.fork (.lit (.lit (.lit (.lit (.lit (.lit (.lit (.lit (.lit (.lit (.lit (.lit (.lit (.lit (.lit (.lit (.lit (.lit (.lit (.lit (.lit (.lit (.all))))))))))))))))))))))) (.lit (.lit (.lit (.lit (.lit (.lit (.lit (.lit (.lit (.fork (.lit (.lit (.lit (.lit (.lit (.lit (.lit (.lit (.lit (.lit (.lit (.lit (.all))))))))))))) (.lit (.lit (.lit (.lit (.lit (.lit (.lit (.lit (.lit (.lit (.lit (.fork (.all) (.all)))))))))))))))))))))))))))))))))) (.lit (.lit (.lit (.lit (.lit (.lit (.fork (.lit (.lit (.lit (.lit (.lit (.lit (.lit (.lit (.lit (.lit (.lit (.lit (.lit (.lit (.lit (.lit (.lit (.lit (.lit (.lit (.lit (.lit (.all))))))))))))))))))))))) (.lit (.lit (.lit (.lit (.lit (.lit (.lit (.lit (.lit (.fork (.lit (.lit (.lit (.lit (.lit (.lit (.lit (.lit (.lit (.lit (.lit (.lit (.all))))))))))))) (.lit (.lit (.lit (.lit (.lit (.lit (.lit (.lit (.lit (.lit (.lit (.fork (.all) (.all))))))))))))))))))))))))))))))) (.fork (.fork (.lit (.lit (.lit (.lit (.fork (.lit (.fork (.lit (.lit (.lit (.lit (.lit (.lit (.lit (.lit (.lit (.lit (.lit (.lit (.lit (.lit (.lit (.lit (.lit (.lit (.lit (.lit (.lit (.lit (.all))))))))))))))))))))))) (.lit (.lit (.lit (.lit (.lit (.lit (.lit (.lit (.lit (.fork (.lit (.lit (.lit (.lit (.lit (.lit (.lit (.lit (.lit (.lit (.lit (.lit (.all))))))))))))) (.lit (.lit (.lit (.lit (.lit (.lit (.lit (.lit (.lit (.lit (.lit (.fork (.all) (.all))))))))))))))))))))))))) (.lit (.fork (.all) (.lit (.fork (.lit (.lit (.lit (.lit (.lit (.lit (.lit (.lit (.lit (.lit (.lit (.lit (.lit (.lit (.lit (.lit (.lit (.lit (.lit (.lit (.lit (.lit (.all))))))))))))))))))))))) (.lit (.lit (.lit (.lit (.lit (.lit (.lit (.lit (.lit (.fork (.lit (.lit (.lit (.lit (.lit (.lit (.lit (.lit (.lit (.lit (.lit (.lit (.all))))))))))))) (.lit (.lit (.lit (.lit (.lit (.lit (.lit (.lit (.lit (.lit (.lit (.fork (.all) (.all)))))))))))))))))))))))))))))))) (.lit (.lit (.lit (.lit (.lit (.lit (.fork (.lit (.lit (.lit (.lit (.lit (.lit (.lit (.lit (.lit (.lit (.lit (.lit (.lit (.lit (.lit (.lit (.lit (.lit (.lit (.lit (.lit (.lit (.all))))))))))))))))))))))) (.lit (.lit (.lit (.lit (.lit (.lit (.lit (.lit (.lit (.fork (.lit (.lit (.lit (.lit (.lit (.lit (.lit (.lit (.lit (.lit (.lit (.lit (.all))))))))))))) (.lit (.lit (.lit (.lit (.lit (.lit (.lit (.lit (.lit (.lit (.lit (.fork (.all) (.all))))))))))))))))))))))))))))))) (.fork (.fork (.lit (.lit (.lit (.lit (.fork (.lit (.lit (.lit (.lit (.lit (.fork (.lit (.lit (.lit (.lit (.lit (.lit (.lit (.lit (.lit (.lit (.lit (.lit (.lit (.lit (.lit (.lit (.lit (.lit (.lit (.lit (.lit (.lit (.all))))))))))))))))))))))) (.lit (.lit (.lit (.lit (.lit (.lit (.lit (.lit (.lit (.fork (.lit (.lit (.lit (.lit (.lit (.lit (.lit (.lit (.lit (.lit (.lit (.lit (.all))))))))))))) (.lit (.lit (.lit (.lit (.lit (.lit (.lit (.lit (.lit (.lit (.lit (.fork (.all) (.all))))))))))))))))))))))))))))) (.fork (.lit (.lit (.lit (.lit (.lit (.fork (.lit (.lit (.lit (.lit (.lit (.lit (.lit (.lit (.lit (.lit (.lit (.lit (.lit (.lit (.lit (.lit (.lit (.lit (.lit (.lit (.lit (.lit (.all))))))))))))))))))))))) (.lit (.lit (.lit (.lit (.lit (.lit (.lit (.lit (.lit (.fork (.lit (.lit (.lit (.lit (.lit (.lit (.lit (.lit (.lit (.lit (.lit (.lit (.all))))))))))))) (.lit (.lit (.lit (.lit (.lit (.lit (.lit (.lit (.lit (.lit (.lit (.fork (.all) (.all))))))))))))))))))))))))))))) (.lit (.fork (.all) (.lit (.lit (.lit (.lit (.fork (.fork (.lit (.lit (.lit (.lit (.lit (.lit (.lit (.lit (.lit (.lit (.lit (.lit (.lit (.lit (.lit (.lit (.lit (.lit (.lit (.lit (.lit (.lit (.all))))))))))))))))))))))) (.lit (.lit (.lit (.lit (.lit (.lit (.lit (.lit (.lit (.fork (.lit (.lit (.lit (.lit (.lit (.lit (.lit (.lit (.lit (.lit (.lit (.lit (.all))))))))))))) (.lit (.lit (.lit (.lit (.lit (.lit (.lit (.lit (.lit (.lit (.lit (.fork (.all) (.all)))))))))))))))))))))))) (.fork (.lit (.lit (.lit (.lit (.lit (.lit (.lit (.lit (.lit (.lit (.lit (.lit (.lit (.lit (.lit (.lit (.lit (.lit (.lit (.lit (.lit (.lit (.all))))))))))))))))))))))) (.lit (.lit (.lit (.lit (.lit (.lit (.lit (.lit (.lit (.fork (.lit (.lit (.lit (.lit (.lit (.lit (.lit (.lit (.lit (.lit (.lit (.lit (.all))))))))))))) (.lit (.lit (.lit (.lit (.lit (.lit (.lit (.lit (.lit (.lit (.lit (.fork (.all) (.all))))))))))))))))))))))))))))))))))))) (.lit (.lit (.lit (.lit (.lit (.lit (.lit (.lit (.lit (.lit (.fork (.lit (.lit (.lit (.lit (.lit (.lit (.lit (.lit (.lit (.lit (.lit (.lit (.lit (.lit (.lit (.lit (.lit (.lit (.lit (.lit (.lit (.lit (.all))))))))))))))))))))))) (.lit (.lit (.lit (.lit (.lit (.lit (.lit (.lit (.lit (.fork (.lit (.lit (.lit (.lit (.lit (.lit (.lit (.lit (.lit (.lit (.lit (.lit (.all))))))))))))) (.lit (.lit (.lit (.lit (.lit (.lit (.lit (.lit (.lit (.lit (.lit (.fork (.all) (.all))))))))))))))))))))))))))))))))))) (.fork (.fork (.lit (.lit (.lit (.lit (.fork (.lit (.fork (.lit (.lit (.lit (.lit (.lit (.lit (.lit (.lit (.lit (.lit (.lit (.lit (.lit (.lit (.lit (.lit (.lit (.lit (.lit (.lit (.lit (.lit (.all))))))))))))))))))))))) (.lit (.lit (.lit (.lit (.lit (.lit (.lit (.lit (.lit (.fork (.lit (.lit (.lit (.lit (.lit (.lit (.lit (.lit (.lit (.lit (.lit (.lit (.all))))))))))))) (.lit (.lit (.lit (.lit (.lit (.lit (.lit (.lit (.lit (.lit (.lit (.fork (.all) (.all))))))))))))))))))))))))) (.fork (.lit (.lit (.lit (.lit (.lit (.lit (.lit (.lit (.fork (.lit (.lit (.lit (.lit (.lit (.lit (.lit (.lit (.lit (.lit (.lit (.lit (.lit (.lit (.lit (.lit (.lit (.lit (.lit (.lit (.lit (.lit (.all))))))))))))))))))))))) (.lit (.lit (.lit (.lit (.lit (.lit (.lit (.lit (.lit (.fork (.lit (.lit (.lit (.lit (.lit (.lit (.lit (.lit (.lit (.lit (.lit (.lit (.all))))))))))))) (.lit (.lit (.lit (.lit (.lit (.lit (.lit (.lit (.lit (.lit (.lit (.fork (.all) (.all)))))))))))))))))))))))))))))))) (.lit (.lit (.lit (.lit (.lit (.lit (.fork (.lit (.fork (.lit (.lit (.lit (.lit (.lit (.lit (.lit (.lit (.lit (.lit (.lit (.lit (.lit (.lit (.lit (.lit (.lit (.lit (.lit (.lit (.lit (.lit (.all))))))))))))))))))))))) (.lit (.lit (.lit (.lit (.lit (.lit (.lit (.lit (.lit (.fork (.lit (.lit (.lit (.lit (.lit (.lit (.lit (.lit (.lit (.lit (.lit (.lit (.all))))))))))))) (.lit (.lit (.lit (.lit (.lit (.lit (.lit (.lit (.lit (.lit (.lit (.fork (.all) (.all))))))))))))))))))))))))) (.lit (.fork (.all) (.lit (.fork (.lit (.lit (.lit (.lit (.lit (.lit (.lit (.lit (.lit (.lit (.lit (.lit (.lit (.lit (.lit (.lit (.lit (.lit (.lit (.lit (.lit (.lit (.all))))))))))))))))))))))) (.lit (.lit (.lit (.lit (.lit (.lit (.lit (.lit (.lit (.fork (.lit (.lit (.lit (.lit (.lit (.lit (.lit (.lit (.lit (.lit (.lit (.lit (.all))))))))))))) (.lit (.lit (.lit (.lit (.lit (.lit (.lit (.lit (.lit (.lit (.lit (.fork (.all) (.all)))))))))))))))))))))))))))))))))))))))) (.lit (.lit (.lit (.lit (.lit (.lit (.fork (.lit (.lit (.lit (.lit (.lit (.lit (.lit (.lit (.lit (.lit (.lit (.lit (.lit (.lit (.lit (.lit (.lit (.lit (.lit (.lit (.lit (.lit (.all))))))))))))))))))))))) (.lit (.lit (.lit (.lit (.lit (.lit (.lit (.lit (.lit (.fork (.lit (.lit (.lit (.lit (.lit (.lit (.lit (.lit (.lit (.lit (.lit (.lit (.all))))))))))))) (.lit (.lit (.lit (.lit (.lit (.lit (.lit (.lit (.lit (.lit (.lit (.fork (.all) (.all))))))))))))))))))))))))))))))) (.fork (.fork (.lit (.lit (.lit (.lit (.lit (.lit (.lit (.lit (.lit (.lit (.lit (.lit (.lit (.lit (.lit (.lit (.lit (.lit (.lit (.lit (.lit (.lit (.all))))))))))))))))))))))) (.lit (.lit (.lit (.lit (.lit (.lit (.lit (.lit (.lit (.fork (.lit (.lit (.lit (.lit (.lit (.lit (.lit (.lit (.lit (.lit (.lit (.lit (.all))))))))))))) (.lit (.lit (.lit (.lit (.lit (.lit (.lit (.lit (.lit (.lit (.lit (.fork (.all) (.all)))))))))))))))))))))))) (.fork (.lit (.lit (.lit (.lit (.lit (.lit (.lit (.lit (.lit (.lit (.lit (.lit (.lit (.lit (.lit (.lit (.lit (.lit (.lit (.lit (.lit (.lit (.all))))))))))))))))))))))) (.lit (.lit (.lit (.lit (.lit (.lit (.lit (.lit (.lit (.fork (.lit (.lit (.lit (.lit (.lit (.lit (.lit (.lit (.lit (.lit (.lit (.lit (.all))))))))))))) (.lit (.lit (.lit (.lit (.lit (.lit (.lit (.lit (.lit (.lit (.lit (.fork (.all) (.all)))))))))))))))))))))))))))))) (.all)))) (.lit (.lit (.lit (.all))))
noncomputable def lo1_t (l : List MvT) (h g : Ho) (w : Int) (n : List PkT) (o : List (List UInt8)) (i : Int) : Tree Stop :=
   .node (decide (i < (l.length : Int)))
 (.node (decide (i < 40))
  (.req (decide (0 ≤ i) && decide (i < (l.length : Int))) (.node ((mg l i).fst == 0)
    (.req (smallsB g.ls) (.node (sndB g)
      (.node (decide ((n.length : Int) < 30))
       (.req (decide ((n.length + ([(false, sndT g, false)]).length) * 32 ≤ 140737488355328)) (.node (w != IntKind.i64.wrap ((o.length : Int) + 1))
         (.leaf (Stop.done (SV.bool false)))
         (.node (decide ((o.length : Int) > (h.ls.length : Int)))
          (.leaf (Stop.done (SV.bool false)))
          (.node (decide ((sndV g).ba > w))
           (.leaf (Stop.done (SV.bool false)))
           (.leaf (Stop.at (loopOf Try.prog 8 1) 103 (slotsS 103 [(2, SV.list Mv l), (7, SV.ptr 0 0), (9, SV.ptr 1 0), (10, I64 i), (11, I64 0)]) [some (Box.cells [SV.list Ty.str h.ls, I64 h.ba, I64 h.ne, I64 h.wi, I64 h.re, I64 h.se]), some (Box.cells [SV.list Ty.str (sndV g).ls, I64 (sndV g).ba, I64 (sndV g).ne, I64 (sndV g).wi, I64 (sndV g).re, I64 (sndV g).se, I64 w, SV.row 2, SV.row 3]), some (Box.rows Pk (n ++ [(false, sndT g, false)])), some (Box.rows Ty.str o)]))))))
       (.node (w != IntKind.i64.wrap ((o.length : Int) + 1))
        (.leaf (Stop.done (SV.bool false)))
        (.node (decide ((o.length : Int) > (h.ls.length : Int)))
         (.leaf (Stop.done (SV.bool false)))
         (.node (decide ((sndV g).ba > w))
          (.leaf (Stop.done (SV.bool false)))
          (.leaf (Stop.at (loopOf Try.prog 8 1) 103 (slotsS 103 [(2, SV.list Mv l), (7, SV.ptr 0 0), (9, SV.ptr 1 0), (10, I64 i), (11, I64 0)]) [some (Box.cells [SV.list Ty.str h.ls, I64 h.ba, I64 h.ne, I64 h.wi, I64 h.re, I64 h.se]), some (Box.cells [SV.list Ty.str (sndV g).ls, I64 (sndV g).ba, I64 (sndV g).ne, I64 (sndV g).wi, I64 (sndV g).re, I64 (sndV g).se, I64 w, SV.row 2, SV.row 3]), some (Box.rows Pk n), some (Box.rows Ty.str o)]))))))
      (.node (w != IntKind.i64.wrap ((o.length : Int) + 1))
       (.leaf (Stop.done (SV.bool false)))
       (.node (decide ((o.length : Int) > (h.ls.length : Int)))
        (.leaf (Stop.done (SV.bool false)))
        (.node (decide ((sndV g).ba > w))
         (.leaf (Stop.done (SV.bool false)))
         (.leaf (Stop.at (loopOf Try.prog 8 1) 103 (slotsS 103 [(2, SV.list Mv l), (7, SV.ptr 0 0), (9, SV.ptr 1 0), (10, I64 i), (11, I64 0)]) [some (Box.cells [SV.list Ty.str h.ls, I64 h.ba, I64 h.ne, I64 h.wi, I64 h.re, I64 h.se]), some (Box.cells [SV.list Ty.str (sndV g).ls, I64 (sndV g).ba, I64 (sndV g).ne, I64 (sndV g).wi, I64 (sndV g).re, I64 (sndV g).se, I64 w, SV.row 2, SV.row 3]), some (Box.rows Pk n), some (Box.rows Ty.str o)])))))))
    (.node ((mg l i).fst == 1)
     (.node (decide ((mg l i).snd.fst ≥ 0))
      (.node (!decide ((mg l i).snd.fst < (n.length : Int)))
       (.node (w != IntKind.i64.wrap ((o.length : Int) + 1))
        (.leaf (Stop.done (SV.bool false)))
        (.node (decide ((o.length : Int) > (h.ls.length : Int)))
         (.leaf (Stop.done (SV.bool false)))
         (.node (decide (g.ba > w))
          (.leaf (Stop.done (SV.bool false)))
          (.leaf (Stop.at (loopOf Try.prog 8 1) 103 (slotsS 103 [(2, SV.list Mv l), (7, SV.ptr 0 0), (9, SV.ptr 1 0), (10, I64 i), (11, I64 0)]) [some (Box.cells [SV.list Ty.str h.ls, I64 h.ba, I64 h.ne, I64 h.wi, I64 h.re, I64 h.se]), some (Box.cells [SV.list Ty.str g.ls, I64 g.ba, I64 g.ne, I64 g.wi, I64 g.re, I64 g.se, I64 w, SV.row 2, SV.row 3]), some (Box.rows Pk n), some (Box.rows Ty.str o)])))))
       (.req (decide (0 ≤ (mg l i).snd.fst) && decide ((mg l i).snd.fst < (n.length : Int))) (.req (!n.isEmpty) (.node ((n).isEmpty)
          (.fail 113)
          (.req (decide ((0 + (n).length) * 32 ≤ 140737488355328)) (.req (decide (0 ≤ (mg l i).snd.fst) && decide ((mg l i).snd.fst < ↑([] ++ n).length) && IntKind.i64.wrap ((mg l i).snd.fst + 1) == (mg l i).snd.fst + 1) (.req (smallsB g.ls && small (pg n (mg l i).snd.fst).snd.fst) (.req (small (pg n (mg l i).snd.fst).snd.fst) (.node ((rcv w (pg n (mg l i).snd.fst).fst (pg n (mg l i).snd.fst).snd.fst).snd.snd.snd.snd)
               (.req (decide ((o.length + [(rcv w (pg n (mg l i).snd.fst).fst (pg n (mg l i).snd.fst).snd.fst).snd.fst].length) * 16 ≤ 140737488355328)) (.node ((rcv w (pg n (mg l i).snd.fst).fst (pg n (mg l i).snd.fst).snd.fst).snd.snd.fst)
                 (.req (decide (((er n (mg l i).snd.fst).length + ([((rcv w (pg n (mg l i).snd.fst).fst (pg n (mg l i).snd.fst).snd.fst).snd.snd.fst, (rcv w (pg n (mg l i).snd.fst).fst (pg n (mg l i).snd.fst).snd.fst).snd.snd.snd.fst, false)]).length) * 32 ≤ 140737488355328)) (.node ((rcv w (pg n (mg l i).snd.fst).fst (pg n (mg l i).snd.fst).snd.fst).fst != IntKind.i64.wrap (↑(o ++ [(rcv w (pg n (mg l i).snd.fst).fst (pg n (mg l i).snd.fst).snd.fst).snd.fst]).length + 1))
                   (.leaf (Stop.done (SV.bool false)))
                   (.node (decide (↑(o ++ [(rcv w (pg n (mg l i).snd.fst).fst (pg n (mg l i).snd.fst).snd.fst).snd.fst]).length > (h.ls.length : Int)))
                    (.leaf (Stop.done (SV.bool false)))
                    (.node (decide ((ansV g (pg n (mg l i).snd.fst).fst (pg n (mg l i).snd.fst).snd.fst).ba > (rcv w (pg n (mg l i).snd.fst).fst (pg n (mg l i).snd.fst).snd.fst).fst))
                     (.leaf (Stop.done (SV.bool false)))
                     (.leaf (Stop.at (loopOf Try.prog 8 1) 103 (slotsS 103 [(2, SV.list Mv l), (7, SV.ptr 0 0), (9, SV.ptr 1 0), (10, I64 i), (11, I64 0)]) [some (Box.cells [SV.list Ty.str h.ls, I64 h.ba, I64 h.ne, I64 h.wi, I64 h.re, I64 h.se]), some (Box.cells [SV.list Ty.str (ansV g (pg n (mg l i).snd.fst).fst (pg n (mg l i).snd.fst).snd.fst).ls, I64 (ansV g (pg n (mg l i).snd.fst).fst (pg n (mg l i).snd.fst).snd.fst).ba, I64 (ansV g (pg n (mg l i).snd.fst).fst (pg n (mg l i).snd.fst).snd.fst).ne, I64 (ansV g (pg n (mg l i).snd.fst).fst (pg n (mg l i).snd.fst).snd.fst).wi, I64 (ansV g (pg n (mg l i).snd.fst).fst (pg n (mg l i).snd.fst).snd.fst).re, I64 (ansV g (pg n (mg l i).snd.fst).fst (pg n (mg l i).snd.fst).snd.fst).se, I64 (rcv w (pg n (mg l i).snd.fst).fst (pg n (mg l i).snd.fst).snd.fst).fst, SV.row 2, SV.row 3]), some (Box.rows Pk (er n (mg l i).snd.fst ++ [((rcv w (pg n (mg l i).snd.fst).fst (pg n (mg l i).snd.fst).snd.fst).snd.snd.fst, (rcv w (pg n (mg l i).snd.fst).fst (pg n (mg l i).snd.fst).snd.fst).snd.snd.snd.fst, false)])), some (Box.rows Ty.str (o ++ [(rcv w (pg n (mg l i).snd.fst).fst (pg n (mg l i).snd.fst).snd.fst).snd.fst]))]))))))
                 (.node ((rcv w (pg n (mg l i).snd.fst).fst (pg n (mg l i).snd.fst).snd.fst).fst != IntKind.i64.wrap (↑(o ++ [(rcv w (pg n (mg l i).snd.fst).fst (pg n (mg l i).snd.fst).snd.fst).snd.fst]).length + 1))
                  (.leaf (Stop.done (SV.bool false)))
                  (.node (decide (↑(o ++ [(rcv w (pg n (mg l i).snd.fst).fst (pg n (mg l i).snd.fst).snd.fst).snd.fst]).length > (h.ls.length : Int)))
                   (.leaf (Stop.done (SV.bool false)))
                   (.node (decide ((ansV g (pg n (mg l i).snd.fst).fst (pg n (mg l i).snd.fst).snd.fst).ba > (rcv w (pg n (mg l i).snd.fst).fst (pg n (mg l i).snd.fst).snd.fst).fst))
                    (.leaf (Stop.done (SV.bool false)))
                    (.leaf (Stop.at (loopOf Try.prog 8 1) 103 (slotsS 103 [(2, SV.list Mv l), (7, SV.ptr 0 0), (9, SV.ptr 1 0), (10, I64 i), (11, I64 0)]) [some (Box.cells [SV.list Ty.str h.ls, I64 h.ba, I64 h.ne, I64 h.wi, I64 h.re, I64 h.se]), some (Box.cells [SV.list Ty.str (ansV g (pg n (mg l i).snd.fst).fst (pg n (mg l i).snd.fst).snd.fst).ls, I64 (ansV g (pg n (mg l i).snd.fst).fst (pg n (mg l i).snd.fst).snd.fst).ba, I64 (ansV g (pg n (mg l i).snd.fst).fst (pg n (mg l i).snd.fst).snd.fst).ne, I64 (ansV g (pg n (mg l i).snd.fst).fst (pg n (mg l i).snd.fst).snd.fst).wi, I64 (ansV g (pg n (mg l i).snd.fst).fst (pg n (mg l i).snd.fst).snd.fst).re, I64 (ansV g (pg n (mg l i).snd.fst).fst (pg n (mg l i).snd.fst).snd.fst).se, I64 (rcv w (pg n (mg l i).snd.fst).fst (pg n (mg l i).snd.fst).snd.fst).fst, SV.row 2, SV.row 3]), some (Box.rows Pk (er n (mg l i).snd.fst)), some (Box.rows Ty.str (o ++ [(rcv w (pg n (mg l i).snd.fst).fst (pg n (mg l i).snd.fst).snd.fst).snd.fst]))])))))))
               (.node ((rcv w (pg n (mg l i).snd.fst).fst (pg n (mg l i).snd.fst).snd.fst).snd.snd.fst)
                (.req (decide (((er n (mg l i).snd.fst).length + ([((rcv w (pg n (mg l i).snd.fst).fst (pg n (mg l i).snd.fst).snd.fst).snd.snd.fst, (rcv w (pg n (mg l i).snd.fst).fst (pg n (mg l i).snd.fst).snd.fst).snd.snd.snd.fst, false)]).length) * 32 ≤ 140737488355328)) (.node ((rcv w (pg n (mg l i).snd.fst).fst (pg n (mg l i).snd.fst).snd.fst).fst != IntKind.i64.wrap ((o.length : Int) + 1))
                  (.leaf (Stop.done (SV.bool false)))
                  (.node (decide ((o.length : Int) > (h.ls.length : Int)))
                   (.leaf (Stop.done (SV.bool false)))
                   (.node (decide ((ansV g (pg n (mg l i).snd.fst).fst (pg n (mg l i).snd.fst).snd.fst).ba > (rcv w (pg n (mg l i).snd.fst).fst (pg n (mg l i).snd.fst).snd.fst).fst))
                    (.leaf (Stop.done (SV.bool false)))
                    (.leaf (Stop.at (loopOf Try.prog 8 1) 103 (slotsS 103 [(2, SV.list Mv l), (7, SV.ptr 0 0), (9, SV.ptr 1 0), (10, I64 i), (11, I64 0)]) [some (Box.cells [SV.list Ty.str h.ls, I64 h.ba, I64 h.ne, I64 h.wi, I64 h.re, I64 h.se]), some (Box.cells [SV.list Ty.str (ansV g (pg n (mg l i).snd.fst).fst (pg n (mg l i).snd.fst).snd.fst).ls, I64 (ansV g (pg n (mg l i).snd.fst).fst (pg n (mg l i).snd.fst).snd.fst).ba, I64 (ansV g (pg n (mg l i).snd.fst).fst (pg n (mg l i).snd.fst).snd.fst).ne, I64 (ansV g (pg n (mg l i).snd.fst).fst (pg n (mg l i).snd.fst).snd.fst).wi, I64 (ansV g (pg n (mg l i).snd.fst).fst (pg n (mg l i).snd.fst).snd.fst).re, I64 (ansV g (pg n (mg l i).snd.fst).fst (pg n (mg l i).snd.fst).snd.fst).se, I64 (rcv w (pg n (mg l i).snd.fst).fst (pg n (mg l i).snd.fst).snd.fst).fst, SV.row 2, SV.row 3]), some (Box.rows Pk (er n (mg l i).snd.fst ++ [((rcv w (pg n (mg l i).snd.fst).fst (pg n (mg l i).snd.fst).snd.fst).snd.snd.fst, (rcv w (pg n (mg l i).snd.fst).fst (pg n (mg l i).snd.fst).snd.fst).snd.snd.snd.fst, false)])), some (Box.rows Ty.str o)]))))))
                (.node ((rcv w (pg n (mg l i).snd.fst).fst (pg n (mg l i).snd.fst).snd.fst).fst != IntKind.i64.wrap ((o.length : Int) + 1))
                 (.leaf (Stop.done (SV.bool false)))
                 (.node (decide ((o.length : Int) > (h.ls.length : Int)))
                  (.leaf (Stop.done (SV.bool false)))
                  (.node (decide ((ansV g (pg n (mg l i).snd.fst).fst (pg n (mg l i).snd.fst).snd.fst).ba > (rcv w (pg n (mg l i).snd.fst).fst (pg n (mg l i).snd.fst).snd.fst).fst))
                   (.leaf (Stop.done (SV.bool false)))
                   (.leaf (Stop.at (loopOf Try.prog 8 1) 103 (slotsS 103 [(2, SV.list Mv l), (7, SV.ptr 0 0), (9, SV.ptr 1 0), (10, I64 i), (11, I64 0)]) [some (Box.cells [SV.list Ty.str h.ls, I64 h.ba, I64 h.ne, I64 h.wi, I64 h.re, I64 h.se]), some (Box.cells [SV.list Ty.str (ansV g (pg n (mg l i).snd.fst).fst (pg n (mg l i).snd.fst).snd.fst).ls, I64 (ansV g (pg n (mg l i).snd.fst).fst (pg n (mg l i).snd.fst).snd.fst).ba, I64 (ansV g (pg n (mg l i).snd.fst).fst (pg n (mg l i).snd.fst).snd.fst).ne, I64 (ansV g (pg n (mg l i).snd.fst).fst (pg n (mg l i).snd.fst).snd.fst).wi, I64 (ansV g (pg n (mg l i).snd.fst).fst (pg n (mg l i).snd.fst).snd.fst).re, I64 (ansV g (pg n (mg l i).snd.fst).fst (pg n (mg l i).snd.fst).snd.fst).se, I64 (rcv w (pg n (mg l i).snd.fst).fst (pg n (mg l i).snd.fst).snd.fst).fst, SV.row 2, SV.row 3]), some (Box.rows Pk (er n (mg l i).snd.fst)), some (Box.rows Ty.str o)])))))))))))))))
      (.node (w != IntKind.i64.wrap ((o.length : Int) + 1))
       (.leaf (Stop.done (SV.bool false)))
       (.node (decide ((o.length : Int) > (h.ls.length : Int)))
        (.leaf (Stop.done (SV.bool false)))
        (.node (decide (g.ba > w))
         (.leaf (Stop.done (SV.bool false)))
         (.leaf (Stop.at (loopOf Try.prog 8 1) 103 (slotsS 103 [(2, SV.list Mv l), (7, SV.ptr 0 0), (9, SV.ptr 1 0), (10, I64 i), (11, I64 0)]) [some (Box.cells [SV.list Ty.str h.ls, I64 h.ba, I64 h.ne, I64 h.wi, I64 h.re, I64 h.se]), some (Box.cells [SV.list Ty.str g.ls, I64 g.ba, I64 g.ne, I64 g.wi, I64 g.re, I64 g.se, I64 w, SV.row 2, SV.row 3]), some (Box.rows Pk n), some (Box.rows Ty.str o)]))))))
     (.node ((mg l i).fst == 2)
      (.node (decide ((mg l i).snd.fst ≥ 0))
       (.node (!decide ((mg l i).snd.fst < (n.length : Int)))
        (.node (w != IntKind.i64.wrap ((o.length : Int) + 1))
         (.leaf (Stop.done (SV.bool false)))
         (.node (decide ((o.length : Int) > (h.ls.length : Int)))
          (.leaf (Stop.done (SV.bool false)))
          (.node (decide (g.ba > w))
           (.leaf (Stop.done (SV.bool false)))
           (.leaf (Stop.at (loopOf Try.prog 8 1) 103 (slotsS 103 [(2, SV.list Mv l), (7, SV.ptr 0 0), (9, SV.ptr 1 0), (10, I64 i), (11, I64 0)]) [some (Box.cells [SV.list Ty.str h.ls, I64 h.ba, I64 h.ne, I64 h.wi, I64 h.re, I64 h.se]), some (Box.cells [SV.list Ty.str g.ls, I64 g.ba, I64 g.ne, I64 g.wi, I64 g.re, I64 g.se, I64 w, SV.row 2, SV.row 3]), some (Box.rows Pk n), some (Box.rows Ty.str o)])))))
        (.req (decide (0 ≤ (mg l i).snd.fst) && decide ((mg l i).snd.fst < (n.length : Int))) (.req (!n.isEmpty) (.node ((n).isEmpty)
           (.fail 113)
           (.req (decide ((0 + (n).length) * 32 ≤ 140737488355328)) (.req (decide (0 ≤ (mg l i).snd.fst) && decide ((mg l i).snd.fst < ↑([] ++ n).length) && IntKind.i64.wrap ((mg l i).snd.fst + 1) == (mg l i).snd.fst + 1) (.node (w != IntKind.i64.wrap ((o.length : Int) + 1))
              (.leaf (Stop.done (SV.bool false)))
              (.node (decide ((o.length : Int) > (h.ls.length : Int)))
               (.leaf (Stop.done (SV.bool false)))
               (.node (decide (g.ba > w))
                (.leaf (Stop.done (SV.bool false)))
                (.leaf (Stop.at (loopOf Try.prog 8 1) 103 (slotsS 103 [(2, SV.list Mv l), (7, SV.ptr 0 0), (9, SV.ptr 1 0), (10, I64 i), (11, I64 0)]) [some (Box.cells [SV.list Ty.str h.ls, I64 h.ba, I64 h.ne, I64 h.wi, I64 h.re, I64 h.se]), some (Box.cells [SV.list Ty.str g.ls, I64 g.ba, I64 g.ne, I64 g.wi, I64 g.re, I64 g.se, I64 w, SV.row 2, SV.row 3]), some (Box.rows Pk (er n (mg l i).snd.fst)), some (Box.rows Ty.str o)])))))))))))
       (.node (w != IntKind.i64.wrap ((o.length : Int) + 1))
        (.leaf (Stop.done (SV.bool false)))
        (.node (decide ((o.length : Int) > (h.ls.length : Int)))
         (.leaf (Stop.done (SV.bool false)))
         (.node (decide (g.ba > w))
          (.leaf (Stop.done (SV.bool false)))
          (.leaf (Stop.at (loopOf Try.prog 8 1) 103 (slotsS 103 [(2, SV.list Mv l), (7, SV.ptr 0 0), (9, SV.ptr 1 0), (10, I64 i), (11, I64 0)]) [some (Box.cells [SV.list Ty.str h.ls, I64 h.ba, I64 h.ne, I64 h.wi, I64 h.re, I64 h.se]), some (Box.cells [SV.list Ty.str g.ls, I64 g.ba, I64 g.ne, I64 g.wi, I64 g.re, I64 g.se, I64 w, SV.row 2, SV.row 3]), some (Box.rows Pk n), some (Box.rows Ty.str o)]))))))
      (.node ((mg l i).fst == 3)
       (.node (decide ((mg l i).snd.fst ≥ 0))
        (.node (!decide ((mg l i).snd.fst < (n.length : Int)))
         (.node (w != IntKind.i64.wrap ((o.length : Int) + 1))
          (.leaf (Stop.done (SV.bool false)))
          (.node (decide ((o.length : Int) > (h.ls.length : Int)))
           (.leaf (Stop.done (SV.bool false)))
           (.node (decide (g.ba > w))
            (.leaf (Stop.done (SV.bool false)))
            (.leaf (Stop.at (loopOf Try.prog 8 1) 103 (slotsS 103 [(2, SV.list Mv l), (7, SV.ptr 0 0), (9, SV.ptr 1 0), (10, I64 i), (11, I64 0)]) [some (Box.cells [SV.list Ty.str h.ls, I64 h.ba, I64 h.ne, I64 h.wi, I64 h.re, I64 h.se]), some (Box.cells [SV.list Ty.str g.ls, I64 g.ba, I64 g.ne, I64 g.wi, I64 g.re, I64 g.se, I64 w, SV.row 2, SV.row 3]), some (Box.rows Pk n), some (Box.rows Ty.str o)])))))
         (.node (decide ((n.length : Int) ≥ 64))
          (.node (w != IntKind.i64.wrap ((o.length : Int) + 1))
           (.leaf (Stop.done (SV.bool false)))
           (.node (decide ((o.length : Int) > (h.ls.length : Int)))
            (.leaf (Stop.done (SV.bool false)))
            (.node (decide (g.ba > w))
             (.leaf (Stop.done (SV.bool false)))
             (.leaf (Stop.at (loopOf Try.prog 8 1) 103 (slotsS 103 [(2, SV.list Mv l), (7, SV.ptr 0 0), (9, SV.ptr 1 0), (10, I64 i), (11, I64 0)]) [some (Box.cells [SV.list Ty.str h.ls, I64 h.ba, I64 h.ne, I64 h.wi, I64 h.re, I64 h.se]), some (Box.cells [SV.list Ty.str g.ls, I64 g.ba, I64 g.ne, I64 g.wi, I64 g.re, I64 g.se, I64 w, SV.row 2, SV.row 3]), some (Box.rows Pk n), some (Box.rows Ty.str o)])))))
          (.req (!n.isEmpty) (.node ((n).isEmpty)
            (.fail 113)
            (.req (decide ((0 + (n).length) * 32 ≤ 140737488355328)) (.req (decide (0 ≤ (mg l i).snd.fst) && decide ((mg l i).snd.fst < (n.length : Int))) (.req (decide ((([] ++ n).length + ([(pg n (mg l i).snd.fst)]).length) * 32 ≤ 140737488355328)) (.node (decide ((((([] ++ n) ++ [(pg n (mg l i).snd.fst)]).length : Nat) : Int) < 30))
                (.node (w != IntKind.i64.wrap ((o.length : Int) + 1))
                 (.leaf (Stop.done (SV.bool false)))
                 (.node (decide ((o.length : Int) > (h.ls.length : Int)))
                  (.leaf (Stop.done (SV.bool false)))
                  (.node (decide (g.ba > w))
                   (.leaf (Stop.done (SV.bool false)))
                   (.leaf (Stop.at (loopOf Try.prog 8 1) 103 (slotsS 103 [(2, SV.list Mv l), (7, SV.ptr 0 0), (9, SV.ptr 1 0), (10, I64 i), (11, I64 0)]) [some (Box.cells [SV.list Ty.str h.ls, I64 h.ba, I64 h.ne, I64 h.wi, I64 h.re, I64 h.se]), some (Box.cells [SV.list Ty.str g.ls, I64 g.ba, I64 g.ne, I64 g.wi, I64 g.re, I64 g.se, I64 w, SV.row 2, SV.row 3]), some (Box.rows Pk (([] ++ n) ++ [(pg n (mg l i).snd.fst)])), some (Box.rows Ty.str o)])))))
                (.node (w != IntKind.i64.wrap ((o.length : Int) + 1))
                 (.leaf (Stop.done (SV.bool false)))
                 (.node (decide ((o.length : Int) > (h.ls.length : Int)))
                  (.leaf (Stop.done (SV.bool false)))
                  (.node (decide (g.ba > w))
                   (.leaf (Stop.done (SV.bool false)))
                   (.leaf (Stop.at (loopOf Try.prog 8 1) 103 (slotsS 103 [(2, SV.list Mv l), (7, SV.ptr 0 0), (9, SV.ptr 1 0), (10, I64 i), (11, I64 0)]) [some (Box.cells [SV.list Ty.str h.ls, I64 h.ba, I64 h.ne, I64 h.wi, I64 h.re, I64 h.se]), some (Box.cells [SV.list Ty.str g.ls, I64 g.ba, I64 g.ne, I64 g.wi, I64 g.re, I64 g.se, I64 w, SV.row 2, SV.row 3]), some (Box.rows Pk n), some (Box.rows Ty.str o)])))))))))))))
        (.node (w != IntKind.i64.wrap ((o.length : Int) + 1))
         (.leaf (Stop.done (SV.bool false)))
         (.node (decide ((o.length : Int) > (h.ls.length : Int)))
          (.leaf (Stop.done (SV.bool false)))
          (.node (decide (g.ba > w))
           (.leaf (Stop.done (SV.bool false)))
           (.leaf (Stop.at (loopOf Try.prog 8 1) 103 (slotsS 103 [(2, SV.list Mv l), (7, SV.ptr 0 0), (9, SV.ptr 1 0), (10, I64 i), (11, I64 0)]) [some (Box.cells [SV.list Ty.str h.ls, I64 h.ba, I64 h.ne, I64 h.wi, I64 h.re, I64 h.se]), some (Box.cells [SV.list Ty.str g.ls, I64 g.ba, I64 g.ne, I64 g.wi, I64 g.re, I64 g.se, I64 w, SV.row 2, SV.row 3]), some (Box.rows Pk n), some (Box.rows Ty.str o)]))))))
       (.node ((mg l i).fst == 4)
        (.node (decide ((mg l i).snd.fst ≥ 0))
         (.node (!decide ((mg l i).snd.fst < (n.length : Int)))
          (.node (w != IntKind.i64.wrap ((o.length : Int) + 1))
           (.leaf (Stop.done (SV.bool false)))
           (.node (decide ((o.length : Int) > (h.ls.length : Int)))
            (.leaf (Stop.done (SV.bool false)))
            (.node (decide (g.ba > w))
             (.leaf (Stop.done (SV.bool false)))
             (.leaf (Stop.at (loopOf Try.prog 8 1) 103 (slotsS 103 [(2, SV.list Mv l), (7, SV.ptr 0 0), (9, SV.ptr 1 0), (10, I64 i), (11, I64 0)]) [some (Box.cells [SV.list Ty.str h.ls, I64 h.ba, I64 h.ne, I64 h.wi, I64 h.re, I64 h.se]), some (Box.cells [SV.list Ty.str g.ls, I64 g.ba, I64 g.ne, I64 g.wi, I64 g.re, I64 g.se, I64 w, SV.row 2, SV.row 3]), some (Box.rows Pk n), some (Box.rows Ty.str o)])))))
          (.req (decide (0 ≤ (mg l i).snd.fst) && decide ((mg l i).snd.fst < (n.length : Int))) (.node ((pg n (mg l i).snd.fst).snd.snd)
            (.node (w != IntKind.i64.wrap ((o.length : Int) + 1))
             (.leaf (Stop.done (SV.bool false)))
             (.node (decide ((o.length : Int) > (h.ls.length : Int)))
              (.leaf (Stop.done (SV.bool false)))
              (.node (decide (g.ba > w))
               (.leaf (Stop.done (SV.bool false)))
               (.leaf (Stop.at (loopOf Try.prog 8 1) 103 (slotsS 103 [(2, SV.list Mv l), (7, SV.ptr 0 0), (9, SV.ptr 1 0), (10, I64 i), (11, I64 0)]) [some (Box.cells [SV.list Ty.str h.ls, I64 h.ba, I64 h.ne, I64 h.wi, I64 h.re, I64 h.se]), some (Box.cells [SV.list Ty.str g.ls, I64 g.ba, I64 g.ne, I64 g.wi, I64 g.re, I64 g.se, I64 w, SV.row 2, SV.row 3]), some (Box.rows Pk n), some (Box.rows Ty.str o)])))))
            (.req (decide (0 ≤ (mg l i).snd.fst) && decide ((mg l i).snd.fst < (n.length : Int))) (.node ((pg n (mg l i).snd.fst).snd.fst == [])
              (.node (w != IntKind.i64.wrap ((o.length : Int) + 1))
               (.leaf (Stop.done (SV.bool false)))
               (.node (decide ((o.length : Int) > (h.ls.length : Int)))
                (.leaf (Stop.done (SV.bool false)))
                (.node (decide (g.ba > w))
                 (.leaf (Stop.done (SV.bool false)))
                 (.leaf (Stop.at (loopOf Try.prog 8 1) 103 (slotsS 103 [(2, SV.list Mv l), (7, SV.ptr 0 0), (9, SV.ptr 1 0), (10, I64 i), (11, I64 0)]) [some (Box.cells [SV.list Ty.str h.ls, I64 h.ba, I64 h.ne, I64 h.wi, I64 h.re, I64 h.se]), some (Box.cells [SV.list Ty.str g.ls, I64 g.ba, I64 g.ne, I64 g.wi, I64 g.re, I64 g.se, I64 w, SV.row 2, SV.row 3]), some (Box.rows Pk n), some (Box.rows Ty.str o)])))))
              (.req (!n.isEmpty) (.node ((n).isEmpty)
                (.fail 113)
                (.req (decide ((0 + (n).length) * 32 ≤ 140737488355328)) (.req (decide (0 ≤ (mg l i).snd.fst) && decide ((mg l i).snd.fst < (n.length : Int))) (.req (!((tn (pg n (mg l i).snd.fst).snd.fst).length : Int) == 0) (.req (!((tn (pg n (mg l i).snd.fst).snd.fst).length : Int) == 0) (.req (decide (0 ≤ (IntKind.i64.wrap (Int.tmod (mg l i).snd.snd ((tn (pg n (mg l i).snd.fst).snd.fst).length : Int) + ((tn (pg n (mg l i).snd.fst).snd.fst).length : Int))).tmod ((tn (pg n (mg l i).snd.fst).snd.fst).length : Int)) && decide ((IntKind.i64.wrap (Int.tmod (mg l i).snd.snd ((tn (pg n (mg l i).snd.fst).snd.fst).length : Int) + ((tn (pg n (mg l i).snd.fst).snd.fst).length : Int))).tmod ((tn (pg n (mg l i).snd.fst).snd.fst).length : Int) < ((tn (pg n (mg l i).snd.fst).snd.fst).length : Int))) (.req (decide (((IntKind.i64.wrap (Int.tmod (mg l i).snd.snd ((tn (pg n (mg l i).snd.fst).snd.fst).length : Int) + ((tn (pg n (mg l i).snd.fst).snd.fst).length : Int))).tmod ((tn (pg n (mg l i).snd.fst).snd.fst).length : Int)).toNat < (tn (pg n (mg l i).snd.fst).snd.fst).length)) (.req (decide (0 ≤ (IntKind.i64.wrap (Int.tmod (mg l i).snd.snd ((tn (pg n (mg l i).snd.fst).snd.fst).length : Int) + ((tn (pg n (mg l i).snd.fst).snd.fst).length : Int))).tmod ((tn (pg n (mg l i).snd.fst).snd.fst).length : Int)) && decide ((IntKind.i64.wrap (Int.tmod (mg l i).snd.snd ((tn (pg n (mg l i).snd.fst).snd.fst).length : Int) + ((tn (pg n (mg l i).snd.fst).snd.fst).length : Int))).tmod ((tn (pg n (mg l i).snd.fst).snd.fst).length : Int) < ((tn (pg n (mg l i).snd.fst).snd.fst).length : Int))) (.req (decide (((IntKind.i64.wrap (Int.tmod (mg l i).snd.snd ((tn (pg n (mg l i).snd.fst).snd.fst).length : Int) + ((tn (pg n (mg l i).snd.fst).snd.fst).length : Int))).tmod ((tn (pg n (mg l i).snd.fst).snd.fst).length : Int)).toNat < (tn (pg n (mg l i).snd.fst).snd.fst).length)) (.req (decide (0 ≤ (mg l i).snd.fst) && decide ((mg l i).snd.fst < ↑([] ++ n).length)) (.req (decide (Int.toNat (mg l i).snd.fst < ([] ++ n).length)) (.req (decide (0 ≤ (mg l i).snd.fst) && decide ((mg l i).snd.fst < ↑(([] ++ n).set (Int.toNat (mg l i).snd.fst) ((([] ++ n).getD (Int.toNat (mg l i).snd.fst) (Ty.bool.pair (Ty.str.pair Ty.bool)).dflt).fst, un ((tn (pg n (mg l i).snd.fst).snd.fst).set ((IntKind.i64.wrap (Int.tmod (mg l i).snd.snd ((tn (pg n (mg l i).snd.fst).snd.fst).length : Int) + ((tn (pg n (mg l i).snd.fst).snd.fst).length : Int))).tmod ((tn (pg n (mg l i).snd.fst).snd.fst).length : Int)).toNat (IntKind.u8.wrap ↑(BitVec.ofInt 8 ((tn (pg n (mg l i).snd.fst).snd.fst).getD ((IntKind.i64.wrap (Int.tmod (mg l i).snd.snd ((tn (pg n (mg l i).snd.fst).snd.fst).length : Int) + ((tn (pg n (mg l i).snd.fst).snd.fst).length : Int))).tmod ((tn (pg n (mg l i).snd.fst).snd.fst).length : Int)).toNat 0) ^^^ BitVec.ofInt 8 1).toNat)), (([] ++ n).getD (Int.toNat (mg l i).snd.fst) (Ty.bool.pair (Ty.str.pair Ty.bool)).dflt).snd.snd)).length)) (.req (decide (Int.toNat (mg l i).snd.fst < (([] ++ n).set (Int.toNat (mg l i).snd.fst) ((([] ++ n).getD (Int.toNat (mg l i).snd.fst) (Ty.bool.pair (Ty.str.pair Ty.bool)).dflt).fst, un ((tn (pg n (mg l i).snd.fst).snd.fst).set ((IntKind.i64.wrap (Int.tmod (mg l i).snd.snd ((tn (pg n (mg l i).snd.fst).snd.fst).length : Int) + ((tn (pg n (mg l i).snd.fst).snd.fst).length : Int))).tmod ((tn (pg n (mg l i).snd.fst).snd.fst).length : Int)).toNat (IntKind.u8.wrap ↑(BitVec.ofInt 8 ((tn (pg n (mg l i).snd.fst).snd.fst).getD ((IntKind.i64.wrap (Int.tmod (mg l i).snd.snd ((tn (pg n (mg l i).snd.fst).snd.fst).length : Int) + ((tn (pg n (mg l i).snd.fst).snd.fst).length : Int))).tmod ((tn (pg n (mg l i).snd.fst).snd.fst).length : Int)).toNat 0) ^^^ BitVec.ofInt 8 1).toNat)), (([] ++ n).getD (Int.toNat (mg l i).snd.fst) (Ty.bool.pair (Ty.str.pair Ty.bool)).dflt).snd.snd)).length)) (.node (w != IntKind.i64.wrap ((o.length : Int) + 1))
                             (.leaf (Stop.done (SV.bool false)))
                             (.node (decide ((o.length : Int) > (h.ls.length : Int)))
                              (.leaf (Stop.done (SV.bool false)))
                              (.node (decide (g.ba > w))
                               (.leaf (Stop.done (SV.bool false)))
                               (.leaf (Stop.at (loopOf Try.prog 8 1) 103 (slotsS 103 [(2, SV.list Mv l), (7, SV.ptr 0 0), (9, SV.ptr 1 0), (10, I64 i), (11, I64 0)]) [some (Box.cells [SV.list Ty.str h.ls, I64 h.ba, I64 h.ne, I64 h.wi, I64 h.re, I64 h.se]), some (Box.cells [SV.list Ty.str g.ls, I64 g.ba, I64 g.ne, I64 g.wi, I64 g.re, I64 g.se, I64 w, SV.row 2, SV.row 3]), some (Box.rows Pk ((([] ++ n).set (Int.toNat (mg l i).snd.fst) ((([] ++ n).getD (Int.toNat (mg l i).snd.fst) (Ty.bool.pair (Ty.str.pair Ty.bool)).dflt).fst, un ((tn (pg n (mg l i).snd.fst).snd.fst).set ((IntKind.i64.wrap (Int.tmod (mg l i).snd.snd ((tn (pg n (mg l i).snd.fst).snd.fst).length : Int) + ((tn (pg n (mg l i).snd.fst).snd.fst).length : Int))).tmod ((tn (pg n (mg l i).snd.fst).snd.fst).length : Int)).toNat (IntKind.u8.wrap ↑(BitVec.ofInt 8 ((tn (pg n (mg l i).snd.fst).snd.fst).getD ((IntKind.i64.wrap (Int.tmod (mg l i).snd.snd ((tn (pg n (mg l i).snd.fst).snd.fst).length : Int) + ((tn (pg n (mg l i).snd.fst).snd.fst).length : Int))).tmod ((tn (pg n (mg l i).snd.fst).snd.fst).length : Int)).toNat 0) ^^^ BitVec.ofInt 8 1).toNat)), (([] ++ n).getD (Int.toNat (mg l i).snd.fst) (Ty.bool.pair (Ty.str.pair Ty.bool)).dflt).snd.snd)).set (Int.toNat (mg l i).snd.fst) (((([] ++ n).set (Int.toNat (mg l i).snd.fst) ((([] ++ n).getD (Int.toNat (mg l i).snd.fst) (Ty.bool.pair (Ty.str.pair Ty.bool)).dflt).fst, un ((tn (pg n (mg l i).snd.fst).snd.fst).set ((IntKind.i64.wrap (Int.tmod (mg l i).snd.snd ((tn (pg n (mg l i).snd.fst).snd.fst).length : Int) + ((tn (pg n (mg l i).snd.fst).snd.fst).length : Int))).tmod ((tn (pg n (mg l i).snd.fst).snd.fst).length : Int)).toNat (IntKind.u8.wrap ↑(BitVec.ofInt 8 ((tn (pg n (mg l i).snd.fst).snd.fst).getD ((IntKind.i64.wrap (Int.tmod (mg l i).snd.snd ((tn (pg n (mg l i).snd.fst).snd.fst).length : Int) + ((tn (pg n (mg l i).snd.fst).snd.fst).length : Int))).tmod ((tn (pg n (mg l i).snd.fst).snd.fst).length : Int)).toNat 0) ^^^ BitVec.ofInt 8 1).toNat)), (([] ++ n).getD (Int.toNat (mg l i).snd.fst) (Ty.bool.pair (Ty.str.pair Ty.bool)).dflt).snd.snd)).getD (Int.toNat (mg l i).snd.fst) (Ty.bool.pair (Ty.str.pair Ty.bool)).dflt).fst, ((([] ++ n).set (Int.toNat (mg l i).snd.fst) ((([] ++ n).getD (Int.toNat (mg l i).snd.fst) (Ty.bool.pair (Ty.str.pair Ty.bool)).dflt).fst, un ((tn (pg n (mg l i).snd.fst).snd.fst).set ((IntKind.i64.wrap (Int.tmod (mg l i).snd.snd ((tn (pg n (mg l i).snd.fst).snd.fst).length : Int) + ((tn (pg n (mg l i).snd.fst).snd.fst).length : Int))).tmod ((tn (pg n (mg l i).snd.fst).snd.fst).length : Int)).toNat (IntKind.u8.wrap ↑(BitVec.ofInt 8 ((tn (pg n (mg l i).snd.fst).snd.fst).getD ((IntKind.i64.wrap (Int.tmod (mg l i).snd.snd ((tn (pg n (mg l i).snd.fst).snd.fst).length : Int) + ((tn (pg n (mg l i).snd.fst).snd.fst).length : Int))).tmod ((tn (pg n (mg l i).snd.fst).snd.fst).length : Int)).toNat 0) ^^^ BitVec.ofInt 8 1).toNat)), (([] ++ n).getD (Int.toNat (mg l i).snd.fst) (Ty.bool.pair (Ty.str.pair Ty.bool)).dflt).snd.snd)).getD (Int.toNat (mg l i).snd.fst) (Ty.bool.pair (Ty.str.pair Ty.bool)).dflt).snd.fst, true))), some (Box.rows Ty.str o)]))))))))))))))))))))))))
         (.node (w != IntKind.i64.wrap ((o.length : Int) + 1))
          (.leaf (Stop.done (SV.bool false)))
          (.node (decide ((o.length : Int) > (h.ls.length : Int)))
           (.leaf (Stop.done (SV.bool false)))
           (.node (decide (g.ba > w))
            (.leaf (Stop.done (SV.bool false)))
            (.leaf (Stop.at (loopOf Try.prog 8 1) 103 (slotsS 103 [(2, SV.list Mv l), (7, SV.ptr 0 0), (9, SV.ptr 1 0), (10, I64 i), (11, I64 0)]) [some (Box.cells [SV.list Ty.str h.ls, I64 h.ba, I64 h.ne, I64 h.wi, I64 h.re, I64 h.se]), some (Box.cells [SV.list Ty.str g.ls, I64 g.ba, I64 g.ne, I64 g.wi, I64 g.re, I64 g.se, I64 w, SV.row 2, SV.row 3]), some (Box.rows Pk n), some (Box.rows Ty.str o)]))))))
        (.req (smallsB g.ls) (.node ((agaV g g.ba).snd == 0)
          (.node (w != IntKind.i64.wrap ((o.length : Int) + 1))
           (.leaf (Stop.done (SV.bool false)))
           (.node (decide ((o.length : Int) > (h.ls.length : Int)))
            (.leaf (Stop.done (SV.bool false)))
            (.node (decide ((agaV g g.ba).fst.ba > w))
             (.leaf (Stop.done (SV.bool false)))
             (.leaf (Stop.at (loopOf Try.prog 8 1) 103 (slotsS 103 [(2, SV.list Mv l), (7, SV.ptr 0 0), (9, SV.ptr 1 0), (10, I64 i), (11, I64 0)]) [some (Box.cells [SV.list Ty.str h.ls, I64 h.ba, I64 h.ne, I64 h.wi, I64 h.re, I64 h.se]), some (Box.cells [SV.list Ty.str (agaV g g.ba).fst.ls, I64 (agaV g g.ba).fst.ba, I64 (agaV g g.ba).fst.ne, I64 (agaV g g.ba).fst.wi, I64 (agaV g g.ba).fst.re, I64 (agaV g g.ba).fst.se, I64 w, SV.row 2, SV.row 3]), some (Box.rows Pk n), some (Box.rows Ty.str o)])))))
          (.node (w != IntKind.i64.wrap ((o.length : Int) + 1))
           (.leaf (Stop.done (SV.bool false)))
           (.node (decide ((o.length : Int) > (h.ls.length : Int)))
            (.leaf (Stop.done (SV.bool false)))
            (.node (decide (g.ba > w))
             (.leaf (Stop.done (SV.bool false)))
             (.leaf (Stop.at (loopOf Try.prog 8 1) 103 (slotsS 103 [(2, SV.list Mv l), (7, SV.ptr 0 0), (9, SV.ptr 1 0), (10, I64 i), (11, I64 0)]) [some (Box.cells [SV.list Ty.str h.ls, I64 h.ba, I64 h.ne, I64 h.wi, I64 h.re, I64 h.se]), some (Box.cells [SV.list Ty.str g.ls, I64 g.ba, I64 g.ne, I64 g.wi, I64 g.re, I64 g.se, I64 w, SV.row 2, SV.row 3]), some (Box.rows Pk n), some (Box.rows Ty.str o)])))))))))))))
  (.leaf (Stop.done (SV.bool true))))
 (.leaf (Stop.done (SV.bool true)))
theorem lo1 (l : List MvT) (h g : Ho) (w : Int) (n : List PkT) (o : List (List UInt8)) (i : Int) : segR (Env.ofR Try.prog (sumOf [fFew, fSta, fSnd, fAnsH, fRecv, fAga, fAwake]) (wrOf [wDel]) (rdOf [18, 20, 22])) 1000 (fnOf Try.prog 8) .unit (keepS 103 [2,7,9,10,11]) (loopOf Try.prog 8 0) lo1_p (slotsS 103 [(2, .list Mv l), (7, .ptr 0 0), (9, .ptr 1 0), (10, I64 i)]) [some (.cells h.cells), some (.cells (wCells g w)), some (.rows Pk n), some (.rows .str o)] = lo1_t l h g w n o i := by kernel_rfl
def lo2_p : Plan := .fork (.fork (.all) (.all)) (.all)
noncomputable def lo2_t (l : List MvT) (h g : Ho) (w : Int) (n : List PkT) (o : List (List UInt8)) (i k : Int) : Tree Stop :=
   .node (decide (k < (o.length : Int)))
 (.req (decide (0 ≤ k) && decide (k < (o.length : Int))) (.req (decide (k.toNat < o.length)) (.req (decide (0 ≤ k) && decide (k < (h.ls.length : Int))) (.node (!o.getD k.toNat Ty.str.dflt == h.ls.getD k.toNat Ty.str.dflt)
     (.leaf (Stop.done (SV.bool false)))
     (.leaf (Stop.at (loopOf Try.prog 8 1) 103 (slotsS 103 [(2, SV.list Mv l), (7, SV.ptr 0 0), (9, SV.ptr 1 0), (10, I64 i), (11, I64 (IntKind.i64.wrap (k + 1)))]) [some (Box.cells [SV.list Ty.str h.ls, I64 h.ba, I64 h.ne, I64 h.wi, I64 h.re, I64 h.se]), some (Box.cells [SV.list Ty.str g.ls, I64 g.ba, I64 g.ne, I64 g.wi, I64 g.re, I64 g.se, I64 w, SV.row 2, SV.row 3]), some (Box.rows Pk n), some (Box.rows Ty.str o)]))))))
 (.leaf (Stop.at (loopOf Try.prog 8 0) 103 (slotsS 103 [(2, SV.list Mv l), (7, SV.ptr 0 0), (9, SV.ptr 1 0), (10, I64 (IntKind.i64.wrap (i + 1))), (11, I64 k)]) [some (Box.cells [SV.list Ty.str h.ls, I64 h.ba, I64 h.ne, I64 h.wi, I64 h.re, I64 h.se]), some (Box.cells [SV.list Ty.str g.ls, I64 g.ba, I64 g.ne, I64 g.wi, I64 g.re, I64 g.se, I64 w, SV.row 2, SV.row 3]), some (Box.rows Pk n), some (Box.rows Ty.str o)]))
theorem lo2 (l : List MvT) (h g : Ho) (w : Int) (n : List PkT) (o : List (List UInt8)) (i k : Int) : segR (Env.ofR Try.prog (sumOf [fFew, fSta, fSnd, fAnsH, fRecv, fAga, fAwake]) (wrOf [wDel]) (rdOf [18, 20, 22])) 1000 (fnOf Try.prog 8) .unit (keepS 103 [2,7,9,10,11]) (loopOf Try.prog 8 1) lo2_p (slotsS 103 [(2, .list Mv l), (7, .ptr 0 0), (9, .ptr 1 0), (10, I64 i), (11, I64 k)]) [some (.cells h.cells), some (.cells (wCells g w)), some (.rows Pk n), some (.rows .str o)] = lo2_t l h g w n o i k := by kernel_rfl
end Go.Proofs.Ytibpodgdondakaa
set_option linter.unusedSimpArgs false
set_option linter.unusedVariables false
set_option maxRecDepth 100000
namespace Go.Proofs.Ytibpodgdondakaa
open Go.Sx

structure Wi where
  g : Ho
  w : Int
  n : List PkT
  o : List (List UInt8)

/-- A packet in transit: a frame of a line, an answer that was true, or spoilt and of no use. -/
def Gd (ls : List (List UInt8)) (w : Int) (p : PkT) : Prop :=
  small p.2.1 = true ∧
  (p.2.2 = false → (p.1 = false ∧ ∃ k : Int, 1 ≤ k ∧ k ≤ ls.length ∧ p.2.1 = (frame k (gt ls (k - 1))).1) ∨
    (p.1 = true ∧ ∃ k : Int, (p.2.1 = repl wOk k ∧ 0 ≤ k ∧ k + 1 ≤ w) ∨ (p.2.1 = repl wRe k ∧ 0 ≤ k ∧ k ≤ w))) ∧
  (p.2.2 = true → (p.1 = false → (opn p.2.1).2.2 ≠ 0) ∧ (p.1 = true → aB p.2.1 = false))

structure Inv (ls : List (List UInt8)) (W : Wi) : Prop where
  few : (ls.length : Int) ≤ 20
  sm : smallsB ls = true
  sd : sendsB ls = true
  lsE : W.g.ls = ls
  ok : hostP W.g
  wE : W.w = W.o.length + 1
  oE : W.o = ls.take W.o.length
  ol : W.o.length ≤ ls.length
  ba : W.g.ba ≤ W.w
  nl : (W.n.length : Int) ≤ 30
  gd : ∀ p ∈ W.n, Gd ls W.w p

theorem Inv.valid {ls : List (List UInt8)} {W : Wi} (h : Inv ls W) : validB W.g = true := by
  unfold validB; rw [h.lsE, h.sd, decide_eq_true h.ok]; rfl
theorem Inv.smalls {ls : List (List UInt8)} {W : Wi} (h : Inv ls W) : smallsB W.g.ls = true := by rw [h.lsE]; exact h.sm
theorem Gd.mono {ls : List (List UInt8)} {w w' : Int} {p : PkT} (hw : w ≤ w') (h : Gd ls w p) : Gd ls w' p := by
  obtain ⟨h1, h2, h3⟩ := h
  refine ⟨h1, fun hs => ?_, h3⟩
  rcases h2 hs with h | ⟨hb, k, ⟨e, h0, h4⟩ | ⟨e, h0, h4⟩⟩
  · exact .inl h
  · exact .inr ⟨hb, k, .inl ⟨e, h0, by omega⟩⟩
  · exact .inr ⟨hb, k, .inr ⟨e, h0, by omega⟩⟩

theorem repl_small {v : List UInt8} (hv : v.length ≤ 6) (k : Int) : small (repl v k) = true := by
  have h1 := fmt_len k
  have h2 := fmt_len (xr (v ++ [32] ++ fmt k))
  rw [small_iff]; unfold repl; simp only [List.length_append, List.length_cons, List.length_nil]; omega

theorem repl_read {v : List UInt8} {k : Int} (hv : v = wOk ∨ v = wRe) (h0 : 0 ≤ k) (h1 : k ≤ MC + 1) : aB (repl v k) = true ∧ aW (repl v k) = v ∧ aN (repl v k) = k := by
  obtain ⟨h2, h3, _⟩ := rpl_of hv h0 h1
  simp only [rplB, Bool.and_eq_true, beq_iff_eq] at h2
  exact ⟨h2.1, h2.2, h3⟩

theorem frame_gt {ls : List (List UInt8)} (hs : sendsB ls = true) (hf : (ls.length : Int) ≤ 20) {k : Int} (h0 : 1 ≤ k) (h1 : k ≤ ls.length) : (frame k (gt ls (k - 1))).2 = 0 ∧ opn (frame k (gt ls (k - 1))).1 = (k, gt ls (k - 1), 0) ∧ small (frame k (gt ls (k - 1))).1 = true := by
  have hMC := MC_eq
  obtain ⟨g1, g2⟩ := sends_get hs (i := k - 1) (by omega) (by omega)
  have hfr := frame_of (n := k) h0 (by omega) g1 g2
  exact ⟨hfr, open_frame hfr, frame_small k (by omega)⟩

theorem take_next {ls o : List (List UInt8)} (ho : o = ls.take o.length) (h : o.length < ls.length) : o ++ [gt ls (o.length : Int)] = ls.take (o ++ [gt ls (o.length : Int)]).length := by
  obtain ⟨_, _, g3⟩ := gt_drop (l := ls) (i := (o.length : Int)) (by omega) (by omega)
  simp only [List.length_append, List.length_cons, List.length_nil]
  have e : ((o.length : Int) + 1).toNat = o.length + 1 := by omega
  have e2 : ((o.length : Int)).toNat = o.length := by omega
  rw [e, e2] at g3
  rw [g3, ← ho]

section
variable {ls : List (List UInt8)} {W : Wi}

/-- The host sends. -/
theorem Inv.send (h : Inv ls W) (hs : sndB W.g = true) : Inv ls { W with g := sndV W.g } ∧ ((W.n.length : Int) < 30 → Inv ls { W with g := sndV W.g, n := W.n ++ [(false, (sndT W.g, false))] }) := by
  have hMC := MC_eq
  obtain ⟨y1, y2⟩ := snd_yes hs
  have hp := h.ok
  have hb := h.ba
  have hls := h.lsE
  unfold sndB at hs
  simp only [Bool.and_eq_true, Bool.not_eq_true', beq_eq_false_iff_ne, decide_eq_false_iff_not] at hs
  have k1 : Inv ls { W with g := sndV W.g } := by
    rw [y1]
    refine ⟨h.few, h.sm, h.sd, hls, ?_, h.wE, h.oE, h.ol, hb, h.nl, h.gd⟩
    unfold hostP at hp ⊢
    dsimp only
    have hm : 0 ≤ moreV W.g.se ∧ moreV W.g.se ≤ MC := by unfold moreV; split <;> omega
    omega
  refine ⟨k1, fun hn => ⟨k1.few, k1.sm, k1.sd, k1.lsE, k1.ok, k1.wE, k1.oE, k1.ol, k1.ba, by dsimp only; simp; omega, fun p hp' => ?_⟩⟩
  dsimp only at hp' ⊢
  rcases List.mem_append.1 hp' with hp' | hp'
  · exact h.gd p hp'
  · rw [List.mem_singleton.1 hp', y2, hls]
    unfold hostP at hp
    rw [hls] at hp hs
    obtain ⟨f1, f2, f3⟩ := frame_gt h.sd h.few (k := W.g.ne) (by omega) (by omega)
    exact ⟨f3, fun _ => .inl ⟨rfl, W.g.ne, by omega, by omega, rfl⟩, fun c => by cases c⟩

theorem Inv.less (h : Inv ls W) {n : List PkT} (hn : ∀ p ∈ n, p ∈ W.n) (hl : n.length ≤ W.n.length) : Inv ls { W with n := n } :=
  ⟨h.few, h.sm, h.sd, h.lsE, h.ok, h.wE, h.oE, h.ol, h.ba, by have := h.nl; dsimp only; omega, fun p hp => h.gd p (hn p hp)⟩

theorem er_eq (n : List PkT) (a : Int) : er n a = n.eraseIdx a.toNat := by unfold er; rw [List.nil_append]
theorem er_mem {n : List PkT} {a : Int} : ∀ p ∈ er n a, p ∈ n := by
  intro p hp; rw [er_eq] at hp; exact List.mem_of_mem_eraseIdx hp

/-- A packet is lost. -/
theorem Inv.lose (h : Inv ls W) (a : Int) : Inv ls { W with n := er W.n a } :=
  h.less er_mem (by rw [er_eq]; exact List.length_eraseIdx_le ..)

/-- The answer to a packet, and what the device makes of it. -/
theorem Inv.take (h : Inv ls W) {p : PkT} (hp : p ∈ W.n) : validB (ansV W.g p.1 p.2.1) = true ∧ hostP (ansV W.g p.1 p.2.1) ∧ (ansV W.g p.1 p.2.1).ls = ls ∧ (ansV W.g p.1 p.2.1).ba ≤ (rcv W.w p.1 p.2.1).1 ∧ W.w ≤ (rcv W.w p.1 p.2.1).1 ∧
    ((rcv W.w p.1 p.2.1).2.2.2.2 = false → (rcv W.w p.1 p.2.1).1 = W.w) ∧
    ((rcv W.w p.1 p.2.1).2.2.2.2 = true → (rcv W.w p.1 p.2.1).1 = W.w + 1 ∧ W.o.length < ls.length ∧ (rcv W.w p.1 p.2.1).2.1 = gt ls (W.o.length : Int)) ∧
    ((rcv W.w p.1 p.2.1).2.2.1 = true → Gd ls (rcv W.w p.1 p.2.1).1 (true, ((rcv W.w p.1 p.2.1).2.2.2.1, false))) := by
  have hMC := MC_eq
  have hv := h.valid
  have hw := h.wE
  have hol := h.ol
  have hfew := h.few
  have hba := h.ba
  have hok := h.ok
  have hok' := hok
  unfold hostP at hok'
  have hls := h.lsE
  obtain ⟨b, t, sp⟩ := p
  obtain ⟨hsm, hg, hb⟩ := h.gd _ hp
  dsimp only at hsm hg hb ⊢
  have hw0 : ¬ (W.w < 1 ∨ W.w > MC + 1 ∨ false = true) := by
    intro c
    rcases c with c | c | c
    · omega
    · omega
    · cases c
  cases b with
  | true =>
    -- an answer
    have hr : rcv W.w true t = (W.w, ([], (false, ([], false)))) := by unfold rcv; rw [if_pos (.inr (.inr rfl))]
    rw [hr]
    have key : hostP (ansV W.g true t) ∧ (ansV W.g true t).ba ≤ W.w := by
      cases hsp : sp with
      | true =>
        have := (hb hsp).2 rfl
        rw [ans_no (.inr (.inr this))]
        exact ⟨hok, hba⟩
      | false =>
        rcases hg hsp with ⟨c, _⟩ | ⟨_, k, ⟨e, h0, h1⟩ | ⟨e, h0, h1⟩⟩
        · cases c
        · obtain ⟨r1, r2, r3⟩ := repl_read (v := wOk) (.inl rfl) h0 (by omega)
          rw [← e] at r1 r2 r3
          have hno : ¬ (validB W.g = false ∨ true = false ∨ aB t = false) := by rw [hv, r1]; simp
          unfold ansV
          rw [if_neg hno, if_pos r2, r3]
          split
          · unfold hostP
            dsimp only
            rw [hls] at hok' ⊢
            constructor
            · repeat' split
              all_goals omega
            · split <;> omega
          · exact ⟨hok, hba⟩
        · obtain ⟨r1, r2, r3⟩ := repl_read (v := wRe) (.inr rfl) h0 (by omega)
          rw [← e] at r1 r2 r3
          have hno : ¬ (validB W.g = false ∨ true = false ∨ aB t = false) := by rw [hv, r1]; simp
          have hne : ¬ aW t = wOk := by rw [r2]; decide
          unfold ansV
          rw [if_neg hno, if_neg hne, r3]
          split
          · rename_i hc
            have hm : 0 ≤ moreV W.g.re ∧ moreV W.g.re ≤ MC := by unfold moreV; split <;> omega
            unfold hostP
            dsimp only
            rw [hls] at hok' ⊢
            omega
          · exact ⟨hok, hba⟩
    have hl : (ansV W.g true t).ls = ls := by rw [ans_ls, hls]
    exact ⟨by unfold validB; rw [hl, h.sd, decide_eq_true key.1]; rfl, key.1, hl, key.2, Int.le_refl _, fun _ => rfl, fun c => (by cases c), fun c => (by cases c)⟩
  | false =>
    have ha : ansV W.g false t = W.g := ans_no (.inr (.inl rfl))
    rw [ha]
    have bad : rcv W.w false t = (W.w, ([], (true, (repl wRe W.w, false)))) → validB W.g = true ∧ hostP W.g ∧ W.g.ls = ls ∧ W.g.ba ≤ (rcv W.w false t).1 ∧ W.w ≤ (rcv W.w false t).1 ∧
        ((rcv W.w false t).2.2.2.2 = false → (rcv W.w false t).1 = W.w) ∧
        ((rcv W.w false t).2.2.2.2 = true → (rcv W.w false t).1 = W.w + 1 ∧ W.o.length < ls.length ∧ (rcv W.w false t).2.1 = gt ls (W.o.length : Int)) ∧
        ((rcv W.w false t).2.2.1 = true → Gd ls (rcv W.w false t).1 (true, ((rcv W.w false t).2.2.2.1, false))) := by
      intro e
      rw [e]
      exact ⟨hv, hok, hls, hba, Int.le_refl _, fun _ => rfl, fun c => (by cases c), fun _ => ⟨repl_small (by decide) _, fun _ => .inr ⟨rfl, W.w, .inr ⟨rfl, by omega, Int.le_refl _⟩⟩, fun c => (by cases c)⟩⟩
    cases hsp : sp with
    | true =>
      have := (hb hsp).1 rfl
      exact bad (by unfold rcv; rw [if_neg hw0, if_pos (.inl this)])
    | false =>
      rcases hg hsp with ⟨_, k, h0, h1, e⟩ | ⟨c, _⟩
      · obtain ⟨f1, f2, f3⟩ := frame_gt h.sd h.few h0 h1
        rw [← e] at f2
        by_cases hk : k > W.w
        · exact bad (by unfold rcv; rw [if_neg hw0, f2, if_pos (.inr hk)])
        · have hno : ¬ ((0 : Int) ≠ 0 ∨ k > W.w) := by omega
          by_cases hk2 : k < W.w
          · have hr : rcv W.w false t = (W.w, ([], (true, (repl wOk (W.w - 1), false)))) := by
              unfold rcv; rw [if_neg hw0, f2]; dsimp only; rw [if_neg hno, if_pos hk2, wrap64 (by omega) (by omega)]
            rw [hr]
            exact ⟨hv, hok, hls, hba, Int.le_refl _, fun _ => rfl, fun c => (by cases c), fun _ => ⟨repl_small (by decide) _, fun _ => .inr ⟨rfl, W.w - 1, .inl ⟨rfl, by omega, by omega⟩⟩, fun c => (by cases c)⟩⟩
          · have hkw : k = W.w := by omega
            have hr : rcv W.w false t = (W.w + 1, (gt ls (k - 1), (true, (repl wOk k, true)))) := by
              unfold rcv; rw [if_neg hw0, f2]; dsimp only; rw [if_neg hno, if_neg hk2, wrap64 (by omega) (by omega)]
            rw [hr]
            refine ⟨hv, hok, hls, by dsimp only; omega, by dsimp only; omega, fun c => (by cases c), fun _ => ⟨rfl, by omega, ?_⟩, fun _ => ⟨repl_small (by decide) _, fun _ => .inr ⟨rfl, k, .inl ⟨rfl, by omega, by dsimp only; omega⟩⟩, fun c => (by cases c)⟩⟩
            dsimp only
            rw [show k - 1 = (W.o.length : Int) by omega]
      · cases c

theorem pg_mem {n : List PkT} {a : Int} (h0 : 0 ≤ a) (h1 : a < n.length) : pg n a ∈ n := (pg_drop h0 h1).2.1

/-- A packet arrives. -/
theorem Inv.arrive (h : Inv ls W) {a : Int} (h0 : 0 ≤ a) (h1 : a < W.n.length) : Inv ls
    { g := ansV W.g (pg W.n a).1 (pg W.n a).2.1, w := (rcv W.w (pg W.n a).1 (pg W.n a).2.1).1,
      n := if (rcv W.w (pg W.n a).1 (pg W.n a).2.1).2.2.1 = true then er W.n a ++ [((rcv W.w (pg W.n a).1 (pg W.n a).2.1).2.2.1, ((rcv W.w (pg W.n a).1 (pg W.n a).2.1).2.2.2.1, false))] else er W.n a,
      o := if (rcv W.w (pg W.n a).1 (pg W.n a).2.1).2.2.2.2 = true then W.o ++ [(rcv W.w (pg W.n a).1 (pg W.n a).2.1).2.1] else W.o } := by
  obtain ⟨t1, t2, t3, t4, t5, t6, t7, t8⟩ := h.take (pg_mem h0 h1)
  have hel : (er W.n a).length + 1 = W.n.length := by rw [er_eq, List.length_eraseIdx, if_pos (by omega)]; omega
  have hw := h.wE
  refine ⟨h.few, h.sm, h.sd, t3, t2, ?_, ?_, ?_, t4, ?_, ?_⟩ <;> dsimp only
  · split
    · rename_i c; rw [(t7 c).1, hw]; simp
    · rename_i c; rw [t6 (by simpa using c)]; exact hw
  · split
    · rename_i c; rw [(t7 c).2.2]; exact take_next h.oE (t7 c).2.1
    · exact h.oE
  · split
    · rename_i c; have := (t7 c).2.1; simp; omega
    · exact h.ol
  · have := h.nl
    split
    · simp; omega
    · omega
  · intro p hp
    split at hp
    · rename_i c
      rcases List.mem_append.1 hp with hp | hp
      · exact (h.gd p (er_mem p hp)).mono t5
      · rw [List.mem_singleton.1 hp, c]
        exact t8 c
    · exact (h.gd p (er_mem p hp)).mono t5

/-- A packet is doubled. -/
theorem Inv.double (h : Inv ls W) {a : Int} (h0 : 0 ≤ a) (h1 : a < W.n.length) (hn : ((W.n ++ [pg W.n a]).length : Int) < 30) : Inv ls { W with n := W.n ++ [pg W.n a] } := by
  refine ⟨h.few, h.sm, h.sd, h.lsE, h.ok, h.wE, h.oE, h.ol, h.ba, by dsimp only; omega, fun p hp => ?_⟩
  dsimp only at hp
  rcases List.mem_append.1 hp with hp | hp
  · exact h.gd p hp
  · rw [List.mem_singleton.1 hp]; exact h.gd _ (pg_mem h0 h1)

/-- A packet is spoilt. -/
theorem Inv.spoil (h : Inv ls W) {a : Int} (h0 : 0 ≤ a) (h1 : a < W.n.length) (hs : (pg W.n a).2.2 = false) {k : Int} (hk0 : 0 ≤ k) (hk1 : k < (pg W.n a).2.1.length) :
    Inv ls { W with n := W.n.set a.toNat ((pg W.n a).1, (chg (pg W.n a).2.1 k 1, true)) } := by
  have hMC := MC_eq
  have hw := h.wE
  have hol := h.ol
  have hfew := h.few
  refine ⟨h.few, h.sm, h.sd, h.lsE, h.ok, h.wE, h.oE, h.ol, h.ba, by dsimp only; rw [List.length_set]; exact h.nl, fun p hp => ?_⟩
  dsimp only at hp ⊢
  rcases List.mem_or_eq_of_mem_set hp with hp | hp
  · exact h.gd p hp
  · have hc : UInt8.ofNat (1 : Int).toNat ≠ 0 := by decide
    obtain ⟨g1, g2, _⟩ := h.gd _ (pg_mem h0 h1)
    rw [hp]
    refine ⟨chg_small g1, fun c => (by cases c), fun _ => ?_⟩
    dsimp only
    rcases g2 hs with ⟨hb, j, j0, j1, e⟩ | ⟨hb, j, ⟨e, j0, j1⟩ | ⟨e, j0, j1⟩⟩
    · rw [hb]
      refine ⟨fun _ => ?_, fun c => (by cases c)⟩
      obtain ⟨f1, f2, f3⟩ := frame_gt h.sd h.few j0 j1
      rw [e] at hk1 ⊢
      exact open_changed f1 hk0 hk1 hc
    · rw [hb]
      refine ⟨fun c => (by cases c), fun _ => ?_⟩
      rw [e] at hk1 ⊢
      exact answer_changed (.inl rfl) j0 (by omega) hk0 hk1 hc
    · rw [hb]
      refine ⟨fun c => (by cases c), fun _ => ?_⟩
      rw [e] at hk1 ⊢
      exact answer_changed (.inr rfl) j0 (by omega) hk0 hk1 hc

/-- The host starts again. -/
theorem Inv.again (h : Inv ls W) : agaV W.g W.g.ba = ({ W.g with ne := W.g.ba }, 0) ∧ Inv ls { W with g := { W.g with ne := W.g.ba } } := by
  have hp := h.ok
  unfold hostP at hp
  refine ⟨?_, h.few, h.sm, h.sd, h.lsE, ?_, h.wE, h.oE, h.ol, h.ba, h.nl, h.gd⟩
  · unfold agaV
    rw [if_neg (by rw [h.valid]; simp; omega)]
  · unfold hostP; dsimp only; omega
end

/-- The beginning. -/
theorem Inv.start {ls : List (List UInt8)} {win : Int} (hf : (ls.length : Int) ≤ 20) (hs : smallsB ls = true) (h : (staV ls win).2 = 0) : Inv ls ⟨(staV ls win).1, 1, [], []⟩ ∧ (staV ls win).1.ls = ls := by
  have hMC := MC_eq
  unfold staV at h ⊢
  split at h
  · cases h
  · rename_i hc
    split at h
    · cases h
    · rename_i hc2
      rw [if_neg hc, if_neg hc2]
      have hsd : sendsB ls = true := by
        rcases Bool.eq_false_or_eq_true (sendsB ls) with e | e
        · exact e
        · exact absurd (.inl e) hc
      refine ⟨⟨hf, hs, hsd, rfl, ?_, rfl, rfl, Nat.zero_le _, Int.le_refl _, by simp, fun p hp => by cases hp⟩, rfl⟩
      unfold hostP; dsimp only; omega
end Go.Proofs.Ytibpodgdondakaa
set_option linter.unusedSimpArgs false
set_option linter.unusedVariables false
set_option maxRecDepth 100000
namespace Go.Proofs.Ytibpodgdondakaa
open Go.Sx

theorem h_node {α : Type} {L : α → Prop} {b : Bool} {t f : Tree α} (ht : b = true → t.holds L) (hf : b = false → f.holds L) : (Tree.node b t f).holds L := ⟨ht, hf⟩
theorem h_req {α : Type} {L : α → Prop} {b : Bool} {t : Tree α} (hb : b = true) (ht : t.holds L) : (Tree.req b t).holds L := ⟨hb, ht⟩

theorem lkFs : allOk Try.prog [fFew, fSta, fSnd, fAnsH, fRecv, fAga, fAwake] := ⟨o_few, o_sta, o_snd, o_ansH, o_recv, o_aga, o_awake, trivial⟩

noncomputable def chkT (l : List MvT) (h g : Ho) (w : Int) (n : List PkT) (o : List (List UInt8)) (i : Int) : Tree Stop :=
  .node (w != IntKind.i64.wrap ((o.length : Int) + 1))
   (.leaf (Stop.done (SV.bool false)))
   (.node (decide ((o.length : Int) > (h.ls.length : Int)))
    (.leaf (Stop.done (SV.bool false)))
    (.node (decide (g.ba > w))
     (.leaf (Stop.done (SV.bool false)))
     (.leaf (Stop.at (loopOf Try.prog 8 1) 103 (slotsS 103 [(2, SV.list Mv l), (7, SV.ptr 0 0), (9, SV.ptr 1 0), (10, I64 i), (11, I64 0)]) [some (Box.cells h.cells), some (Box.cells (wCells g w)), some (Box.rows Pk n), some (Box.rows Ty.str o)]))))

abbrev Ends1 (items : List Item) (slots : List SV) (boxes : List (Option Box)) : Prop := RunsR Try.prog (fnOf Try.prog 8) (.bool true) items slots boxes
def Outer (l : List MvT) (h : Ho) (W : Wi) (i : Int) : Prop :=
  Ends1 (loopOf Try.prog 8 0) (slotsS 103 [(2, .list Mv l), (7, .ptr 0 0), (9, .ptr 1 0), (10, I64 i)]) [some (.cells h.cells), some (.cells (wCells W.g W.w)), some (.rows Pk W.n), some (.rows .str W.o)]
def Inner (l : List MvT) (h : Ho) (W : Wi) (i k : Int) : Prop :=
  Ends1 (loopOf Try.prog 8 1) (slotsS 103 [(2, .list Mv l), (7, .ptr 0 0), (9, .ptr 1 0), (10, I64 i), (11, I64 k)]) [some (.cells h.cells), some (.cells (wCells W.g W.w)), some (.rows Pk W.n), some (.rows .str W.o)]

theorem no_top (a b c d : SV) : slotsS 103 [(2, a), (7, b), (9, c), (10, d), (11, .top)] = slotsS 103 [(2, a), (7, b), (9, c), (10, d)] := by kernel_rfl
theorem inner_ok {l : List MvT} {h : Ho} {W : Wi} {i : Int} (hi : Inv h.ls W) (h0 : 0 ≤ i ∧ i < 40) (hO : Outer l h W (i + 1)) : ∀ k : Int, (0 ≤ k ∧ k ≤ W.o.length) → Inner l h W i k := by
  refine runsR_of (hKR lkFs) (n := 1000) (hint := .unit) rfl (fun k : Int => 0 ≤ k ∧ k ≤ W.o.length) (fun k => ((W.o.length : Int) - k).toNat) (keepS 103 [2, 7, 9, 10, 11]) (fun _ => loopOf Try.prog 8 1)
    (fun k => slotsS 103 [(2, .list Mv l), (7, .ptr 0 0), (9, .ptr 1 0), (10, I64 i), (11, I64 k)]) (fun _ => [some (.cells h.cells), some (.cells (wCells W.g W.w)), some (.rows Pk W.n), some (.rows .str W.o)]) (fun _ => lo2_p) fun k hk => ?_
  rw [lo2]
  unfold lo2_t
  have hol := hi.ol
  have hoE := hi.oE
  have hfew := hi.few
  simp only [Tree.holds, decide_eq_true_eq, decide_eq_false_iff_not, Bool.and_eq_true, Bool.not_eq_true', Bool.not_eq_false']
  refine ⟨fun c => ⟨⟨hk.1, c⟩, by omega, ⟨hk.1, by omega⟩, fun d => ?_, fun d => ⟨slotsS_len _ _, .inl ?_⟩⟩, fun c => ⟨slotsS_len _ _, .inr ?_⟩⟩
  · have he : (W.o.getD k.toNat [] : List UInt8) = h.ls.getD k.toNat [] := by
      rw [hoE, List.getD_eq_getElem?_getD, List.getD_eq_getElem?_getD, List.getElem?_take, if_pos (by omega)]
    have e2 : (W.o.getD k.toNat Ty.str.dflt == h.ls.getD k.toNat Ty.str.dflt) = true := beq_iff_eq.2 he
    rw [d] at e2; cases e2
  · rw [wrap64 (by omega) (by omega)]
    exact ⟨k + 1, ⟨by omega, by omega⟩, by omega, by trivial, rfl, rfl⟩
  · rw [wrap64 (by omega) (by omega)]
    have e : k = W.o.length := by omega
    refine runsR_weak false [] (slots' := slotsS 103 [(2, .list Mv l), (7, .ptr 0 0), (9, .ptr 1 0), (10, I64 (i + 1)), (11, .top)]) (boxes' := [some (.cells h.cells), some (.cells (wCells W.g W.w)), some (.rows Pk W.n), some (.rows .str W.o)])
      (slotsS_wk ⟨rfl, .same _, rfl, .same _, rfl, .same _, rfl, .same _, rfl, .top _, trivial⟩) ⟨List.not_mem_nil, .same _, List.not_mem_nil, .same _, List.not_mem_nil, .same _, List.not_mem_nil, .same _, rfl⟩ ?_
    rw [no_top]
    exact hO

abbrev Goes1 (o : Stop) : Prop := match o with
  | .done v' => v' = .bool true
  | .at items' size slots' boxes' => slots'.length = size ∧ RunsR Try.prog (fnOf Try.prog 8) (.bool true) items' slots' boxes'

theorem chk_ok {l : List MvT} {h : Ho} {W : Wi} {i : Int} {g : Ho} {w : Int} {n : List PkT} {o : List (List UInt8)} (hi : Inv h.ls W) (hg : g = W.g) (hw : w = W.w) (hn : n = W.n) (ho : o = W.o) (hI : Inner l h W i 0) : (chkT l h g w n o i).holds Goes1 := by
  subst hg hw hn ho
  have hw := hi.wE
  have hol := hi.ol
  have hfew := hi.few
  have hb := hi.ba
  refine h_node (fun c => ?_) fun _ => h_node (fun c => ?_) fun _ => h_node (fun c => ?_) fun _ => ⟨slotsS_len _ _, hI⟩
  · rw [wrap64 (by omega) (by omega), hw] at c
    simp at c
  · have := of_decide_eq_true c; omega
  · have := of_decide_eq_true c; omega

theorem outer_ok (l : List MvT) (h : Ho) : ∀ (m : Nat) (i : Int) (W : Wi), 0 ≤ i → i ≤ 40 → (40 - i).toNat ≤ m → Inv h.ls W → Outer l h W i := by
  intro m
  induction m with
  | zero =>
    intro i W h0 h1 hm hi
    refine runsR_seg (hKR lkFs) (n := 1000) (hint := .unit) (keep := keepS 103 [2, 7, 9, 10, 11]) (p := lo1_p) rfl ?_
    rw [lo1]
    unfold lo1_t
    refine h_node (fun c1 => h_node (fun c2 => ?_) fun _ => rfl) fun _ => rfl
    have := of_decide_eq_true c2; omega
  | succ m ih =>
    intro i W h0 h1 hm hi
    refine runsR_seg (hKR lkFs) (n := 1000) (hint := .unit) (keep := keepS 103 [2, 7, 9, 10, 11]) (p := lo1_p) rfl ?_
    rw [lo1]
    unfold lo1_t
    refine h_node (fun c1 => h_node (fun c2 => ?_) fun _ => rfl) fun _ => rfl
    have c1 := of_decide_eq_true c1
    have c2 := of_decide_eq_true c2
    refine h_req (by simp; omega) ?_
    have hsm := hi.smalls
    -- on from a state that keeps the law
    have onn : ∀ (W' : Wi) {g : Ho} {w : Int} {n : List PkT} {o : List (List UInt8)}, Inv h.ls W' → g = W'.g → w = W'.w → n = W'.n → o = W'.o → (chkT l h g w n o i).holds Goes1 := fun W' _ _ _ _ hi' hg hw hn ho =>
      chk_ok hi' hg hw hn ho (inner_ok hi' ⟨h0, c2⟩ (ih (i + 1) W' (by omega) (by omega) (by omega) hi') 0 ⟨Int.le_refl 0, by omega⟩)
    have stay : (chkT l h W.g W.w W.n W.o i).holds Goes1 := onn W hi rfl rfl rfl rfl
    have hnl := hi.nl
    have hol := hi.ol
    have hfew := hi.few
    refine h_node (fun k => ?_) fun k0 => h_node (fun k => ?_) fun k1 => h_node (fun k => ?_) fun k2 => h_node (fun k => ?_) fun k3 => h_node (fun k => ?_) fun k4 => ?_
    · -- send
      refine h_req hsm (h_node (fun s => ?_) fun s => ?_)
      · obtain ⟨s1, s2⟩ := hi.send s
        refine h_node (fun c => h_req (by simp; omega) ?_) fun c => ?_
        · exact onn _ (s2 (of_decide_eq_true c)) rfl rfl rfl rfl
        · exact onn _ s1 rfl rfl rfl rfl
      · exact onn _ hi (snd_no s).1 rfl rfl rfl
    · -- arrive
      refine h_node (fun a0 => h_node (fun a1 => ?_) fun a1 => ?_) fun a0 => ?_
      · exact stay
      · have a0 := of_decide_eq_true a0
        have a1 : (mg l i).2.1 < (W.n.length : Int) := by simpa using a1
        have hne : W.n ≠ [] := fun e => by rw [e] at a1; simp at a1; omega
        have hA := hi.arrive a0 a1
        have hsp := (hi.gd _ (pg_mem a0 a1)).1
        have hel : (er W.n (mg l i).2.1).length + 1 = W.n.length := by rw [er_eq, List.length_eraseIdx, if_pos (by omega)]; omega
        refine h_req (by simp; omega) (h_req (by simpa using hne) (h_node (fun c => by simp at c; exact absurd c hne) fun _ => h_req (by simp; omega) (h_req ?_ (h_req ?_ (h_req hsp ?_)))))
        · rw [wrap64 (by omega) (by omega)]; simp; omega
        · rw [hsm, hsp]; rfl
        refine h_node (fun r => h_req (by simp; omega) (h_node (fun b => h_req (by simp; omega) ?_) fun b => ?_)) fun r => h_node (fun b => h_req (by simp; omega) ?_) fun b => ?_
        · exact onn _ hA rfl rfl (by dsimp only; rw [if_pos b]) (by dsimp only; rw [if_pos r])
        · exact onn _ hA rfl rfl (by dsimp only; rw [if_neg (by rw [b]; simp)]) (by dsimp only; rw [if_pos r])
        · exact onn _ hA rfl rfl (by dsimp only; rw [if_pos b]) (by dsimp only; rw [if_neg (by rw [r]; simp)])
        · exact onn _ hA rfl rfl (by dsimp only; rw [if_neg (by rw [b]; simp)]) (by dsimp only; rw [if_neg (by rw [r]; simp)])
      · exact stay
    · -- lost
      refine h_node (fun a0 => h_node (fun a1 => ?_) fun a1 => ?_) fun a0 => ?_
      · exact stay
      · have a0 := of_decide_eq_true a0
        have a1 : (mg l i).2.1 < (W.n.length : Int) := by simpa using a1
        have hne : W.n ≠ [] := fun e => by rw [e] at a1; simp at a1; omega
        refine h_req (by simp; omega) (h_req (by simpa using hne) (h_node (fun c => by simp at c; exact absurd c hne) fun _ => h_req (by simp; omega) (h_req ?_ ?_)))
        · rw [wrap64 (by omega) (by omega)]; simp; omega
        · exact onn _ (hi.lose _) rfl rfl rfl rfl
      · exact stay
    · -- doubled
      refine h_node (fun a0 => h_node (fun a1 => ?_) fun a1 => ?_) fun a0 => ?_
      · exact stay
      · have a0 := of_decide_eq_true a0
        have a1 : (mg l i).2.1 < (W.n.length : Int) := by simpa using a1
        have hne : W.n ≠ [] := fun e => by rw [e] at a1; simp at a1; omega
        refine h_node (fun _ => stay) fun _ => h_req (by simpa using hne) (h_node (fun c => by simp at c; exact absurd c hne) fun _ => h_req (by simp; omega) (h_req (by simp; omega) (h_req (by simp; omega) (h_node (fun c => ?_) fun _ => stay))))
        have c : ((W.n ++ [pg W.n (mg l i).2.1]).length : Int) < 30 := of_decide_eq_true c
        exact onn _ (hi.double a0 a1 c) rfl rfl rfl rfl
      · exact stay
    · -- spoilt
      refine h_node (fun a0 => h_node (fun a1 => ?_) fun a1 => ?_) fun a0 => ?_
      · exact stay
      · have a0 := of_decide_eq_true a0
        have a1 : (mg l i).2.1 < (W.n.length : Int) := by simpa using a1
        have hne : W.n ≠ [] := fun e => by rw [e] at a1; simp at a1; omega
        refine h_req (by simp; omega) (h_node (fun _ => stay) fun sp => h_req (by simp; omega) (h_node (fun _ => stay) fun tx => ?_))
        have tx : (pg W.n (mg l i).2.1).2.1 ≠ [] := by simpa using tx
        have hL : 0 < ((pg W.n (mg l i).2.1).2.1.length : Int) := by
          have : (pg W.n (mg l i).2.1).2.1.length ≠ 0 := fun c => tx (List.eq_nil_of_length_eq_zero c)
          omega
        have hs' := small_iff.1 (hi.gd _ (pg_mem a0 a1)).1
        obtain ⟨t1, t2, t3, _⟩ := tmod_plus (n := (mg l i).2.2) hL
        have ew : IntKind.i64.wrap ((mg l i).2.2.tmod ((pg W.n (mg l i).2.1).2.1.length : Int) + ((pg W.n (mg l i).2.1).2.1.length : Int)) = (mg l i).2.2.tmod ((pg W.n (mg l i).2.1).2.1.length : Int) + ((pg W.n (mg l i).2.1).2.1.length : Int) := wrap64 (by omega) (by omega)
        have hk : ((mg l i).2.2 % ((pg W.n (mg l i).2.1).2.1.length : Int)).toNat < (pg W.n (mg l i).2.1).2.1.length := by omega
        simp only [tn_len, ew, tmod_twice hL]
        have hat : (mg l i).2.1.toNat < W.n.length := by omega
        refine h_req (by simpa using hne) (h_node (fun c => by simp at c; exact absurd c hne) fun _ => ?_)
        iterate 12 refine h_req (by simp; omega) ?_
        show Tree.holds Goes1 (chkT l h W.g W.w _ W.o i)
        refine onn _ (hi.spoil a0 a1 sp t2 (by omega)) rfl rfl ?_ rfl
        simp only [un_set _ _ hk, chg_eq, List.nil_append]
        have gx : ∀ x d : PkT, (W.n.set (mg l i).2.1.toNat x).getD (mg l i).2.1.toNat d = x := fun x d => by
          rw [List.getD_eq_getElem?_getD, List.getElem?_set_self hat]; rfl
        have fin : ∀ x d : PkT, (W.n.set (mg l i).2.1.toNat x).set (mg l i).2.1.toNat (((W.n.set (mg l i).2.1.toNat x).getD (mg l i).2.1.toNat d).1, (((W.n.set (mg l i).2.1.toNat x).getD (mg l i).2.1.toNat d).2.1, true)) = W.n.set (mg l i).2.1.toNat (x.1, (x.2.1, true)) := fun x d => by
          rw [gx, List.set_set]
        exact fin _ _
      · exact stay
    · -- again
      obtain ⟨e, hA⟩ := hi.again
      refine h_req hsm (h_node (fun _ => ?_) fun c => ?_)
      · exact onn _ hA (by rw [e]) rfl rfl rfl
      · rw [e] at c; cases c

theorem s_law8 (ls : List (List UInt8)) (win : Int) (l : List MvT) : SCall Try.prog 8 [.list .str ls, I64 win, .list Mv l] (.bool true) := by
  refine scallR_loops rfl rfl (by kernel_rfl) (runsR_seg (hKR lkFs) (n := 1000) (hint := .unit) (keep := keepS 103 [2, 7, 9, 10, 11]) (p := lo0_p) (boxes := []) rfl ?_)
  have e := lo0 ls win l
  unfold startS codeS at e
  erw [e]
  unfold lo0_t
  have hs : smallsB (fewL ls) = true := fewL_smalls ls
  have hf : ((fewL ls).length : Int) ≤ 20 := by unfold fewL; rw [List.length_map, List.length_take]; omega
  refine h_req hs (h_node (fun _ => rfl) fun c => ⟨slotsS_len _ _, ?_⟩)
  have c : (staV (fewL ls) win).2 = 0 := by simpa using c
  obtain ⟨hi, hl⟩ := Inv.start hf hs c
  -- nil slices are rows without room
  refine runsR_weak true [] (slots' := slotsS 103 [(2, .list Mv l), (7, .ptr 0 0), (9, .ptr 1 0), (10, I64 0), (11, .top)])
    (boxes' := [some (.cells (staV (fewL ls) win).1.cells), some (.cells [.list .str (staV (fewL ls) win).1.ls, I64 (staV (fewL ls) win).1.ba, I64 (staV (fewL ls) win).1.ne, I64 (staV (fewL ls) win).1.wi, I64 (staV (fewL ls) win).1.re, I64 (staV (fewL ls) win).1.se, I64 1, .row 2, .nilS]), some (.rows Pk [])])
    (slotsS_wk ⟨rfl, .same _, rfl, .same _, rfl, .same _, rfl, .same _, rfl, .top _, trivial⟩)
    ⟨List.not_mem_nil, .same _, List.not_mem_nil, .cells ⟨.same _, .same _, .same _, .same _, .same _, .same _, .same _, .nil rfl, .same _, trivial⟩, trivial⟩ ?_
  refine runsR_weak true [] (slots' := slotsS 103 [(2, .list Mv l), (7, .ptr 0 0), (9, .ptr 1 0), (10, I64 0), (11, .top)])
    (boxes' := [some (.cells (staV (fewL ls) win).1.cells), some (.cells (wCells (staV (fewL ls) win).1 1)), some (.rows Pk []), some (.rows .str [])])
    (slotsS_wk ⟨rfl, .same _, rfl, .same _, rfl, .same _, rfl, .same _, rfl, .same _, trivial⟩)
    ⟨List.not_mem_nil, .same _, List.not_mem_nil, .cells ⟨.same _, .same _, .same _, .same _, .same _, .same _, .same _, .same _, .nil rfl, trivial⟩, List.not_mem_nil, .same _, trivial⟩ ?_
  rw [no_top]
  exact outer_ok l (staV (fewL ls) win).1 40 0 ⟨(staV (fewL ls) win).1, 1, [], []⟩ (Int.le_refl 0) (by decide) (by decide) (by rw [hl]; exact hi)
end Go.Proofs.Ytibpodgdondakaa
namespace Go.Proofs.Ytibpodgdondakaa
open Go.ChangeShapes Go.WideShapes Go.ChangeAt Go.RowKit
open Go.Sx
set_option linter.unusedVariables false
set_option maxRecDepth 100000

theorem linkOnce_own : ownKnob Try.prog.godebug = none := by kernel_rfl
theorem linkOnce_laid : laidOutB Try.prog = true := by kernel_rfl

theorem linkOnce_lifted (os : Os) (started : os.Started) (H : Type) (enc : TypeId × Value → H) :
    ReturnsInHanded {} Try.checked os 8 .any (Rows.linkOnceSpec.pre6 enc Try.prog Try.f8 Rows.linkOnceRow.domain false) (Rows.linkOnceSpec.post enc Try.prog Try.f8 false true false false) := by
  refine returnsInHanded_of_change (C := Try.checked) linkOnce_own started (by kernel_rfl) Try.func8
    (ChangeSpec.witness6 (enc := enc) (C := Try.checked) false ⟨#[], #[.slice none 0 0, .int .i64 0, .slice none 0 0], []⟩ 8 (by kernel_rfl) (by kernel_rfl) (by kernel_rfl) (by kernel_rfl)) ?_
  intro W base args ds gs before hval0 hW hcnd _
  have hval : ∀ (j : Nat) t v, Try.f8.params[j]? = some t → args[j]? = some v → Value.okWide Try.prog W .any base t v := hval0
  have hW' := hW
  obtain ⟨p, q, hA0, hV, rfl, hfz, hnd⟩ := hW
  have hA : DataW.TrodAll enc Try.prog W 0 (fun _ => true) true Try.f8.params.toList args.toList ds p := hA0
  rw [Try.params8] at hA hval
  obtain ⟨v0, vs0, d0, ds0, p0, q0, hargs, rfl, rfl, h0, r0⟩ := trodAll_cons hA
  obtain ⟨v1, vs1, d1, ds1, p1, q1, rfl, rfl, rfl, h1, r1⟩ := trodAll_cons r0
  obtain ⟨v2, vs2, d2, ds2, p2, q2, rfl, rfl, rfl, h2, r2⟩ := trodAll_cons r1
  obtain ⟨rfl, rfl, rfl⟩ := trodAll_nil r2
  obtain rfl : args = #[v0, v1, v2] := by cases args; simp_all
  obtain ⟨rfl, rfl⟩ := trodVars_none hV
  have lt0 : ∀ x ∈ p0, x.block < W.heap.size := by obtain ⟨m, hm⟩ := h0; exact DataW.trod_lt m _ _ _ hm
  obtain ⟨y0, w0, s0⟩ := argOf_list (d := 20) (u := .str) (by kernel_rfl) Try.underlying45 (hval 0 45 v0 rfl rfl) h0
  have lt1 : ∀ x ∈ p1, x.block < W.heap.size := by obtain ⟨m, hm⟩ := h1; exact DataW.trod_lt m _ _ _ hm
  obtain ⟨y1, w1, s1⟩ := argOf_int (d := 1) (by kernel_rfl) Try.underlying3 (hval 1 3 v1 rfl rfl) h1
  have lt2 : ∀ x ∈ p2, x.block < W.heap.size := by obtain ⟨m, hm⟩ := h2; exact DataW.trod_lt m _ _ _ hm
  obtain ⟨y2, w2, s2⟩ := argOf_list (d := 20) (u := .pair (.int .i64) (.pair (.int .i64) (.int .i64))) (by kernel_rfl) Try.underlying59 (hval 2 59 v2 rfl rfl) h2
  clear hA0 hval0
  refine (SCall.calls_some (s_law8 y0 y1 y2) rfl Try.func8 (by kernel_rfl) (by kernel_rfl) W [v0, v1, v2] (⟨_, _, rfl, s0, ⟨_, _, rfl, s1, ⟨_, _, rfl, s2, rfl⟩⟩⟩)).mono fun e W' he => ?_
  obtain ⟨u, rfl, bel, rfl⟩ := he
  exact ⟨_, rfl, _, _, _, [], _, [], hW', trodAll_mk1 (shut_bool Try.underlying4 _), (trodAll_cons_mk (Below.trod linkOnce_laid (by kernel_rfl) (of_decide_eq_true (by kernel_rfl)) h0 bel lt0) (trodAll_cons_mk (Below.trod linkOnce_laid (by kernel_rfl) (of_decide_eq_true (by kernel_rfl)) h1 bel lt1) (trodAll_cons_mk (Below.trod linkOnce_laid (by kernel_rfl) (of_decide_eq_true (by kernel_rfl)) h2 bel lt2) trodAll_mk0))), rfl, bel.frame _, fun h => by cases h⟩

theorem linkOnce_over : Rows.linkOnceRow.holds Try.pinned (OpenSpec.ofChange Rows.linkOnceSpec) :=
  OpenClaim.holds_of_wide 8 Try.f8 rfl rfl rfl rfl rfl rfl rfl ⟨rfl, rfl, rfl, rfl, rfl⟩ rfl rfl rfl rfl rfl (by kernel_rfl) Try.func8 (by kernel_rfl)
    (of_decide_eq_true (by kernel_rfl)) (by unfold Func.isWrapper; first | (rw [if_pos (by decide +kernel)]; kernel_rfl) | (rw [if_neg (by decide +kernel)]; exact ⟨rfl, rfl⟩))
    (fun os started H enc _ => linkOnce_lifted os started H enc)

theorem linkOnce_proved : Rows.LinkOnceSaid := linkOnce_over
end Go.Proofs.Ytibpodgdondakaa
