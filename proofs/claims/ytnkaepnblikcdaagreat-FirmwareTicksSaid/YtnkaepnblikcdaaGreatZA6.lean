/-
  What the statement needs: an evaluator of the model, contracts of the functions that it reaches, and the plain law.
-/
import Derived.Test.YtnkaepnblikcdaaGreatZA5
import Derived.Test.YtnkaepnblikcdaaGreatZA4
set_option maxRecDepth 100000
set_option linter.unusedVariables false
set_option linter.unusedSimpArgs false
open Go.IntKind (i64 u64)
namespace Go.Proofs.YtnkaepnblikcdaaGreat
open Go.Sx
def ad0_p:Plan:=.all
noncomputable def ad0_t(f:Fw)(c:V4)(len line:Int):Tree StopX:= .req (ok63 len&&ok63 f.feed) (.req (few2 f.queue.length) (.req (decide ((f.queue.length+ [(c,accV f.ma c,0,i64.wrap (spdV f.ma c len f.feed*spdV f.ma c len f.feed),0)].length)*64≤140737488355328)) (.req (decide (0≤(↑(f.queue++[(c,accV f.ma c,0,i64.wrap (spdV f.ma c len f.feed*spdV f.ma c len f.feed),0)]).length:Int))&& (↑(f.queue++[(c,accV f.ma c,0,i64.wrap (spdV f.ma c len f.feed*spdV f.ma c len f.feed),0)]).length:Int)==(↑(f.queue++[(c,accV f.ma c,0,i64.wrap (spdV f.ma c len f.feed*spdV f.ma c len f.feed),0)]).length:Int)&&decide (8*(↑(f.queue++[(c,accV f.ma c,0,i64.wrap (spdV f.ma c len f.feed*spdV f.ma c len f.feed),0)]).length:Int)≤140737488355328)&&decide ((↑(f.queue++[(c,accV f.ma c,0,i64.wrap (spdV f.ma c len f.feed*spdV f.ma c len f.feed),0)]).length:Int)≤(9223372036854775807:Int))) (.leaf (.at (loopOf Tryz.prog 215 0) 137 (slotsS 137 [(0,.ptr 0 0),(3,.int .i64 line),(10,SV.row 1),(11,SV.row 2),(12,.int .i64 1)]) [some (.cells (Fw.cells f)),some (.rows tyBk (f.queue++[(c,accV f.ma c,0,i64.wrap (spdV f.ma c len f.feed*spdV f.ma c len f.feed),0)])),some (.rows (Ty.int IntKind.i64) (List.replicate (↑(f.queue++[(c,accV f.ma c,0,i64.wrap (spdV f.ma c len f.feed*spdV f.ma c len f.feed),0)]).length:Int).toNat (0:Int)))])))))
theorem ad0(f:Fw)(c:V4)(len line:Int):segX (Env.ofC (Env.ofB Tryz.prog (sumOf [fSpd,fAcc,fJun]) (wrOf [fPla.frz]) (pnOf []) (bxOf []) (rdOf []) (rdOf []) (rdOf []) (rdOf [])) (owOf [oCloB,oCloI])) 1000 (fnOf Tryz.prog 215) 1 (keepS 137 [0,3,10,11,12]) (codeS Tryz.prog 215) ad0_p (startS Tryz.prog 215 [.ptr 0 0,V4.sv c,I64 len,I64 line]) [some (.cells f.cells)] =ad0_t f c len line:=by kernel_rfl
def ad1_p:Plan:=.fork (.all) (.fork (.fork (.fork (.lit (.all)) (.lit (.all))) (.lit (.all))) (.fork (.fork (.fork (.lit (.all)) (.lit (.all))) (.lit (.all))) (.fork (.fork (.lit (.all)) (.lit (.all))) (.lit (.all)))))
noncomputable def ad1_t(f:Fw)(line:Int)(q:List Bk)(s:List Int)(i:Int):Tree StopX:=let y0:Tree StopX:=.leaf (.fin (.ret (.int .i64 2) [some (.cells (Fw.cells f))]));let y1:=decide ((f.lines.length+ [line].length)*8≤140737488355328);let y2:=f.queue.getD 0 dBk; .node (decide (i< (↑q.length:Int))) (.req (decide (0≤i64.wrap (i-1))&&decide (i64.wrap (i-1)< (↑q.length:Int))) (.req (decide ((i64.wrap (i-1)).toNat<q.length)) (.req (decide (0≤i)&&decide (i< (↑q.length:Int))) (.req (decide (i.toNat<q.length)) (.req (decide (0≤i)&&decide (i< (↑s.length:Int))) (.req (decide (i.toNat<s.length)) (.leaf (.at (loopOf Tryz.prog 215 0) 137 (slotsS 137 [(0,.ptr 0 0),(3,.int .i64 line),(10,SV.row 1),(11,SV.row 2),(12,.int .i64 (i64.wrap (i+1)))]) [some (.cells (Fw.cells f)),some (.rows tyBk q),some (.rows (Ty.int IntKind.i64) (s.set i.toNat (i64.wrap (junV f.ma (q.getD (i64.wrap (i-1)).toNat dBk).1 (q.getD i.toNat dBk).1*junV f.ma (q.getD (i64.wrap (i-1)).toNat dBk).1 (q.getD i.toNat dBk).1))))])))))))) (.node (f.moving) (.req (okPl q s f.mo.1.2.2.2.2) (.node (decide (f.mo.1.2.2.2.2≤crL q 0)) (.node (decide (gL q s f.mo.1.2.2.2.2 0=f.mo.1.2.2.2.2)) (.req (few2 f.lines.length) (.req y1 (.leaf (.fin (.ret (.int .i64 0) [some (.cells (Fw.cells {f with queue:=(plB q (gL q s f.mo.1.2.2.2.2)),lines:=(f.lines++[line])}))]))))) y0) y0)) (.node (decide ((↑f.queue.length:Int)>0)) (.req (decide (0< (↑f.queue.length:Int))) (.req (okPl q s y2.2.2.1) (.node (decide (y2.2.2.1≤crL q 0)) (.node (decide (gL q s y2.2.2.1 0=y2.2.2.1)) (.req (few2 f.lines.length) (.req y1 (.leaf (.fin (.ret (.int .i64 0) [some (.cells (Fw.cells {f with queue:=(plB q (gL q s y2.2.2.1)),lines:=(f.lines++[line])}))]))))) y0) y0))) (.req (okPl q s 0) (.node (decide (0≤crL q 0)) (.node (decide (gL q s 0 0=0)) (.req (few2 f.lines.length) (.req y1 (.leaf (.fin (.ret (.int .i64 0) [some (.cells (Fw.cells {f with queue:=(plB q (gL q s 0)),lines:=(f.lines++[line])}))]))))) y0) y0))))
theorem ad1(f:Fw)(line:Int)(q:List Bk)(s:List Int)(i:Int):segX (Env.ofC (Env.ofB Tryz.prog (sumOf [fSpd,fAcc,fJun]) (wrOf [fPla.frz]) (pnOf []) (bxOf []) (rdOf []) (rdOf []) (rdOf []) (rdOf [])) (owOf [oCloB,oCloI])) 1000 (fnOf Tryz.prog 215) 1 (keepS 137 [0,3,10,11,12]) (loopOf Tryz.prog 215 0) ad1_p (slotsS 137 [(0,.ptr 0 0),(3,I64 line),(10,.row 1),(11,.row 2),(12,I64 i)]) [some (.cells f.cells),some (.rows tyBk q),some (.rows (.int .i64) s)] =ad1_t f line q s i:=by kernel_rfl
def cp0_p:Plan:=.all
noncomputable def cp0_t(f:Fw):Tree Stop:= .leaf (.at (loopOf Tryz.prog 200 0) 38 (slotsS 38 [(1,.ptr 0 0),(3,SV.nilS),(4,.int .i64 0)]) [some (.cells (Fw.cells f))])
theorem cp0(f:Fw):segR (Env.of Tryz.prog (sumOf [fJunR])) 1000 (fnOf Tryz.prog 200) (.int .i64) (keepS 38 [1,3,4]) (codeS Tryz.prog 200) cp0_p (startS Tryz.prog 200 [f.sv]) [] =cp0_t f:=by kernel_rfl
def cp1a_p:Plan:=.fork (.fork (.all) (.all)) (.all)
noncomputable def cp1a_t(f:Fw)(i:Int):Tree Stop:= .node (decide (i< (↑f.queue.length:Int))) (.node (decide (i>0)) (.req (decide (0≤i64.wrap (i-1))&&decide (i64.wrap (i-1)< (↑f.queue.length:Int))) (.req (decide (0≤i)&&decide (i< (↑f.queue.length:Int))) (.req (decide ([i64.wrap (junV f.ma (f.queue.getD (i64.wrap (i-1)).toNat dBk).1 (f.queue.getD i.toNat dBk).1*junV f.ma (f.queue.getD (i64.wrap (i-1)).toNat dBk).1 (f.queue.getD i.toNat dBk).1)].length*8≤140737488355328)) (.leaf (.at (loopOf Tryz.prog 200 0) 38 (slotsS 38 [(1,.ptr 0 0),(3,SV.row 1),(4,.int .i64 (i64.wrap (i+1)))]) [some (.cells (Fw.cells f)),some (.rows (Ty.int IntKind.i64) [i64.wrap (junV f.ma (f.queue.getD (i64.wrap (i-1)).toNat dBk).1 (f.queue.getD i.toNat dBk).1*junV f.ma (f.queue.getD (i64.wrap (i-1)).toNat dBk).1 (f.queue.getD i.toNat dBk).1)])]))))) (.req true (.leaf (.at (loopOf Tryz.prog 200 0) 38 (slotsS 38 [(1,.ptr 0 0),(3,SV.row 1),(4,.int .i64 (i64.wrap (i+1)))]) [some (.cells (Fw.cells f)),some (.rows (Ty.int IntKind.i64) [(0:Int)])])))) (.leaf (.done (.list (Ty.int IntKind.i64) [])))
theorem cp1a(f:Fw)(i:Int):segR (Env.of Tryz.prog (sumOf [fJunR])) 1000 (fnOf Tryz.prog 200) (.int .i64) (keepS 38 [1,3,4]) (loopOf Tryz.prog 200 0) cp1a_p (slotsS 38 [(1,.ptr 0 0),(3,.nilS),(4,I64 i)]) [some (.cells f.cells)] =cp1a_t f i:=by kernel_rfl
def cp1_p:Plan:=.fork (.fork (.all) (.all)) (.all)
noncomputable def cp1_t(f:Fw)(s:List Int)(i:Int):Tree Stop:= .node (decide (i< (↑f.queue.length:Int))) (.node (decide (i>0)) (.req (decide (0≤i64.wrap (i-1))&&decide (i64.wrap (i-1)< (↑f.queue.length:Int))) (.req (decide (0≤i)&&decide (i< (↑f.queue.length:Int))) (.req (decide ((s.length+ [i64.wrap (junV f.ma (f.queue.getD (i64.wrap (i-1)).toNat dBk).1 (f.queue.getD i.toNat dBk).1*junV f.ma (f.queue.getD (i64.wrap (i-1)).toNat dBk).1 (f.queue.getD i.toNat dBk).1)].length)*8≤140737488355328)) (.leaf (.at (loopOf Tryz.prog 200 0) 38 (slotsS 38 [(1,.ptr 0 0),(3,SV.row 1),(4,.int .i64 (i64.wrap (i+1)))]) [some (.cells (Fw.cells f)),some (.rows (Ty.int IntKind.i64) (s++[i64.wrap (junV f.ma (f.queue.getD (i64.wrap (i-1)).toNat dBk).1 (f.queue.getD i.toNat dBk).1*junV f.ma (f.queue.getD (i64.wrap (i-1)).toNat dBk).1 (f.queue.getD i.toNat dBk).1)]))]))))) (.req (decide ((s.length+1)*8≤140737488355328)) (.leaf (.at (loopOf Tryz.prog 200 0) 38 (slotsS 38 [(1,.ptr 0 0),(3,SV.row 1),(4,.int .i64 (i64.wrap (i+1)))]) [some (.cells (Fw.cells f)),some (.rows (Ty.int IntKind.i64) (s++[(0:Int)]))])))) (.leaf (.done (.list (Ty.int IntKind.i64) s)))
theorem cp1(f:Fw)(s:List Int)(i:Int):segR (Env.of Tryz.prog (sumOf [fJunR])) 1000 (fnOf Tryz.prog 200) (.int .i64) (keepS 38 [1,3,4]) (loopOf Tryz.prog 200 0) cp1_p (slotsS 38 [(1,.ptr 0 0),(3,.row 1),(4,I64 i)]) [some (.cells f.cells),some (.rows (.int .i64) s)] =cp1_t f s i:=by kernel_rfl
def addPre(f:Fw)(c:V4)(len:Int):Bool:=okL f.ma c&& (ok63 len&& (ok63 f.feed&& (f.queue.all soundB&& (lensB f&& (decide (f.queue.length≤1000)&&inR (entryV f) 0 1099511627776)))))
theorem addPre_iff{f:Fw}{c:V4}{len:Int}:addPre f c len=true↔okL f.ma c=true∧ok63 len=true∧ok63 f.feed=true∧(∀b∈f.queue,soundB b=true)∧f.lines.length=f.queue.length∧f.queue.length≤1000∧0≤entryV f∧entryV f≤1099511627776:=by
 simp only[addPre,Bool.and_eq_true,List.all_eq_true,lensB_iff,decide_eq_true_eq,inR_iff]
theorem ok63_iff{x:Int}:ok63 x=true↔-9223372036854775808≤x∧x≤9223372036854775807:=inR_iff
theorem capJ_rng(m:Ma)(q:List Bk)(i:Nat):0≤capJ m q i∧capJ m q i≤1099511627776:=by
 unfold capJ
 split
 ·omega
 ·have:=sq_rng (junV_rng m (q.getD (i-1) dBk).1 (q.getD i dBk).1);omega
theorem capsV_len(m:Ma)(q:List Bk):(capsV m q).length=q.length:=by simp[capsV]
theorem addQ_len(f:Fw)(c:V4)(len:Int):(addQ f c len).length=f.queue.length+1:=by simp[addQ]
theorem newB_sound{f:Fw}{c:V4}{len:Int}(h:addPre f c len=true):soundB (newB f.ma c len f.feed)=true:=by
 obtain⟨h1,h2,h3,_⟩:=addPre_iff.1 h
 have a:=accV_rng h1
 have s:=spdV_rng h1 (l:=len) (f:=f.feed) (ok63_iff.1 h2).2 (ok63_iff.1 h3).2
 have q:=sq_pos (v:=spdV f.ma c len f.feed) (M:=1048576) (by omega)
 exact soundB_iff.2 ⟨(okL_iff.1 h1).2,a,by show 1≤spdV f.ma c len f.feed*spdV f.ma c len f.feed;omega,by show spdV f.ma c len f.feed*spdV f.ma c len f.feed≤1099511627776;omega⟩
theorem add_plOk{f:Fw}{c:V4}{len:Int}(h:addPre f c len=true):PlOk (addQ f c len) (capsV f.ma (addQ f c len)) (entryV f):=by
 have p:=addPre_iff.1 h
 refine⟨by rw[addQ_len];omega,fun b hb=>?_,capsV_len _ _,fun x hx=>?_,p.2.2.2.2.2.2⟩
 ·unfold addQ at hb
  rcases List.mem_append.1 hb with hb|hb
  ·exact p.2.2.2.1 b hb
  ·rw[List.mem_singleton.1 hb];exact newB_sound h
 ·unfold capsV at hx
  obtain⟨i,_,rfl⟩:=List.mem_map.1 hx
  exact capJ_rng _ _ _
theorem add_okPl{f:Fw}{c:V4}{len:Int}(h:addPre f c len=true):okPl (addQ f c len) (capsV f.ma (addQ f c len)) (entryV f)=true:=
 okPl_iff.2 ⟨by have:=(addPre_iff.1 h).2.2.2.2.2.1;rw[addQ_len];omega,add_plOk h⟩
def addR(f:Fw)(c:V4)(len:Int):Int:=if addOk f c len=true then 0 else 2
def addY(f:Fw)(c:V4)(len line:Int):Fw:=if addOk f c len=true then addF f c len line else f
theorem caps_list{m:Ma}{q:List Bk}{s:List Int}(hs:s.length=q.length)(h:∀t,t<q.length→s.getD t 0=capJ m q t):s=capsV m q:=list_eq_map hs h
theorem wsq{v:Int}(hv:0≤v∧v≤1048576):i64.wrap (v*v)=v*v:=by
 have:=sq_rng hv
 exact w64 (by omega) (by omega)
theorem capJ_succ(m:Ma)(q:List Bk){i:Nat}(h:1≤i):capJ m q i=junV m (q.getD (i-1) dBk).1 (q.getD i dBk).1*junV m (q.getD (i-1) dBk).1 (q.getD i dBk).1:=if_neg (by omega)
theorem addR_yes{f:Fw}{c:V4}{len:Int}(h:addOk f c len=true):addR f c len=0:=if_pos h
theorem addR_no{f:Fw}{c:V4}{len:Int}(h:¬addOk f c len=true):addR f c len=2:=if_neg h
theorem addY_yes{f:Fw}{c:V4}{len line:Int}(h:addOk f c len=true):addY f c len line=addF f c len line:=if_pos h
theorem addY_no{f:Fw}{c:V4}{len line:Int}(h:¬addOk f c len=true):addY f c len line=f:=if_neg h
theorem wrA:∀x∈[fPla.frz],x.ok Tryz.prog:=allQ.all (p:=WFact.ok Tryz.prog) (l:=[fPla.frz]) ⟨Fact.frz_ok o_pla,trivial⟩
theorem kA:Known Tryz.prog (Env.ofC (Env.ofB Tryz.prog (sumOf [fSpd,fAcc,fJun]) (wrOf [fPla.frz]) (pnOf []) (bxOf []) (rdOf []) (rdOf []) (rdOf []) (rdOf [])) (owOf [oCloB,oCloI])):=
 known_ofC (hB (l:=[fSpd,fAcc,fJun]) (k:=[fPla.frz]) (j:=[]) (i:=[]) [] [] [] [] ⟨o_spd,o_acc,o_jun,trivial⟩ wrA noneOk noneOk) (allQ.all (p:=OFact.ok Tryz.prog) (l:=[oCloB,oCloI]) ⟨o_oCloB,o_oCloI,trivial⟩)
theorem ad1_loop{f:Fw}{c:V4}{len:Int}(line:Int)(h:addPre f c len=true):∀ (k i:Nat) (s:List Int),i+k=f.queue.length+1→1≤i→s.length=f.queue.length+1→(∀t,t<i→s.getD t 0=capJ f.ma (addQ f c len) t)→
  RunsX Tryz.prog (fnOf Tryz.prog 215) [] 1 (.ret (I64 (addR f c len)) [some (.cells (addY f c len line).cells)]) (loopOf Tryz.prog 215 0) (slotsS 137 [(0,.ptr 0 0),(3,I64 line),(10,.row 1),(11,.row 2),(12,I64 i)]) [some (.cells f.cells),some (.rows tyBk (addQ f c len)),some (.rows (.int .i64) s)]
 |k,i,s,hi,h1,hs,hc=>by
  have p:=addPre_iff.1 h
  have pl:=add_okPl h
  have ql:=addQ_len f c len
  refine runsX_seg kA (n:=1000) (keep:=keepS 137 [0,3,10,11,12]) (p:=ad1_p) (by show 1≤3;omega) ?_
  erw [ad1 f line (addQ f c len) s i]
  unfold ad1_t
  have t0:(i:Int).toNat=i:=by omega
  have wm:i64.wrap ((i:Int)-1)=((i-1:Nat):Int):=by rw[w64 (by omega) (by omega)];omega
  have tm:((i-1:Nat):Int).toNat=i-1:=by omega
  have w1:i64.wrap ((i:Int)+1)=((i+1:Nat):Int):=by rw[w64 (by omega) (by omega)];omega
  have jr:=junV_rng f.ma ((addQ f c len).getD (i-1) dBk).1 ((addQ f c len).getD i dBk).1
  match k,hi with
  |k+1,hi=>
   have hi2:(i:Int)< (addQ f c len).length:=by omega
   have ih:=ad1_loop line h k (i+1) (s.set i (capJ f.ma (addQ f c len) i)) (by omega) (by omega) (by simpa using hs) (fun t ht=>by
    rw[set_getD (by omega)]
    split
    ·rename_i e;rw[e]
    ·exact hc t (by omega))
   rw[capJ_succ f.ma (addQ f c len) h1]at ih
   simp only[t0,wm,tm,w1,wsq jr,hi2,Tree.holds,decide_eq_true_eq,decide_eq_false_iff_not,Bool.and_eq_true,not_true_eq_false,false_implies,true_and,and_true,true_implies]
   exact⟨by omega,by omega,by omega,by omega,by omega,by omega,slotsS_len _ _,ih⟩
  |0,hi=>
   have hi2:¬((i:Int)< (addQ f c len).length):=by omega
   have es:s=capsV f.ma (addQ f c len):=caps_list (by omega) fun t ht=>hc t (by omega)
   subst es
   have f2:few2 f.lines.length=true:=few2_iff.2 (by omega)
   have l2:(f.lines.length+ [line].length)*8≤140737488355328:=by simp;omega
   have key:∀e,e=entryV f→(okPl (addQ f c len) (capsV f.ma (addQ f c len)) e=true∧((e≤crL (addQ f c len) 0→(gL (addQ f c len) (capsV f.ma (addQ f c len)) e 0=e→Fin.ret (SV.int IntKind.i64 0) [some (Box.cells (Fw.cells {f with queue:=plB (addQ f c len) (gL (addQ f c len) (capsV f.ma (addQ f c len)) e),lines:=f.lines++[line]}))] =.ret (I64 (addR f c len)) [some (.cells (addY f c len line).cells)])∧(¬gL (addQ f c len) (capsV f.ma (addQ f c len)) e 0=e→Fin.ret (SV.int IntKind.i64 2) [some (Box.cells (Fw.cells f))] =.ret (I64 (addR f c len)) [some (.cells (addY f c len line).cells)]))∧(¬e≤crL (addQ f c len) 0→Fin.ret (SV.int IntKind.i64 2) [some (Box.cells (Fw.cells f))] =.ret (I64 (addR f c len)) [some (.cells (addY f c len line).cells)]))):=fun e he=>by
    subst he
    refine⟨pl,fun a=>⟨fun b=>?_,fun b=>?_⟩,fun a=>?_⟩
    ·have o:=addOk_iff.2 ⟨a,b⟩
     rw[addR_yes o,addY_yes o];rfl
    ·have o:¬addOk f c len=true:=fun o=>b (addOk_iff.1 o).2
     rw[addR_no o,addY_no o];rfl
    ·have o:¬addOk f c len=true:=fun o=>a (addOk_iff.1 o).1
     rw[addR_no o,addY_no o];rfl
   have l0:(f.queue.length:Int)>0↔¬f.queue.length=0:=by omega
   cases hm:f.moving
   ·by_cases hq:f.queue.length=0
    ·have kk:=key 0 (by unfold entryV;rw[hm,if_neg (by decide),if_pos hq])
     have hq0:¬((f.queue.length:Int)>0):=by omega
     simp only[hm]at kk
     simp only[hi2,hq0,f2,l2,Tree.holds,decide_eq_true_eq,decide_eq_false_iff_not,false_implies,true_and,true_implies,not_false_eq_true,Bool.false_eq_true]
     exact⟨kk.1,fun a=>⟨fun b=>(kk.2.1 a).1 b,fun b=>(kk.2.1 a).2 b⟩,fun a=>kk.2.2 a⟩
    ·have kk:=key (f.queue.getD 0 dBk).2.2.1 (by unfold entryV;rw[hm,if_neg (by decide),if_neg hq])
     have hq0:(f.queue.length:Int)>0:=by omega
     have hq1:(0:Int)<f.queue.length:=by omega
     simp only[hm]at kk
     simp only[hi2,hq0,hq1,f2,l2,Tree.holds,decide_eq_true_eq,decide_eq_false_iff_not,false_implies,true_and,true_implies,not_false_eq_true,not_true_eq_false,Bool.false_eq_true,and_true]
     exact⟨kk.1,fun a=>⟨fun b=>(kk.2.1 a).1 b,fun b=>(kk.2.1 a).2 b⟩,fun a=>kk.2.2 a⟩
   ·have kk:=key f.mo.1.2.2.2.2 (by unfold entryV;rw[hm,if_pos rfl])
    simp only[hm]at kk
    simp only[hi2,hm,f2,l2,Tree.holds,decide_eq_true_eq,decide_eq_false_iff_not,false_implies,true_and,true_implies,not_false_eq_true,Bool.true_eq_false,and_true]
    exact⟨kk.1,fun a=>⟨fun b=>(kk.2.1 a).1 b,fun b=>(kk.2.1 a).2 b⟩,fun a=>kk.2.2 a⟩
theorem s_add(f:Fw)(c:V4)(len line:Int)(h:addPre f c len=true):FCall Tryz.prog 215 [V4.sv c,I64 len,I64 line] f (I64 (addR f c len),addY f c len line):=by
 have p:=addPre_iff.1 h
 have ql:=addQ_len f c len
 have sr:=spdV_rng p.1 (l:=len) (f:=f.feed) (ok63_iff.1 p.2.1).2 (ok63_iff.1 p.2.2.1).2
 have w:=wsq (v:=spdV f.ma c len f.feed) (by omega)
 refine fcall_runs (cs:=(addY f c len line).cells) (by kernel_rfl) rfl rfl rfl (NilLs.refl _) (runsX_seg kA (n:=1000) (keep:=keepS 137 [0,3,10,11,12]) (p:=ad0_p) (Nat.le_refl _) ?_)
 have q:=ad0 f c len line
 unfold startS codeS at q
 erw [q]
 unfold ad0_t
 have lp:=ad1_loop line h f.queue.length 1 (List.replicate (addQ f c len).length 0) (by omega) (by omega) (by simp[ql]) (fun t ht=>by
  have:t=0:=by omega
  subst this
  rw[ql];rfl)
 have tn:((addQ f c len).length:Int).toNat=(addQ f c len).length:=by omega
 rw[w]
 simp only[show f.queue++[(c,accV f.ma c,0,spdV f.ma c len f.feed*spdV f.ma c len f.feed,0)] =addQ f c len from rfl,tn,Tree.holds,Bool.and_eq_true,decide_eq_true_eq,beq_self_eq_true,and_true,true_and]
 refine⟨⟨p.2.1,p.2.2.1⟩,few2_iff.2 (by omega),by simp;omega,⟨⟨by omega,by omega⟩,by omega⟩,slotsS_len _ _,lp⟩
def bAdd:BFact:=bfact 215 fun f rest=>match rest with
 |[.agg [.int .i64 a,.int .i64 b,.int .i64 c,.int .i64 d],.int .i64 len,.int .i64 line] =>some (.req (addPre f (a,b,c,d) len) (.node (addOk f (a,b,c,d) len) (.leaf (I64 0,addF f (a,b,c,d) len line)) (.leaf (I64 2,f))))
 |_=>none
theorem o_bAdd:bAdd.ok Tryz.prog:=bfact_ok fun f rest t ht=>by
 split at ht
 ·rename_i a b c d len line
  injection ht with ht;subst ht
  intro h
  have k:=s_add f (a,b,c,d) len line h
  refine⟨fun o=>?_,fun o=>?_⟩
  ·rw[addR_yes o,addY_yes o]at k;exact k
  ·have o:¬addOk f (a,b,c,d) len=true:=by rw[o];exact Bool.false_ne_true
   rw[addR_no o,addY_no o]at k;exact k
 ·cases ht
def rTgt:BFact:=rfact 213 fun f rest=>match rest with
 |[.agg [.int .i64 a0,.int .i64 a1,.int .i64 a2,.int .i64 a3,.int .i64 a4,.int .i64 a5,.int .i64 a6,.int .i64 a7]] =>some (.leaf (.tuple [V3.sv (tgtV f ⟨a0,a1,a2,a3,a4,a5,a6,a7⟩),I64 (tgtE f ⟨a0,a1,a2,a3,a4,a5,a6,a7⟩)]))
 |_=>none
theorem o_rtgt:rTgt.ok Tryz.prog:=rfact_ok fun f rest t ht=>by
 split at ht
 ·injection ht with ht;subst ht;exact s_tgt f ⟨_,_,_,_,_,_,_,_⟩
 ·cases ht
def rLeng:BFact:=rfact 216 fun f rest=>match rest with
 |[.agg [.int .i64 x,.int .i64 y,.int .i64 z],.int .i64 e] =>some (.req (lenPre f (x,y,z) e) (.leaf (I64 (lenM f (x,y,z) e))))
 |_=>none
theorem o_rleng:rLeng.ok Tryz.prog:=rfact_ok fun f rest t ht=>by
 split at ht
 ·injection ht with ht;subst ht;exact fun h=>s_leng f (_,_,_) _ h
 ·cases ht
noncomputable def itemsM:List Item:=stopIt (segX (Env.ofB Tryz.prog (sumOf [fMot,fIns,fGoal,fMns,fNear]) (wrOf []) (pnOf [BFact.toP rTgt]) (bxOf [rTgt]) (rdOf []) (rdOf []) (rdOf []) (rdOf [12])) 1000 (fnOf Tryz.prog 146) 1 (keepS 152 []) (codeS Tryz.prog 146) .all (startS Tryz.prog 146 [.ptr 0 0,I64 1,(⟨0,0,0,0,0,0,0,0⟩:Gc.C).sv]) [some (.cells fw0.cells)])
def mv0_p:Plan:=.fork (.ln 19 (.lit .all)) (.ln 6 (.fork (.ln 12 (.lit .all)) (.ln 5 (.fork (.ln 6 (.lit .all)) (.ln 6 (.fork .all (.fork (.fork (.fork (.lit (.lit (.lit .all))) (.ln 3 (.fork (.ln 12 (.fork .all .all)) (.ln 12 (.lit .all))))) (.fork (.lit (.lit (.lit .all))) (.lit (.lit (.lit .all))))) (.fork (.fork (.lit (.lit (.lit .all))) (.ln 3 (.fork (.ln 12 (.fork .all .all)) (.ln 12 (.lit .all))))) (.fork (.lit (.lit (.lit .all))) (.lit (.lit (.lit .all))))))))))))
noncomputable def mv0_t(f:Fw)(line:Int)(c:Gc.C):Tree StopX:=let y3:={f with feed:=c.f};let y5:Tree StopX:=.leaf (.fin (.ret (.int .i64 14) [some (.cells (Fw.cells f))]));let y7:Tree StopX:=.leaf (.fin (.ret (.int .i64 8) [some (.cells (Fw.cells f))]));let y8:=((tgtV y3 c).1,(tgtV y3 c).2);let y0:=motV f.ma y8 (tgtE y3 c);let y9:=((tgtV f c).1,(tgtV f c).2);let y4:=motV f.ma y9 (tgtE f c);let y1:Tree StopX:=.req (movesB f&&queuedB f) (.leaf (.at itemsM 152 (slotsS 152 [(0,.ptr 0 0),(1,.int .i64 line),(7,.ptr 1 0),(8,.int .i64 (tgtE f c)),(9,.ptr 2 0),(11,.ptr 3 0)]) [some (.cells (Fw.cells f)),some (.cells [.int .i64 (tgtV f c).1,.int .i64 (tgtV f c).2.1,.int .i64 (tgtV f c).2.2]),some (.cells [.int .i64 y4.1,.int .i64 y4.2.1,.int .i64 y4.2.2.1,.int .i64 y4.2.2.2]),some (.cells [.int .i64 (wsub4 y4 (goal4 f)).1,.int .i64 (wsub4 y4 (goal4 f)).2.1,.int .i64 (wsub4 y4 (goal4 f)).2.2.1,.int .i64 (wsub4 y4 (goal4 f)).2.2.2])]));let y10:=Fw.cells {f with feed:=c.f};let y2:Tree StopX:=.req (movesB y3&&queuedB y3) (.leaf (.at itemsM 152 (slotsS 152 [(0,.ptr 0 0),(1,.int .i64 line),(7,.ptr 1 0),(8,.int .i64 (tgtE y3 c)),(9,.ptr 2 0),(11,.ptr 3 0)]) [some (.cells y10),some (.cells [.int .i64 (tgtV y3 c).1,.int .i64 (tgtV y3 c).2.1,.int .i64 (tgtV y3 c).2.2]),some (.cells [.int .i64 y0.1,.int .i64 y0.2.1,.int .i64 y0.2.2.1,.int .i64 y0.2.2.2]),some (.cells [.int .i64 (wsub4 y0 (goal4 y3)).1,.int .i64 (wsub4 y0 (goal4 y3)).2.1,.int .i64 (wsub4 y0 (goal4 y3)).2.2.1,.int .i64 (wsub4 y0 (goal4 y3)).2.2.2])]));let y6:Tree StopX:=.leaf (.fin (.ret (.int .i64 8) [some (.cells y10)])); .node (decide (line<1)) y5 (.node (!f.homed) y5 (.node (f.back) y5 (.node (f.mode != 1) y5 (.node (i64.wrap (↑(BitVec.ofInt 64 c.has &&&BitVec.ofInt 64 16).toNat:Int) != 0) (.node (motOk f.ma y8 (tgtE y3 c)) (.node (!insB f.ma y8) y6 (.node (decide (tgtE y3 c>f.e)) (.req true (.node (decide (f.r0<f.cold)) (.leaf (.fin (.ret (.int .i64 15) [some (.cells y10)]))) y2)) y2)) (.node (!insB f.ma y8) y6 y6)) (.node (motOk f.ma y9 (tgtE f c)) (.node (!insB f.ma y9) y7 (.node (decide (tgtE f c>f.e)) (.req true (.node (decide (f.r0<f.cold)) (.leaf (.fin (.ret (.int .i64 15) [some (.cells (Fw.cells f))]))) y1)) y1)) (.node (!insB f.ma y9) y7 y7))))))
theorem mv0(f:Fw)(line:Int)(c:Gc.C):segX (Env.ofB Tryz.prog (sumOf [fMot,fIns,fGoal,fMns,fNear]) (wrOf []) (pnOf [BFact.toP rTgt]) (bxOf [rTgt]) (rdOf []) (rdOf []) (rdOf []) (rdOf [12])) 1000 (fnOf Tryz.prog 146) 1 (keepS 152 [0,1,7,8,9,11]) (codeS Tryz.prog 146) mv0_p (startS Tryz.prog 146 [.ptr 0 0,I64 line,c.sv]) [some (.cells f.cells)] =mv0_t f line c:=by kernel_rfl
def mv1_p:Plan:=.fork (.ln 3 (.lit .all)) (.ln 3 (.fork .all (.fork (.ln 7 (.fork .all (.fork (.fork (.lit .all) (.lit .all)) .all))) (.ln 8 (.fork (.fork (.lit .all) (.lit .all)) .all)))))
noncomputable def mv1_t(f:Fw)(line:Int)(u:V3)(e:Int)(p d:V4):Tree StopX:=let y1:Tree StopX:=.leaf (.fin (.ret (.int .i64 2) [some (.cells (Fw.cells f))]));let y2:=!(d.1==0&& (d.2.1==0&& (d.2.2.1==0&& (d.2.2.2==0&&true))));let y0:Tree StopX:=.node y2 (.req (lenPre f u e) (.req (lenPre f u e) (.req (addPre f d (lenM f u e)) (.node (addOk f d (lenM f u e)) (.leaf (.fin (.ret (.int .i64 0) [some (.cells (Fw.cells { (addF f d (lenM f u e) line)with loc:=u,e:=e}))]))) y1)))) (.leaf (.fin (.ret (.int .i64 0) [some (.cells (Fw.cells {f with loc:=u,e:=e}))]))); .node (!near4 p) y1 (.node (!near4 d) y1 (.node y2 (.node (decide ((↑f.queue.length:Int)≥32)) (.leaf (.fin (.ret (.int .i64 18) [some (.cells (Fw.cells f))]))) y0) y0))
theorem mv1(f:Fw)(line:Int)(u:V3)(e:Int)(p d:V4):segX (Env.ofB Tryz.prog (sumOf [fMot,fIns,fGoal,fMns,fNear]) (wrOf []) (pnOf [BFact.toP bAdd,BFact.toP rLeng]) (bxOf [bAdd,rLeng]) (rdOf []) (rdOf []) (rdOf []) (rdOf [])) 1000 (fnOf Tryz.prog 146) 1 (keepS 152 [0,1,7,8,9,11]) itemsM mv1_p (slotsS 152 [(0,.ptr 0 0),(1,I64 line),(7,.ptr 1 0),(8,I64 e),(9,.ptr 2 0),(11,.ptr 3 0)]) [some (.cells f.cells),some (.cells (V3.cells u)),some (.cells (V4.cells p)),some (.cells (V4.cells d))] =mv1_t f line u e p d:=by kernel_rfl
theorem nzT(d:V4):(!(d.1==0&& (d.2.1==0&& (d.2.2.1==0&& (d.2.2.2==0&&true)))))=nz4 d:=by
 unfold nz4;rw[Bool.and_true]
section
variable {g:Fw} {line e:Int} {u:V3} {p d:V4}
theorem tlE_far(h:(near4 p&&near4 d)=false):tlE g u e p d=2:=by unfold tlE;rw[h]
theorem tlE_nz(h:(near4 p&&near4 d)=true)(k:nz4 d=false):tlE g u e p d=0:=by unfold tlE;rw[h,k]
theorem tlE_full(h:(near4 p&&near4 d)=true)(k:nz4 d=true)(q:32≤g.queue.length):tlE g u e p d=18:=by unfold tlE;rw[h,k];exact if_pos q
theorem tlE_ok(h:(near4 p&&near4 d)=true)(k:nz4 d=true)(q:¬32≤g.queue.length)(o:addOk g d (lenM g u e)=true):tlE g u e p d=0:=by unfold tlE;rw[h,k];dsimp only;rw[if_neg q,if_pos o]
theorem tlE_no(h:(near4 p&&near4 d)=true)(k:nz4 d=true)(q:¬32≤g.queue.length)(o:¬addOk g d (lenM g u e)=true):tlE g u e p d=2:=by unfold tlE;rw[h,k];dsimp only;rw[if_neg q,if_neg o]
theorem tlO_err(h:¬tlE g u e p d=0):tlO g line u e p d=g:=if_neg h
theorem tlO_ok(h:tlE g u e p d=0):tlO g line u e p d=tlF g line u e d:=if_pos h
theorem tlF_no(k:nz4 d=false):tlF g line u e d={g with loc:=u,e:=e}:=by unfold tlF;rw[k]
theorem tlF_yes(k:nz4 d=true):tlF g line u e d={addF g d (lenM g u e) line with loc:=u,e:=e}:=by unfold tlF;rw[k]
theorem kMv:Known Tryz.prog (Env.ofB Tryz.prog (sumOf [fMot,fIns,fGoal,fMns,fNear]) (wrOf []) (pnOf [BFact.toP bAdd,BFact.toP rLeng]) (bxOf [bAdd,rLeng]) (rdOf []) (rdOf []) (rdOf []) (rdOf [])):=
 hB (l:=[fMot,fIns,fGoal,fMns,fNear]) (k:=[]) (j:=[BFact.toP bAdd,BFact.toP rLeng]) (i:=[bAdd,rLeng]) [] [] [] [] ⟨o_mot,o_ins,o_goal,o_mns,o_near,trivial⟩ noneOk (allQ.all (p:=PFact.ok Tryz.prog) (l:=[BFact.toP bAdd,BFact.toP rLeng]) ⟨BFact.toP_ok o_bAdd,BFact.toP_ok o_rleng,trivial⟩) (allQ.all (p:=BFact.ok Tryz.prog) (l:=[bAdd,rLeng]) ⟨o_bAdd,o_rleng,trivial⟩)
theorem kMh:Known Tryz.prog (Env.ofB Tryz.prog (sumOf [fMot,fIns,fGoal,fMns,fNear]) (wrOf []) (pnOf [BFact.toP rTgt]) (bxOf [rTgt]) (rdOf []) (rdOf []) (rdOf []) (rdOf [12])):=
 hB (l:=[fMot,fIns,fGoal,fMns,fNear]) (k:=[]) (j:=[BFact.toP rTgt]) (i:=[rTgt]) [] [] [] [12] ⟨o_mot,o_ins,o_goal,o_mns,o_near,trivial⟩ noneOk (allQ.all (p:=PFact.ok Tryz.prog) (l:=[BFact.toP rTgt]) ⟨BFact.toP_ok o_rtgt,trivial⟩) (allQ.all (p:=BFact.ok Tryz.prog) (l:=[rTgt]) ⟨o_rtgt,trivial⟩)
theorem mv1_run(hl:near4 d=true→nz4 d=true→¬32≤g.queue.length→lenPre g u e=true∧addPre g d (lenM g u e)=true):
  RunsX Tryz.prog (fnOf Tryz.prog 146) [] 1 (.ret (I64 (tlE g u e p d)) [some (.cells (tlO g line u e p d).cells)]) itemsM (slotsS 152 [(0,.ptr 0 0),(1,I64 line),(7,.ptr 1 0),(8,I64 e),(9,.ptr 2 0),(11,.ptr 3 0)]) [some (.cells g.cells),some (.cells (V3.cells u)),some (.cells (V4.cells p)),some (.cells (V4.cells d))] :=by
 refine runsX_seg kMv (n:=1000) (keep:=keepS 152 [0,1,7,8,9,11]) (p:=mv1_p) (by show 1≤4;omega) ?_
 erw [mv1 g line u e p d]
 unfold mv1_t
 rw[nzT]
 cases hp:near4 p
 ·have h:(near4 p&&near4 d)=false:=by rw[hp];rfl
  have k:=tlE_far (g:=g) (u:=u) (e:=e) h
  rw[k,tlO_err (by rw[k];decide)]
  exact⟨fun _=>rfl,fun c=>by cases c⟩
 cases hd:near4 d
 ·have h:(near4 p&&near4 d)=false:=by rw[hp,hd];rfl
  have k:=tlE_far (g:=g) (u:=u) (e:=e) h
  rw[k,tlO_err (by rw[k];decide)]
  exact⟨fun c=>(by cases c),fun _=>⟨fun _=>rfl,fun c=>by cases c⟩⟩
 have h:(near4 p&&near4 d)=true:=by rw[hp,hd];rfl
 refine⟨fun c=>(by cases c),fun _=>⟨fun c=>(by cases c),fun _=>?_⟩⟩
 cases hz:nz4 d
 ·have k:=tlE_nz (g:=g) (u:=u) (e:=e) h hz
  rw[k,tlO_ok k,tlF_no hz]
  exact⟨fun c=>(by cases c),fun _=>⟨fun c=>(by cases c),fun _=>rfl⟩⟩
 by_cases hq:32≤g.queue.length
 ·have k:=tlE_full (g:=g) (u:=u) (e:=e) h hz hq
  rw[k,tlO_err (by rw[k];decide)]
  exact⟨fun _=>⟨fun _=>rfl,fun c=>absurd (of_decide_eq_false c) (fun n=>n (by omega))⟩,fun c=>by cases c⟩
 ·obtain⟨l1,l2⟩:=hl hd hz hq
  refine⟨fun _=>⟨fun c=>absurd (of_decide_eq_true c) (by omega),fun _=>⟨fun _=>⟨l1,l1,l2,fun o=>?_,fun o=>?_⟩,fun c=>by cases c⟩⟩,fun c=>by cases c⟩
  ·have k:=tlE_ok (g:=g) (u:=u) (e:=e) h hz hq o
   rw[k,tlO_ok k,tlF_yes hz];rfl
  ·have k:=tlE_no (g:=g) (u:=u) (e:=e) h hz hq (by rw[o];exact Bool.false_ne_true)
   rw[k,tlO_err (by rw[k];decide)];rfl
end
structure VF (f:Fw):Prop where
 ma:f.ma.ok=true
 c0:f.c0.ok=true
 c1:f.c1.ok=true
 g0:f.g0.ok=true
 g1:f.g1.ok=true
 mode:1≤f.mode∧f.mode≤3
 nums:(-16777216≤f.loc.1∧f.loc.1≤16777216)∧(-16777216≤f.loc.2.1∧f.loc.2.1≤16777216)∧(-16777216≤f.loc.2.2∧f.loc.2.2≤16777216)∧(-16777216≤f.e∧f.e≤16777216)∧(0≤f.feed∧f.feed≤1048576)∧(0≤f.dwell∧f.dwell≤1048576)∧(0≤f.waits∧f.waits≤3)∧(0≤f.fan∧f.fan≤255)∧(0≤f.line∧f.line≤1099511627776)∧(0≤f.active∧f.active≤1099511627776)∧(0≤f.ticks∧f.ticks≤1099511627776)∧0≤f.cold∧f.cold≤400000
 moves:movesB f=true
 queued:queuedB f=true
 ends:(¬f.mode=3∧f.homed=true)∨(f.moving=false∧f.queue.length=0)
 len:f.queue.length≤32
 lens:f.lines.length=f.queue.length
 pos:near4 f.pos=true
 ret:near4 f.ret=true
 beg:near4 (begin4 f)=true
 q0:near4 (queue0 f)=true
 blk:∀i,i<f.queue.length→blkOK (queue0 f) f.queue f.lines i=true
theorem vf_of{f:Fw}(h:validF f=true):VF f:=by
 obtain⟨h1,h2,h3,h4,h5⟩:=validF_iff.1 h
 obtain⟨a1,a2,a3,a4,a5⟩:=partsB_iff.1 h1
 obtain⟨b1,b2⟩:=modNumB_iff.1 h2
 obtain⟨q1,q2,q3,q4,q5,q6,q7⟩:=queuedB_iff.1 h4
 exact⟨a1,a2,a3,a4,a5,b1,numsB_iff.1 b2,h3,h4,endB_iff.1 h5,q1,q2,q3,q4,q5,q6,q7⟩
theorem getD_of_mem{α:Type}{l:List α}{x d:α}(h:x∈l):∃i,i<l.length∧l.getD i d=x:=by
 obtain⟨i,hi,e⟩:=List.getElem_of_mem h
 exact⟨i,hi,by rw[List.getD_eq_getElem?_getD,List.getElem?_eq_getElem hi];exact e⟩
theorem blk_use{p:V4}{q:List Bk}{ls:List Int}{i:Nat}(h:blkOK p q ls i=true):validB (q.getD i dBk)=true∧(0≤ls.getD i 0∧ls.getD i 0≤1099511627776)∧near4 (posAt p q (i+1))=true:=by
 simp only[blkOK,Bool.and_eq_true,inR_iff]at h;exact h
theorem VF.blocks{f:Fw}(v:VF f):∀b∈f.queue,validB b=true:=fun b hb=>by
 obtain⟨i,hi,rfl⟩:=getD_of_mem (d:=dBk) hb
 exact(blk_use (v.blk i hi)).1
theorem VF.linesR{f:Fw}(v:VF f):∀n∈f.lines,0≤n∧n≤1099511627776:=fun n hn=>by
 obtain⟨i,hi,rfl⟩:=getD_of_mem (d:=(0:Int)) hn
 exact(blk_use (v.blk i (by have:=v.lens;omega))).2.1
theorem VF.shape{f:Fw}(v:VF f):shapeB f=true:=shapeB_iff.2 ⟨near_big v.pos,v.lens,v.len,by have:=v.nums;omega,by have:=v.nums;omega,v.linesR⟩
theorem VF.goal{f:Fw}(v:VF f):near4 (goal4 f)=true:=by
 unfold goal4
 cases hq:f.queue.length with
 |zero=>exact v.q0
 |succ n=>exact(blk_use (v.blk n (by omega))).2.2
theorem VF.sound{f:Fw}(v:VF f):∀b∈f.queue,soundB b=true:=fun b hb=>by
 have:=v.blocks b hb
 unfold validB at this
 rw[Bool.and_eq_true]at this
 exact this.1
theorem VF.entry{f:Fw}(v:VF f):0≤entryV f∧entryV f≤1099511627776:=by
 unfold entryV
 split
 ·rename_i hm
  have m:=v.moves
  rw[movesB_on hm]at m
  have r:=validB_iff.1 (runsM_iff.1 m).1
  omega
 ·split
  ·omega
  ·rename_i hq
   have r:=validB_iff.1 (blk_use (v.blk 0 (by omega))).1
   omega
theorem motV_big{m:Ma}{u:V3}{e:Int}(h:motOk m u e=true):big4 (motV m u e)=true:=by
 obtain⟨h1,h2,h3,h4⟩:=motOk_iff.1 h
 have o:=(Ma.ok_iff m).1 (stOk_iff.1 h1).1
 have r1:=(st_rng o.1 (stOk_iff.1 h1).2).2
 have r2:=(st_rng o.2.1 (stOk_iff.1 h2).2).2
 have r3:=(st_rng o.2.2.1 (stOk_iff.1 h3).2).2
 have r4:=(st_rng o.2.2.2.1 (stOk_iff.1 h4).2).2
 rw[big4_iff]
 unfold motV core
 split<;>dsimp only<;>omega
theorem lenM_rng{f:Fw}{u:V3}{e:Int}(h:lenPre f u e=true):0≤lenM f u e∧lenM f u e≤4611686018427387904:=by
 have p:=lenPre_iff.1 h
 have a:=isq_nonneg (sqs f.loc u)
 have b:=isq_lt (sqs f.loc u)
 unfold lenM
 split
 ·split<;>omega
 ·omega
theorem val_f{c:Gc.C}(h:c.valid=true):0≤c.f∧c.f≤1048576:=by
 unfold Gc.C.valid at h
 rw[Bool.and_eq_true]at h
 have r:=h.2
 simp only[Gc.rest,Bool.and_eq_true]at r
 have h4:Gc.okW c 4=true:=r.2.2.2.2.1
 unfold Gc.okW at h4
 have e:c.num 4=c.f:=by unfold Gc.C.num;simp
 have e1:Gc.lo c.code 4=1:=by unfold Gc.lo;simp
 have e2:Gc.hi c.code 4=1048576:=by unfold Gc.hi;simp
 rw[e,e1,e2]at h4
 split at h4
 ·have:=beq_iff_eq.1 h4;omega
 ·have:=inR_iff.1 h4;omega
section
variable {f:Fw} {line:Int} {c:Gc.C}
theorem mvE14(k:line<1∨f.homed=false∨f.back=true∨¬f.mode=1):moveA f line c=14∧moveO f line c=f:=by
 have e:moveE f line c=14:=if_pos k
 unfold moveA moveO
 rw[e]
 exact⟨if_neg (by decide),by rw[if_neg (by decide),if_pos rfl]⟩
theorem mvE8(k:¬(line<1∨f.homed=false∨f.back=true∨¬f.mode=1))(k2:insB f.ma (tgtV f c)=false∨motOk f.ma (tgtV f c) (tgtE f c)=false):moveA f line c=8∧moveO f line c=feedF f c:=by
 have e:moveE f line c=8:=by unfold moveE;rw[if_neg k,if_pos k2]
 unfold moveA moveO
 rw[e]
 exact⟨if_neg (by decide),by rw[if_neg (by decide),if_neg (by decide)]⟩
theorem mvE15(k:¬(line<1∨f.homed=false∨f.back=true∨¬f.mode=1))(k2:¬(insB f.ma (tgtV f c)=false∨motOk f.ma (tgtV f c) (tgtE f c)=false))(k3:f.e<tgtE f c∧f.r0<f.cold):moveA f line c=15∧moveO f line c=feedF f c:=by
 have e:moveE f line c=15:=by unfold moveE;rw[if_neg k,if_neg k2,if_pos k3]
 unfold moveA moveO
 rw[e]
 exact⟨if_neg (by decide),by rw[if_neg (by decide),if_neg (by decide)]⟩
theorem mvE0(k:¬(line<1∨f.homed=false∨f.back=true∨¬f.mode=1))(k2:¬(insB f.ma (tgtV f c)=false∨motOk f.ma (tgtV f c) (tgtE f c)=false))(k3:¬(f.e<tgtE f c∧f.r0<f.cold)):moveA f line c=tlE (feedF f c) (tgtV f c) (tgtE f c) (moveP f c) (moveD f c)∧moveO f line c=tlO (feedF f c) line (tgtV f c) (tgtE f c) (moveP f c) (moveD f c):=by
 have e:moveE f line c=0:=by unfold moveE;rw[if_neg k,if_neg k2,if_neg k3]
 unfold moveA moveO
 rw[e]
 exact⟨if_pos rfl,if_pos rfl⟩
theorem feedF_yes(h:hasW c.has 16=true):feedF f c={f with feed:=c.f}:=if_pos h
theorem feedF_no(h:¬hasW c.has 16=true):feedF f c=f:=if_neg h
theorem feed_rng(v:VF f)(hc:c.valid=true):0≤(feedF f c).feed∧(feedF f c).feed≤1048576:=by
 unfold feedF
 split
 ·exact val_f hc
 ·have:=v.nums;omega
theorem mv_pre(v:VF f)(hc:c.valid=true)(ki:insB f.ma (tgtV f c)=true)(km:motOk f.ma (tgtV f c) (tgtE f c)=true){d:V4}(hd:near4 d=true)(hz:nz4 d=true):lenPre (feedF f c) (tgtV f c) (tgtE f c)=true∧addPre (feedF f c) d (lenM (feedF f c) (tgtV f c) (tgtE f c))=true:=by
 have n:=v.nums
 have o:=(Ma.ok_iff f.ma).1 v.ma
 have ii:=insB_iff.1 ki
 have a1:=(Ax.ok_iff _).1 o.1
 have a2:=(Ax.ok_iff _).1 o.2.1
 have a3:=(Ax.ok_iff _).1 o.2.2.1
 have mm:=(motOk_iff.1 km).2.2.2
 have me:=(stOk_iff.1 mm).2
 have iu:inV (tgtV f c)=true:=inV_iff.2 (by omega)
 have il:inV f.loc=true:=inV_iff.2 (by omega)
 have fl:(feedF f c).loc=f.loc:=by unfold feedF;split<;>rfl
 have fe:(feedF f c).e=f.e:=by unfold feedF;split<;>rfl
 have fm:(feedF f c).ma=f.ma:=by unfold feedF;split<;>rfl
 have fq:(feedF f c).queue=f.queue:=by unfold feedF;split<;>rfl
 have fn:(feedF f c).lines=f.lines:=by unfold feedF;split<;>rfl
 have fy:entryV (feedF f c)=entryV f:=by unfold feedF;split<;>rfl
 have lp:lenPre (feedF f c) (tgtV f c) (tgtE f c)=true:=lenPre_iff.2 ⟨by rw[fl];exact il,iu,by rw[fe];omega,by omega⟩
 have lr:=lenM_rng lp
 have fr:=feed_rng v hc
 have en:=v.entry
 refine⟨lp,addPre_iff.2 ⟨okL_iff.2 ⟨by rw[fm];exact v.ma,?_⟩,ok63_iff.2 (by omega),ok63_iff.2 (by omega),by rw[fq];exact v.sound,by rw[fn,fq];exact v.lens,by rw[fq];have:=v.len;omega,by rw[fy];exact en⟩⟩
 unfold okC;rw[hd,hz];rfl
theorem s_move(h:validF f=true)(hc:c.valid=true):FCall Tryz.prog 146 [I64 line,c.sv] f (I64 (moveA f line c),moveO f line c):=by
 have v:=vf_of h
 refine fcall_runs (cs:=(moveO f line c).cells) (by kernel_rfl) rfl rfl rfl (NilLs.refl _) (runsX_seg kMh (n:=1000) (keep:=keepS 152 [0,1,7,8,9,11]) (p:=mv0_p) (Nat.le_refl _) ?_)
 have q:=mv0 f line c
 unfold startS codeS at q
 erw [q]
 unfold mv0_t
 by_cases k:line<1∨f.homed=false∨f.back=true∨¬f.mode=1
 ·obtain⟨eA,eO⟩:=mvE14 (c:=c) k
  rw[eA,eO]
  refine⟨fun _=>rfl,fun a=>⟨fun _=>rfl,fun b=>⟨fun _=>rfl,fun d=>⟨fun _=>rfl,fun e=>?_⟩⟩⟩⟩
  exfalso
  have a:=of_decide_eq_false a
  have e:=bne_eq_false_iff_eq.1 e
  rcases k with k|k|k|k
  ·exact a k
  ·rw[k]at b;cases b
  ·rw[k]at d;cases d
  ·exact k e
 ·have mq:(movesB f&&queuedB f)=true:=by rw[v.moves,v.queued];rfl
  refine⟨fun a=>absurd (.inl (of_decide_eq_true a)) k,fun _=>⟨fun a=>absurd (.inr (.inl (by simpa using a))) k,fun _=>⟨fun a=>absurd (.inr (.inr (.inl a))) k,fun _=>⟨fun a=>absurd (.inr (.inr (.inr (bne_iff_ne.1 a)))) k,fun _=>?_⟩⟩⟩⟩
  have out:∀g:Fw,feedF f c=g→(insB f.ma (tgtV f c)=true→motOk f.ma (tgtV f c) (tgtE f c)=true→¬(f.e<tgtE f c∧f.r0<f.cold)→
    RunsX Tryz.prog (fnOf Tryz.prog 146) [] 1 (.ret (I64 (moveA f line c)) [some (.cells (moveO f line c).cells)]) itemsM (slotsS 152 [(0,.ptr 0 0),(1,I64 line),(7,.ptr 1 0),(8,I64 (tgtE f c)),(9,.ptr 2 0),(11,.ptr 3 0)]) [some (.cells g.cells),some (.cells (V3.cells (tgtV f c))),some (.cells (V4.cells (moveP f c))),some (.cells (V4.cells (wsub4 (moveP f c) (goal4 f))))]):=fun g hg ki km kk=>by
   obtain⟨eA,eO⟩:=mvE0 k (fun n=>by rcases n with n|n;rw[ki]at n;cases n;rw[km]at n;cases n) kk
   have hw:wsub4 (moveP f c) (goal4 f)=moveD f c:=wsub4_eq (motV_big km) (near_big v.goal)
   rw[eA,eO,hw,←hg]
   exact mv1_run fun hd hz _=>mv_pre v hc ki km hd hz
  refine⟨fun w=>?_,fun w=>?_⟩
  ·have hf:feedF f c={f with feed:=c.f}:=feedF_yes (hasW_iff.2 (bne_iff_ne.1 w))
   refine⟨fun m=>⟨fun i=>?_,fun i=>⟨fun t=>⟨rfl,fun r=>?_,fun r=>⟨mq,slotsS_len _ _,?_⟩⟩,fun t=>⟨mq,slotsS_len _ _,?_⟩⟩⟩,fun m=>⟨fun i=>?_,fun i=>?_⟩⟩
   ·obtain⟨eA,eO⟩:=mvE8 (c:=c) k (.inl (by have i:(!insB f.ma (tgtV f c))=true:=i;simpa using i))
    rw[eA,eO,hf];rfl
   ·have i:(!insB f.ma (tgtV f c))=false:=i
    have m:motOk f.ma (tgtV f c) (tgtE f c)=true:=m
    obtain⟨eA,eO⟩:=mvE15 (c:=c) k (fun n=>by rcases n with n|n;rw[n]at i;cases i;rw[m]at n;cases n) ⟨of_decide_eq_true t,of_decide_eq_true r⟩
    rw[eA,eO,hf];rfl
   ·have i:(!insB f.ma (tgtV f c))=false:=i
    exact out _ hf (by simpa using i) m fun n=>absurd n.2 (of_decide_eq_false r)
   ·have i:(!insB f.ma (tgtV f c))=false:=i
    exact out _ hf (by simpa using i) m fun n=>absurd n.1 (of_decide_eq_false t)
   ·obtain⟨eA,eO⟩:=mvE8 (c:=c) k (.inr m)
    rw[eA,eO,hf];rfl
   ·obtain⟨eA,eO⟩:=mvE8 (c:=c) k (.inr m)
    rw[eA,eO,hf];rfl
  ·have hf:feedF f c=f:=feedF_no (fun n=>by rw[bne_eq_false_iff_eq]at w;exact hasW_iff.1 n w)
   refine⟨fun m=>⟨fun i=>?_,fun i=>⟨fun t=>⟨rfl,fun r=>?_,fun r=>⟨mq,slotsS_len _ _,?_⟩⟩,fun t=>⟨mq,slotsS_len _ _,?_⟩⟩⟩,fun m=>⟨fun i=>?_,fun i=>?_⟩⟩
   ·obtain⟨eA,eO⟩:=mvE8 (c:=c) k (.inl (by have i:(!insB f.ma (tgtV f c))=true:=i;simpa using i))
    rw[eA,eO,hf];rfl
   ·have i:(!insB f.ma (tgtV f c))=false:=i
    have m:motOk f.ma (tgtV f c) (tgtE f c)=true:=m
    obtain⟨eA,eO⟩:=mvE15 (c:=c) k (fun n=>by rcases n with n|n;rw[n]at i;cases i;rw[m]at n;cases n) ⟨of_decide_eq_true t,of_decide_eq_true r⟩
    rw[eA,eO,hf];rfl
   ·have i:(!insB f.ma (tgtV f c))=false:=i
    exact out _ hf (by simpa using i) m fun n=>absurd n.2 (of_decide_eq_false r)
   ·have i:(!insB f.ma (tgtV f c))=false:=i
    exact out _ hf (by simpa using i) m fun n=>absurd n.1 (of_decide_eq_false t)
   ·obtain⟨eA,eO⟩:=mvE8 (c:=c) k (.inr m)
    rw[eA,eO,hf];rfl
   ·obtain⟨eA,eO⟩:=mvE8 (c:=c) k (.inr m)
    rw[eA,eO,hf];rfl
end
noncomputable def wMove:WFact:=wfact 146 fun f rest=>match rest with
 |[.int .i64 line,.agg [.int .i64 a0,.int .i64 a1,.int .i64 a2,.int .i64 a3,.int .i64 a4,.int .i64 a5,.int .i64 a6,.int .i64 a7]] =>some (.req (validF f) (.req (Gc.C.valid ⟨a0,a1,a2,a3,a4,a5,a6,a7⟩) (.leaf (I64 (moveA f line ⟨a0,a1,a2,a3,a4,a5,a6,a7⟩),moveO f line ⟨a0,a1,a2,a3,a4,a5,a6,a7⟩))))
 |_=>none
theorem o_wMove:wMove.ok Tryz.prog:=wfact_ok fun f rest t ht=>by
 split at ht
 ·injection ht with ht;subst ht;exact fun h hc=>s_move (c:=⟨_,_,_,_,_,_,_,_⟩) h hc
 ·cases ht
def hm0_p:Plan:=.fork .all (.fork .all (.fork (.ln 5 (.fork (.fork (.lit .all) (.lit .all)) (.fork (.fork .all .all) (.fork .all .all)))) (.ln 6 (.fork (.fork .all .all) (.fork .all .all)))))
noncomputable def hm0_t(f:Fw)(line:Int)(c:Gc.C):Tree StopX:=let y1:=slotsS 148 [(0,.ptr 0 0),(115,.agg [.int .i64 0,.int .i64 0,.int .i64 f.pos.2.2.1,.int .i64 0,.int .i64 f.pos.1,.int .i64 f.pos.2.1,.int .i64 0,.int .i64 0]),(116,.int .i64 0)];let y2:=slotsS 148 [(0,.ptr 0 0),(115,.agg [.int .i64 0,.int .i64 0,.int .i64 f.ret.2.2.1,.int .i64 0,.int .i64 f.ret.1,.int .i64 f.ret.2.1,.int .i64 0,.int .i64 0]),(116,.int .i64 0)];let y3:=(0,0,0,f.pos.2.2.2);let y4:=loopOf Tryz.prog 148 0;let y5:=unitsN (axM f.ma 3) f.pos.2.2.2;let y0:Tree StopX:=.req true (.req (true) (.req true (.node (unOk f.ma f.pos.2.2.2) (.node (!f.back) (.leaf (.fin (.ret (.int .i64 0) [some (.cells (Fw.cells {f with homed:=true,pos:=y3,loc:=(0,0,0),e:=y5}))]))) (.req true (.req (true) (.req true (.leaf (.at y4 148 y2 [some (.cells (Fw.cells {f with homed:=true,pos:=y3,loc:=(0,0,0),e:=y5,back:=false}))])))))) (.node (!f.back) (.leaf (.fin (.ret (.int .i64 0) [some (.cells (Fw.cells {f with homed:=true,pos:=y3,loc:=(0,0,0),e:=0}))]))) (.req true (.req (true) (.req true (.leaf (.at y4 148 y2 [some (.cells (Fw.cells {f with homed:=true,pos:=y3,loc:=(0,0,0),e:=0,back:=false}))]))))))))); .node (!idleB f) (.leaf (.fin (.ret (.int .i64 18) [some (.cells (Fw.cells f))]))) (.node (f.mode != 1) (.leaf (.fin (.ret (.int .i64 14) [some (.cells (Fw.cells f))]))) (.node (line==0) (.node (f.homed) (.req true (.req (true) (.req true (.node (unOk f.ma f.pos.2.2.2) (.req true (.req (true) (.req true (.leaf (.at y4 148 y1 [some (.cells (Fw.cells {f with homed:=true,pos:=y3,loc:=(0,0,0),e:=y5,back:=false,ret:=f.pos}))]))))) (.req true (.req (true) (.req true (.leaf (.at y4 148 y1 [some (.cells (Fw.cells {f with homed:=true,pos:=y3,loc:=(0,0,0),e:=0,back:=false,ret:=f.pos}))]))))))))) y0) y0))
theorem hm0(f:Fw)(line:Int)(c:Gc.C):segX (Env.ofB Tryz.prog (sumOf [fIdle,fUni,fPos]) (wrOf []) (pnOf [BFact.toP bAdd]) (bxOf [bAdd]) (rdOf []) (rdOf []) (rdOf []) (rdOf [])) 1000 (fnOf Tryz.prog 148) 1 (keepS 148 [0,115,116]) (codeS Tryz.prog 148) hm0_p (startS Tryz.prog 148 [.ptr 0 0,I64 line,c.sv]) [some (.cells f.cells)] =hm0_t f line c:=by kernel_rfl
def hm1_p:Plan:=.lit (.fork (.all) (.fork (.lit (.all)) (.lit (.all))))
noncomputable def hm1_t(g:Fw)(c d:V4):Tree StopX:= .req (true) (.node (c.1==0&& (c.2.1==0&& (c.2.2.1==0&& (c.2.2.2==0&&true)))) (.leaf (.at (loopOf Tryz.prog 148 0) 148 (slotsS 148 [(0,.ptr 0 0),(115,.agg [.int .i64 c.1,.int .i64 c.2.1,.int .i64 c.2.2.1,.int .i64 c.2.2.2,.int .i64 d.1,.int .i64 d.2.1,.int .i64 d.2.2.1,.int .i64 d.2.2.2]),(116,.int .i64 1)]) [some (.cells (Fw.cells g))])) (.req (addPre g c 0) (.node (addOk g c 0) (.leaf (.at (loopOf Tryz.prog 148 0) 148 (slotsS 148 [(0,.ptr 0 0),(115,.agg [.int .i64 c.1,.int .i64 c.2.1,.int .i64 c.2.2.1,.int .i64 c.2.2.2,.int .i64 d.1,.int .i64 d.2.1,.int .i64 d.2.2.1,.int .i64 d.2.2.2]),(116,.int .i64 1)]) [some (.cells (Fw.cells (addF g c 0 0)))])) (.leaf (.fin (.ret (.int .i64 2) [some (.cells (Fw.cells g))]))))))
theorem hm1(g:Fw)(c d:V4):segX (Env.ofB Tryz.prog (sumOf [fIdle,fUni,fPos]) (wrOf []) (pnOf [BFact.toP bAdd]) (bxOf [bAdd]) (rdOf []) (rdOf []) (rdOf []) (rdOf [])) 1000 (fnOf Tryz.prog 148) 1 (keepS 148 [0,115,116]) (loopOf Tryz.prog 148 0) hm1_p (slotsS 148 [(0,.ptr 0 0),(115,.agg (V4.cells c++V4.cells d)),(116,I64 0)]) [some (.cells g.cells)] =hm1_t g c d:=by kernel_rfl
def hm2_p:Plan:=.lit (.fork (.all) (.fork (.lit (.all)) (.lit (.all))))
noncomputable def hm2_t(g:Fw)(c d:V4):Tree StopX:= .req (true) (.node (d.1==0&& (d.2.1==0&& (d.2.2.1==0&& (d.2.2.2==0&&true)))) (.leaf (.at (loopOf Tryz.prog 148 0) 148 (slotsS 148 [(0,.ptr 0 0),(115,.agg [.int .i64 c.1,.int .i64 c.2.1,.int .i64 c.2.2.1,.int .i64 c.2.2.2,.int .i64 d.1,.int .i64 d.2.1,.int .i64 d.2.2.1,.int .i64 d.2.2.2]),(116,.int .i64 2)]) [some (.cells (Fw.cells g))])) (.req (addPre g d 0) (.node (addOk g d 0) (.leaf (.at (loopOf Tryz.prog 148 0) 148 (slotsS 148 [(0,.ptr 0 0),(115,.agg [.int .i64 c.1,.int .i64 c.2.1,.int .i64 c.2.2.1,.int .i64 c.2.2.2,.int .i64 d.1,.int .i64 d.2.1,.int .i64 d.2.2.1,.int .i64 d.2.2.2]),(116,.int .i64 2)]) [some (.cells (Fw.cells (addF g d 0 0)))])) (.leaf (.fin (.ret (.int .i64 2) [some (.cells (Fw.cells g))]))))))
theorem hm2(g:Fw)(c d:V4):segX (Env.ofB Tryz.prog (sumOf [fIdle,fUni,fPos]) (wrOf []) (pnOf [BFact.toP bAdd]) (bxOf [bAdd]) (rdOf []) (rdOf []) (rdOf []) (rdOf [])) 1000 (fnOf Tryz.prog 148) 1 (keepS 148 [0,115,116]) (loopOf Tryz.prog 148 0) hm2_p (slotsS 148 [(0,.ptr 0 0),(115,.agg (V4.cells c++V4.cells d)),(116,I64 1)]) [some (.cells g.cells)] =hm2_t g c d:=by kernel_rfl
def hm3_p:Plan:=.lit (.all)
noncomputable def hm3_t(g:Fw)(c d:V4):Tree StopX:= .req (g.ma.ok&&near4 g.ret) (.leaf (.fin (.ret (.int .i64 0) [some (.cells (Fw.cells {g with loc:=((posV g.ma g.ret).1,(posV g.ma g.ret).2.1,(posV g.ma g.ret).2.2.1)}))])))
theorem hm3(g:Fw)(c d:V4):segX (Env.ofB Tryz.prog (sumOf [fIdle,fUni,fPos]) (wrOf []) (pnOf [BFact.toP bAdd]) (bxOf [bAdd]) (rdOf []) (rdOf []) (rdOf []) (rdOf [])) 1000 (fnOf Tryz.prog 148) 1 (keepS 148 [0,115,116]) (loopOf Tryz.prog 148 0) hm3_p (slotsS 148 [(0,.ptr 0 0),(115,.agg (V4.cells c++V4.cells d)),(116,I64 2)]) [some (.cells g.cells)] =hm3_t g c d:=by kernel_rfl
theorem plB_len(l:List Bk)(g:Nat→Int):(plB l g).length=l.length:=by simp[plB]
theorem plB_get{l:List Bk}{g:Nat→Int}{i:Nat}(h:i<l.length):(plB l g).getD i dBk=setEE (l.getD i dBk) (g i) (g (i+1)):=by
 unfold plB
 rw[List.getD_eq_getElem?_getD,List.getElem?_map,List.getElem?_range h];rfl
theorem soundB_setEE(b:Bk)(x y:Int):soundB (setEE b x y)=soundB b:=rfl
section
variable {g:Fw} {c:V4} {len line:Int}
theorem addF_len:(addF g c len line).queue.length=g.queue.length+1:=by
 show(plB _ _).length=_
 rw[plB_len,addQ_len]
theorem addF_lens(h:g.lines.length=g.queue.length):(addF g c len line).lines.length=(addF g c len line).queue.length:=by
 rw[addF_len];show(g.lines++[line]).length=_;simp[h]
theorem addF_sound(h:addPre g c len=true):∀b∈(addF g c len line).queue,soundB b=true:=fun b hb=>by
 obtain⟨i,hi,e⟩:=getD_of_mem (d:=dBk) hb
 have hi2:i< (addQ g c len).length:=by rw[addF_len]at hi;rw[addQ_len];exact hi
 have e2:=plB_get (g:=gL (addQ g c len) (capsV g.ma (addQ g c len)) (entryV g)) hi2
 rw[←e]
 show soundB ((plB _ _).getD i dBk)=true
 rw[e2,soundB_setEE]
 exact getD_in (p:=fun b=>soundB b=true) (add_plOk h).snd hi2
theorem addF_entry(o:addOk g c len=true):entryV (addF g c len line)=entryV g:=by
 have k:=(addOk_iff.1 o).2
 have hl:(addF g c len line).queue.length=g.queue.length+1:=addF_len
 by_cases hm:g.moving=true
 ·unfold entryV
  rw[show(addF g c len line).moving=g.moving from rfl,if_pos hm,if_pos hm];rfl
 ·have e1:entryV (addF g c len line)=((addF g c len line).queue.getD 0 dBk).2.2.1:=by
   unfold entryV
   rw[show(addF g c len line).moving=g.moving from rfl,if_neg hm,if_neg (by omega)]
  rw[e1]
  show((plB _ _).getD 0 dBk).2.2.1=_
  rw[plB_get (by rw[addQ_len];omega)]
  exact k
theorem addF_pre{d:V4}{len2:Int}(h:addPre g c len=true)(o:addOk g c len=true)(hd:okL g.ma d=true)(hl:ok63 len2=true)(hq:g.queue.length≤900):addPre (addF g c len line) d len2=true:=by
 have p:=addPre_iff.1 h
 exact addPre_iff.2 ⟨hd,hl,p.2.2.1,addF_sound h,addF_lens p.2.2.2.2.1,by rw[addF_len];omega,by rw[addF_entry o];exact p.2.2.2.2.2.2⟩
end
def hE2(g:Fw)(d:V4):Int:=if backOk g d=true then 0 else 2
def hO2(g:Fw)(d:V4):Fw:=if backOk g d=true then {backF g d with loc:=posL g.ma g.ret} else g
def hE1(g:Fw)(c d:V4):Int:=if backOk g c=true then hE2 (backF g c) d else 2
def hO1(g:Fw)(c d:V4):Fw:=if backOk g c=true then hO2 (backF g c) d else g
theorem nzT'(d:V4):(d.1==0&& (d.2.1==0&& (d.2.2.1==0&& (d.2.2.2==0&&true))))=!nz4 d:=by
 unfold nz4;rw[Bool.and_true,Bool.not_not]
theorem kHm:Known Tryz.prog (Env.ofB Tryz.prog (sumOf [fIdle,fUni,fPos]) (wrOf []) (pnOf [BFact.toP bAdd]) (bxOf [bAdd]) (rdOf []) (rdOf []) (rdOf []) (rdOf [])):=
 hB (l:=[fIdle,fUni,fPos]) (k:=[]) (j:=[BFact.toP bAdd]) (i:=[bAdd]) [] [] [] [] ⟨o_idle,o_uni,o_pos,trivial⟩ noneOk (allQ.all (p:=PFact.ok Tryz.prog) (l:=[BFact.toP bAdd]) ⟨BFact.toP_ok o_bAdd,trivial⟩) (allQ.all (p:=BFact.ok Tryz.prog) (l:=[bAdd]) ⟨o_bAdd,trivial⟩)
section
variable {g:Fw} {c d:V4}
theorem backF_yes(h:nz4 c=true):backF g c=addF g c 0 0:=if_pos h
theorem backF_no(h:nz4 c=false):backF g c=g:=if_neg (by rw[h];exact Bool.false_ne_true)
theorem backOk_no(h:nz4 c=false):backOk g c=true:=by unfold backOk;rw[h];rfl
theorem backOk_yes(h:nz4 c=true):backOk g c=addOk g c 0:=by unfold backOk;rw[h];rfl
theorem backF_ma:(backF g c).ma=g.ma:=by unfold backF;split<;>rfl
theorem backF_ret:(backF g c).ret=g.ret:=by unfold backF;split<;>rfl
theorem hm3_run(h:g.ma.ok=true∧near4 g.ret=true):RunsX Tryz.prog (fnOf Tryz.prog 148) [] 1 (.ret (I64 0) [some (.cells ({g with loc:=posL g.ma g.ret}:Fw).cells)]) (loopOf Tryz.prog 148 0) (slotsS 148 [(0,.ptr 0 0),(115,.agg (V4.cells c++V4.cells d)),(116,I64 2)]) [some (.cells g.cells)] :=by
 refine runsX_seg kHm (n:=1000) (keep:=keepS 148 [0,115,116]) (p:=hm3_p) (Nat.le_refl _) ?_
 erw [hm3 g c d]
 unfold hm3_t
 exact⟨by rw[h.1,h.2];rfl,rfl⟩
theorem hm2_run(h:g.ma.ok=true∧near4 g.ret=true)(hd:nz4 d=true→addPre g d 0=true):RunsX Tryz.prog (fnOf Tryz.prog 148) [] 1 (.ret (I64 (hE2 g d)) [some (.cells (hO2 g d).cells)]) (loopOf Tryz.prog 148 0) (slotsS 148 [(0,.ptr 0 0),(115,.agg (V4.cells c++V4.cells d)),(116,I64 1)]) [some (.cells g.cells)] :=by
 refine runsX_seg kHm (n:=1000) (keep:=keepS 148 [0,115,116]) (p:=hm2_p) (Nat.le_refl _) ?_
 erw [hm2 g c d]
 unfold hm2_t
 rw[nzT']
 cases hz:nz4 d
 ·have o:=backOk_no (g:=g) hz
  have e1:hE2 g d=0:=if_pos o
  have e2:hO2 g d={g with loc:=posL g.ma g.ret}:=by unfold hO2;rw[if_pos o,backF_no hz]
  rw[e1,e2]
  exact⟨rfl,fun _=>⟨slotsS_len _ _,hm3_run h⟩,fun k=>by cases k⟩
 ·have o:=backOk_yes (g:=g) hz
  refine⟨rfl,fun k=>(by cases k),fun _=>⟨hd hz,fun a=>⟨slotsS_len _ _,?_⟩,fun a=>?_⟩⟩
  ·have e1:hE2 g d=0:=if_pos (by rw[o,a])
   have e2:hO2 g d={addF g d 0 0 with loc:=posL g.ma g.ret}:=by unfold hO2;rw[if_pos (by rw[o,a]),backF_yes hz]
   rw[e1,e2]
   exact hm3_run (g:=addF g d 0 0) h
  ·have e1:hE2 g d=2:=if_neg (by rw[o,a];exact Bool.false_ne_true)
   have e2:hO2 g d=g:=if_neg (by rw[o,a];exact Bool.false_ne_true)
   rw[e1,e2];rfl
theorem hm1_run(h:g.ma.ok=true∧near4 g.ret=true)(hc:nz4 c=true→addPre g c 0=true)(hd:backOk g c=true→nz4 d=true→addPre (backF g c) d 0=true):RunsX Tryz.prog (fnOf Tryz.prog 148) [] 1 (.ret (I64 (hE1 g c d)) [some (.cells (hO1 g c d).cells)]) (loopOf Tryz.prog 148 0) (slotsS 148 [(0,.ptr 0 0),(115,.agg (V4.cells c++V4.cells d)),(116,I64 0)]) [some (.cells g.cells)] :=by
 refine runsX_seg kHm (n:=1000) (keep:=keepS 148 [0,115,116]) (p:=hm1_p) (Nat.le_refl _) ?_
 erw [hm1 g c d]
 unfold hm1_t
 rw[nzT']
 cases hz:nz4 c
 ·have o:=backOk_no (g:=g) hz
  have e1:hE1 g c d=hE2 g d:=by unfold hE1;rw[if_pos o,backF_no hz]
  have e2:hO1 g c d=hO2 g d:=by unfold hO1;rw[if_pos o,backF_no hz]
  have hd:=hd o
  rw[backF_no hz]at hd
  rw[e1,e2]
  exact⟨rfl,fun _=>⟨slotsS_len _ _,hm2_run h hd⟩,fun k=>by cases k⟩
 ·have o:=backOk_yes (g:=g) hz
  refine⟨rfl,fun k=>(by cases k),fun _=>⟨hc hz,fun a=>⟨slotsS_len _ _,?_⟩,fun a=>?_⟩⟩
  ·have oo:backOk g c=true:=by rw[o,a]
   have e1:hE1 g c d=hE2 (addF g c 0 0) d:=by unfold hE1;rw[if_pos oo,backF_yes hz]
   have e2:hO1 g c d=hO2 (addF g c 0 0) d:=by unfold hO1;rw[if_pos oo,backF_yes hz]
   have hd:=hd oo
   rw[backF_yes hz]at hd
   rw[e1,e2]
   exact hm2_run (g:=addF g c 0 0) h hd
  ·have e1:hE1 g c d=2:=if_neg (by rw[o,a];exact Bool.false_ne_true)
   have e2:hO1 g c d=g:=if_neg (by rw[o,a];exact Bool.false_ne_true)
   rw[e1,e2];rfl
end
def homeO(f:Fw)(line:Int):Fw:=if idleB f=false then f else if ¬f.mode=1 then f else if homeB f line=false then home0 f line else hO1 (home0 f line) (homeC f line) (homeD f line)
theorem okL_of{m:Ma}{c:V4}(hm:m.ok=true)(hn:near4 c=true)(hz:nz4 c=true):okL m c=true:=okL_iff.2 ⟨hm,by unfold okC;rw[hn,hz];rfl⟩
section
variable {f:Fw} {line:Int}
theorem homeR_near(v:VF f):near4 (homeR f line)=true:=by
 unfold homeR
 split
 ·exact v.pos
 ·exact v.ret
theorem homeC_near(v:VF f):near4 (homeC f line)=true:=by
 have r:=near4_iff.1 (homeR_near (line:=line) v)
 exact near4_iff.2 (by unfold homeC;dsimp only;omega)
theorem homeD_near(v:VF f):near4 (homeD f line)=true:=by
 have r:=near4_iff.1 (homeR_near (line:=line) v)
 exact near4_iff.2 (by unfold homeD;dsimp only;omega)
theorem home_pre(v:VF f)(hi:idleB f=true){c:V4}(hn:near4 c=true)(hz:nz4 c=true):addPre (home0 f line) c 0=true:=by
 obtain⟨i1,i2,i3⟩:=idleB_iff.1 hi
 have n:=v.nums
 have en:entryV (home0 f line)=0:=by
  unfold entryV
  rw[if_neg (show ¬(home0 f line).moving=true by show ¬f.moving=true;rw[i1];exact Bool.false_ne_true),if_pos (show(home0 f line).queue.length=0 from i2)]
 exact addPre_iff.2 ⟨okL_of v.ma hn hz,by decide,ok63_iff.2 (show -9223372036854775808≤f.feed∧f.feed≤9223372036854775807 by omega),v.sound,v.lens,(show f.queue.length≤1000 by omega),by omega,by omega⟩
theorem home_pre2(v:VF f)(hi:idleB f=true)(o:backOk (home0 f line) (homeC f line)=true)(hz:nz4 (homeD f line)=true):addPre (backF (home0 f line) (homeC f line)) (homeD f line) 0=true:=by
 obtain⟨i1,i2,i3⟩:=idleB_iff.1 hi
 cases hc:nz4 (homeC f line)with
 |false=>rw[backF_no hc];exact home_pre v hi (homeD_near v) hz
 |true=>
  rw[backF_yes hc]
  rw[backOk_yes hc]at o
  exact addF_pre (home_pre v hi (homeC_near v) hc) o (okL_of v.ma (homeD_near v) hz) (by decide) (show f.queue.length≤900 by omega)
theorem hm_at(v:VF f)(hi:idleB f=true)(hm:f.mode=1)(hb:homeB f line=true){g:Fw}{c d:V4}(hg:home0 f line=g)(hc:homeC f line=c)(hd:homeD f line=d):
  RunsX Tryz.prog (fnOf Tryz.prog 148) [] 1 (.ret (I64 (homeA f line)) [some (.cells (homeO f line).cells)]) (loopOf Tryz.prog 148 0) (slotsS 148 [(0,.ptr 0 0),(115,.agg (V4.cells c++V4.cells d)),(116,I64 0)]) [some (.cells g.cells)] :=by
 have n1:¬idleB f=false:=by rw[hi];decide
 have n2:¬¬f.mode=1:=fun k=>k hm
 have n3:¬homeB f line=false:=by rw[hb];decide
 have eO:homeO f line=hO1 (home0 f line) (homeC f line) (homeD f line):=by unfold homeO;rw[if_neg n1,if_neg n2,if_neg n3]
 have eA:homeA f line=hE1 (home0 f line) (homeC f line) (homeD f line):=by
  unfold homeA homeX hE1 hE2
  rw[if_neg n1,if_neg n2,if_neg n3]
  cases backOk (home0 f line) (homeC f line)<;>cases backOk (backF (home0 f line) (homeC f line)) (homeD f line)<;>rfl
 rw[eO,eA]
 subst hg hc hd
 exact hm1_run ⟨v.ma,homeR_near v⟩ (fun hz=>home_pre v hi (homeC_near v) hz) fun o hz=>home_pre2 v hi o hz
theorem hm_no(hi:idleB f=true)(hm:f.mode=1)(hb:homeB f line=false):homeA f line=0∧homeO f line=home0 f line:=by
 have n1:¬idleB f=false:=by rw[hi];decide
 have n2:¬¬f.mode=1:=fun k=>k hm
 unfold homeA homeX homeO
 rw[if_neg n1,if_neg n2,if_pos hb,if_neg n1,if_neg n2,if_pos hb]
 exact⟨rfl,rfl⟩
theorem homeB_iff:homeB f line=true↔(line=0∧f.homed=true)∨f.back=true:=by simp only[homeB,Bool.or_eq_true,Bool.and_eq_true,beq_iff_eq]
theorem home0_eq{r:V4}{e:Int}(hr:homeR f line=r)(he:homeE f=e):home0 f line={f with ret:=r,back:=false,pos:=(0,0,0,f.pos.2.2.2),homed:=true,loc:=(0,0,0),e:=e}:=by subst hr he;rfl
theorem homeC_eq{r:V4}(hr:homeR f line=r):homeC f line=(0,0,r.2.2.1,0):=by subst hr;rfl
theorem homeD_eq{r:V4}(hr:homeR f line=r):homeD f line=(r.1,r.2.1,0,0):=by subst hr;rfl
set_option maxHeartbeats 4000000 in
theorem s_home(c:Gc.C)(h:validF f=true):FCall Tryz.prog 148 [I64 line,c.sv] f (I64 (homeA f line),homeO f line):=by
 have v:=vf_of h
 refine fcall_runs (cs:=(homeO f line).cells) (by kernel_rfl) rfl rfl rfl (NilLs.refl _) (runsX_seg kHm (n:=1000) (keep:=keepS 148 [0,115,116]) (p:=hm0_p) (Nat.le_refl _) ?_)
 have q:=hm0 f line c
 unfold startS codeS at q
 erw [q]
 unfold hm0_t
 cases hi:idleB f
 ·have eA:homeA f line=18:=if_pos hi
  have eO:homeO f line=f:=if_pos hi
  rw[eA,eO]
  exact⟨fun _=>rfl,fun k=>by cases k⟩
 refine⟨fun k=>(by cases k),fun _=>⟨fun k=>?_,fun k=>?_⟩⟩
 ·have k:=bne_iff_ne.1 k
  have n1:¬idleB f=false:=by rw[hi];decide
  have eA:homeA f line=14:=by unfold homeA;rw[if_neg n1,if_pos k]
  have eO:homeO f line=f:=by unfold homeO;rw[if_neg n1,if_pos k]
  rw[eA,eO];rfl
 have hm:f.mode=1:=bne_eq_false_iff_eq.1 k
 have eE:∀b,unOk f.ma f.pos.2.2.2=b→homeE f=(if b=true then unitsN f.ma.e f.pos.2.2.2 else 0):=fun b hb=>by unfold homeE;rw[hb]
 have rNo:¬(line=0∧f.homed=true)→homeR f line=f.ret:=fun n=>if_neg n
 have rYes:line=0∧f.homed=true→homeR f line=f.pos:=fun n=>if_pos n
 have bNo:¬(line=0∧f.homed=true)→f.back=false→homeB f line=false:=fun n b=>by
  rw[Bool.eq_false_iff,ne_eq,homeB_iff];rintro (k|k)
  ·exact n k
  ·rw[b]at k;cases k
 -- with the nozzle to be led back, and without
 have fin:∀e,homeE f=e→¬(line=0∧f.homed=true)→f.back=false→Fin.ret (SV.int IntKind.i64 0) [some (Box.cells (Fw.cells {f with homed:=true,pos:=(0,0,0,f.pos.2.2.2),loc:=(0,0,0),e:=e}))] =.ret (I64 (homeA f line)) [some (.cells (homeO f line).cells)] :=fun e he n b=>by
  obtain⟨eA,eO⟩:=hm_no hi hm (bNo n b)
  rw[eA,eO,home0_eq (rNo n) he,←b];rfl
 refine⟨fun l=>⟨fun o=>⟨rfl,rfl,rfl,fun u=>⟨rfl,rfl,rfl,slotsS_len _ _,?_⟩,fun u=>⟨rfl,rfl,rfl,slotsS_len _ _,?_⟩⟩,fun o=>⟨rfl,rfl,rfl,fun u=>⟨fun b=>?_,fun b=>⟨rfl,rfl,rfl,slotsS_len _ _,?_⟩⟩,fun u=>⟨fun b=>?_,fun b=>⟨rfl,rfl,rfl,slotsS_len _ _,?_⟩⟩⟩⟩,fun l=>⟨rfl,rfl,rfl,fun u=>⟨fun b=>?_,fun b=>⟨rfl,rfl,rfl,slotsS_len _ _,?_⟩⟩,fun u=>⟨fun b=>?_,fun b=>⟨rfl,rfl,rfl,slotsS_len _ _,?_⟩⟩⟩⟩
 ·have r:=rYes ⟨beq_iff_eq.1 l,o⟩
  exact hm_at v hi hm (homeB_iff.2 (.inl ⟨beq_iff_eq.1 l,o⟩)) (home0_eq r (eE _ u)) (homeC_eq r) (homeD_eq r)
 ·have r:=rYes ⟨beq_iff_eq.1 l,o⟩
  exact hm_at v hi hm (homeB_iff.2 (.inl ⟨beq_iff_eq.1 l,o⟩)) (home0_eq r (eE _ u)) (homeC_eq r) (homeD_eq r)
 ·exact fin _ (eE _ u) (fun n=>by rw[o]at n;cases n.2) (by simpa using b)
 ·have r:=rNo (fun n=>by rw[o]at n;cases n.2)
  exact hm_at v hi hm (homeB_iff.2 (.inr (by simpa using b))) (home0_eq r (eE _ u)) (homeC_eq r) (homeD_eq r)
 ·exact fin _ (eE _ u) (fun n=>by rw[o]at n;cases n.2) (by simpa using b)
 ·have r:=rNo (fun n=>by rw[o]at n;cases n.2)
  exact hm_at v hi hm (homeB_iff.2 (.inr (by simpa using b))) (home0_eq r (eE _ u)) (homeC_eq r) (homeD_eq r)
 ·exact fin _ (eE _ u) (fun n=>beq_eq_false_iff_ne.1 l n.1) (by simpa using b)
 ·have r:=rNo (fun n=>beq_eq_false_iff_ne.1 l n.1)
  exact hm_at v hi hm (homeB_iff.2 (.inr (by simpa using b))) (home0_eq r (eE _ u)) (homeC_eq r) (homeD_eq r)
 ·exact fin _ (eE _ u) (fun n=>beq_eq_false_iff_ne.1 l n.1) (by simpa using b)
 ·have r:=rNo (fun n=>beq_eq_false_iff_ne.1 l n.1)
  exact hm_at v hi hm (homeB_iff.2 (.inr (by simpa using b))) (home0_eq r (eE _ u)) (homeC_eq r) (homeD_eq r)
end
noncomputable def wHome:WFact:=wfact 148 fun f rest=>match rest with
 |[.int .i64 line,.agg [.int .i64 a0,.int .i64 a1,.int .i64 a2,.int .i64 a3,.int .i64 a4,.int .i64 a5,.int .i64 a6,.int .i64 a7]] =>some (.req (validF f) (.leaf (I64 (homeA f line),homeO f line)))
 |_=>none
theorem o_wHome:wHome.ok Tryz.prog:=wfact_ok fun f rest t ht=>by
 split at ht
 ·injection ht with ht;subst ht;exact fun h=>s_home ⟨_,_,_,_,_,_,_,_⟩ h
 ·cases ht
theorem rnd_le{a b e:Int}(hb:1≤b)(h:a≤e*b):rnd a b≤e:=by
 have m:=mod_rng (a:=a) hb
 have d:=Int.mul_ediv_add_emod a b
 have h1:a / b≤e:=Int.ediv_le_of_le_mul (by omega) h
 unfold rnd
 split
 ·rename_i k
  by_cases q:a / b=e
  ·rw[q]at d
   have:=Int.mul_comm b e
   omega
  ·omega
 ·exact h1
theorem le_rnd{a b e:Int}(hb:1≤b)(h:e*b≤a):e≤rnd a b:=by
 have h1:e≤a / b:=Int.le_ediv_of_mul_le (by omega) h
 unfold rnd;split<;>omega
theorem units_abs{a:Ax}{p M:Int}(h:a.ok=true)(hM:0≤M)(hp: -M≤p∧p≤M): -M≤unitsN a p∧unitsN a p≤M:=by
 have o:=(Ax.ok_iff a).1 h
 unfold unitsN
 have k:=Int.mul_le_mul_of_nonneg_left (show a.den≤a.num by omega) hM
 have u1:=Int.mul_le_mul_of_nonneg_right hp.2 (show 0≤a.den by omega)
 have u2:=Int.mul_le_mul_of_nonneg_right hp.1 (show 0≤a.den by omega)
 rw[Int.neg_mul]at u2
 exact⟨le_rnd (by omega) (by rw[Int.neg_mul];omega),rnd_le (by omega) (by omega)⟩
theorem steps_abs{a:Ax}{p M:Int}(h:a.ok=true)(hM:0≤M)(hs: -M≤stepsN a p∧stepsN a p≤M): -M≤p∧p≤M:=by
 have o:=(Ax.ok_iff a).1 h
 unfold stepsN at hs
 constructor
 ·rcases Int.lt_or_le p (-M)with k|k
  ·exfalso
   have u1:=Int.mul_le_mul_of_nonneg_right (show p≤-(M+1) by omega) (show 0≤a.num by omega)
   have u2:=Int.mul_le_mul_of_nonneg_left (show a.den≤a.num by omega) (show 0≤M+1 by omega)
   have:=rnd_le (a:=p*a.num) (b:=a.den) (e:= -(M+1)) (by omega) (by rw[Int.neg_mul]at u1 ⊢;omega)
   omega
  ·exact k
 ·rcases Int.lt_or_le M p with k|k
  ·exfalso
   have u1:=Int.mul_le_mul_of_nonneg_right (show M+1≤p by omega) (show 0≤a.num by omega)
   have u2:=Int.mul_le_mul_of_nonneg_left (show a.den≤a.num by omega) (show 0≤M+1 by omega)
   have:=le_rnd (a:=p*a.num) (b:=a.den) (e:=M+1) (by omega) (by omega)
   omega
  ·exact k
theorem posV_rng{m:Ma}{p:V4}(hm:m.ok=true)(hp:near4 p=true):(-16777216≤(posV m p).1∧(posV m p).1≤16777216)∧(-16777216≤(posV m p).2.1∧(posV m p).2.1≤16777216)∧(-16777216≤(posV m p).2.2.1∧(posV m p).2.2.1≤16777216)∧-16777216≤(posV m p).2.2.2∧(posV m p).2.2.2≤16777216:=by
 have o:=(Ma.ok_iff m).1 hm
 have n:=near4_iff.1 hp
 have un:(-16777216≤(unco m.xy p).1∧(unco m.xy p).1≤16777216)∧(-16777216≤(unco m.xy p).2.1∧(unco m.xy p).2.1≤16777216)∧(unco m.xy p).2.2=p.2.2:=by
  unfold unco;split
  ·dsimp only;exact⟨by omega,by omega,rfl⟩
  ·exact⟨n.1,n.2.1,rfl⟩
 unfold posV;dsimp only
 exact⟨units_abs o.1 (by omega) un.1,units_abs o.2.1 (by omega) un.2.1,units_abs o.2.2.1 (by omega) (by rw[un.2.2];exact n.2.2.1),units_abs o.2.2.2.1 (by omega) (by rw[un.2.2];exact n.2.2.2)⟩
theorem homeE_rng{f:Fw}(hm:f.ma.ok=true)(hp:near4 f.pos=true): -16777216≤homeE f∧homeE f≤16777216:=by
 unfold homeE;split
 ·exact units_abs ((Ma.ok_iff _).1 hm).2.2.2.1 (by omega) (near4_iff.1 hp).2.2.2
 ·omega
theorem mot_e{m:Ma}{u:V3}{e:Int}(hm:m.ok=true)(h:near4 (motV m u e)=true): -16777216≤e∧e≤16777216:=by
 have o:=(Ma.ok_iff m).1 hm
 have n:=(near4_iff.1 h).2.2.2
 refine steps_abs o.2.2.2.1 (by omega) ?_
 have:(motV m u e).2.2.2=stepsN m.e e:=by unfold motV core;split<;>rfl
 rw[this]at n;exact n
section
variable {l:List Bk} {caps:List Int} {e:Int}
theorem gL_pick(h:PlOk l caps e)(he:e≤crL l 0)(h0:gL l caps e 0=e):Pick (crL l) (capL caps) (reL l) e l.length (gL l caps e):=
 (pick_iff h.lim he (fun i=>(h.crR i).1) (grt_sol h.lim h0) fun x hx i hi=>by
   rcases Nat.eq_zero_or_pos i with rfl|hp
   ·rw[hx.first];exact Int.le_of_eq h0.symm
   ·exact sol_le_grt h.lim hx _ i rfl hp hi).1.2 h0
theorem plB_valid(h:PlOk l caps e)(he:e≤crL l 0)(h0:gL l caps e 0=e){i:Nat}(hi:i<l.length):validB ((plB l (gL l caps e)).getD i dBk)=true:=by
 have p:=gL_pick h he h0
 have s:soundB (l.getD i dBk)=true:=getD_in h.snd hi
 have s1:=soundB_iff.1 s
 have a:=p.2.2 i (by omega)
 have b:=p.2.2 (i+1) (by omega)
 have a2:=a.2.1 hi
 have b2:=b.2.2.1 (by omega)
 have a1:=a.1
 have b1:=b.1
 rw[plB_get hi]
 rw[show i+1-1=i by omega]at b2
 unfold crL at a2 b2
 exact validB_iff.2 ⟨s1,⟨a1,a2⟩,b1,b2⟩
theorem posAt_congr{p:V4}{q r:List Bk}:∀n,(∀i,i<n→(q.getD i dBk).1=(r.getD i dBk).1)→posAt p q n=posAt p r n
 |0,_=>rfl
 |n+1,h=>by
  show add4 (posAt p q n) (q.getD n dBk).1=add4 (posAt p r n) (r.getD n dBk).1
  rw[posAt_congr n fun i hi=>h i (by omega),h n (by omega)]
end
section
variable {g:Fw} {d:V4} {len line:Int}
theorem addQ_old{i:Nat}(h:i<g.queue.length):(addQ g d len).getD i dBk=g.queue.getD i dBk:=by
 unfold addQ
 rw[List.getD_eq_getElem?_getD,List.getElem?_append_left h,←List.getD_eq_getElem?_getD]
theorem addQ_new:(addQ g d len).getD g.queue.length dBk=newB g.ma d len g.feed:=by
 unfold addQ
 rw[List.getD_eq_getElem?_getD,List.getElem?_append_right (Nat.le_refl _),Nat.sub_self];rfl
theorem addF_cnt{i:Nat}(h:i<g.queue.length+1):((addF g d len line).queue.getD i dBk).1=((addQ g d len).getD i dBk).1:=by
 show((plB _ _).getD i dBk).1=_
 rw[plB_get (by rw[addQ_len];exact h)];rfl
theorem addF_posAt{p:V4}{i:Nat}(h:i≤g.queue.length):posAt p (addF g d len line).queue i=posAt p g.queue i:=
 posAt_congr i fun k hk=>by rw[addF_cnt (by omega),addQ_old (by omega)]
theorem addF_posN{p:V4}:posAt p (addF g d len line).queue (g.queue.length+1)=add4 (posAt p g.queue g.queue.length) d:=by
 show add4 (posAt p _ g.queue.length) ((addF g d len line).queue.getD g.queue.length dBk).1=_
 rw[addF_posAt (Nat.le_refl _),addF_cnt (by omega),addQ_new];rfl
theorem add_goal:goal4 (addF g d len line)=add4 (goal4 g) d:=by
 unfold goal4
 rw[addF_len]
 exact addF_posN
theorem lines_get{i:Nat}(hl:g.lines.length=g.queue.length):(addF g d len line).lines.getD i 0=if i<g.queue.length then g.lines.getD i 0 else if i=g.queue.length then line else 0:=by
 show(g.lines++[line]).getD i 0=_
 rw[List.getD_eq_getElem?_getD]
 split
 ·rw[List.getElem?_append_left (by omega),←List.getD_eq_getElem?_getD]
 ·split
  ·rename_i h;subst h
   rw[List.getElem?_append_right (by omega),hl,Nat.sub_self];rfl
  ·rw[List.getElem?_eq_none (by simp;omega)];rfl
theorem add_queued(hq:queuedB g=true)(hp:addPre g d len=true)(ho:addOk g d len=true)(hl:g.queue.length<32)(hn:near4 (add4 (goal4 g) d)=true)(hr:0≤line∧line≤1099511627776):queuedB (addF g d len line)=true:=by
 obtain⟨q1,q2,q3,q4,q5,q6,q7⟩:=queuedB_iff.1 hq
 refine queuedB_iff.2 ⟨by rw[addF_len];omega,addF_lens q2,q3,q4,q5,q6,fun i hi=>?_⟩
 rw[addF_len]at hi
 have o:=addOk_iff.1 ho
 refine blkOK_iff.2 ⟨plB_valid (add_plOk hp) o.1 o.2 (by rw[addQ_len];exact hi),?_,?_⟩
 ·rw[lines_get q2]
  split
  ·exact(blk_use (q7 i (by assumption))).2.1
  ·split<;>omega
 ·show near4 (posAt (queue0 g) (addF g d len line).queue (i+1))=true
  rcases Nat.lt_or_ge i g.queue.length with k|k
  ·rw[addF_posAt (by omega)];exact(blk_use (q7 i k)).2.2
  ·obtain rfl:i=g.queue.length:=by omega
   rw[addF_posN];exact hn
end
def stopPre(f:Fw)(line:Int):Bool:=shapeB f&&inR line 0 1099511627776
theorem stopPre_iff{f:Fw}{line:Int}:stopPre f line=true↔shapeB f=true∧0≤line∧line≤1099511627776:=by simp only[stopPre,Bool.and_eq_true,inR_iff]
theorem lineF_no{f:Fw}{line:Int}(h:line=0):lineF f line=f:=if_pos h
theorem lineF_yes{f:Fw}{line:Int}(h:¬line=0):lineF f line={f with line:=line}:=if_neg h
theorem shape_line{f:Fw}{line:Int}(h:shapeB f=true)(hl:0≤line∧line≤1099511627776):shapeB {f with line:=line}=true:=by
 have s:=shapeB_iff.1 h
 exact shapeB_iff.2 ⟨s.1,s.2.1,s.2.2.1,hl,s.2.2.2.2⟩
def resO(f:Fw):Fw:=if ¬f.mode=3 then f else if resOk f.g0 f.r0=false then f else if resOk f.g1 f.r1=false then {f with g0:=resG f.g0 f.r0} else resF f
def pauE(f:Fw)(c:Gc.C):Int:=if c.code=1024 then(if f.mode=2 then 0 else 14)else(if f.mode=1 then 0 else 14)
def pauF(f:Fw)(c:Gc.C):Fw:=if c.code=1024 then(if f.mode=2 then {f with mode:=1} else f)else(if f.mode=1 then {f with mode:=2} else f)
def dweE(f:Fw):Int:=if idleB f=true then 0 else 18
def dweF(f:Fw)(c:Gc.C):Fw:=if idleB f=true then {f with dwell:=c.s} else f
def bedB(c:Gc.C):Bool:=c.code==1140||c.code==1190
def waiB(c:Gc.C):Bool:=c.code==1109||c.code==1190
def heaE(f:Fw)(c:Gc.C):Int:=if bedB c=true then(if aimOk f.c1 c.s=true then 0 else 1)else(if aimOk f.c0 c.s=true then 0 else 1)
def heaG(f:Fw)(c:Gc.C):Fw:=if bedB c=true then {f with c1:=f.c1.aim c.s} else {f with c0:=f.c0.aim c.s}
def heaW(f:Fw)(c:Gc.C):Int:=if waiB c=true then(if bedB c=true then orB f.waits 2 else orB f.waits 1)else f.waits
def heaF(f:Fw)(c:Gc.C):Fw:=if heaE f c=0 then {heaG f c with waits:=heaW f c} else f
def s_stp_x_p:Plan:=.fork (.go (.lit (.go (.lit (.go (.lit (.all))))))) (.go (.lit (.go (.lit (.go (.lit (.all)))))))
noncomputable def s_stp_x_t(f:Fw)(line:Int)(c:Gc.C):Tree StopX:= .node (decide (line>0)) (.req true (.req (true) (.req true (.req (true) (.req (shapeB ({f with g0:=f.g0.stop,g1:=f.g1.stop,line:=line})) (.leaf (.fin (.ret (.int .i64 0) [some (.cells (Fw.cells { (loseF ({f with g0:=f.g0.stop,g1:=f.g1.stop,line:=line}))with mode:=3}))])))))))) (.req true (.req (true) (.req true (.req (true) (.req (shapeB ({f with g0:=f.g0.stop,g1:=f.g1.stop})) (.leaf (.fin (.ret (.int .i64 0) [some (.cells (Fw.cells { (loseF ({f with g0:=f.g0.stop,g1:=f.g1.stop}))with mode:=3}))]))))))))
theorem s_stp_x(f:Fw)(line:Int)(c:Gc.C):segX (Env.ofB Tryz.prog (sumOf [fStop]) (wrOf []) (pnOf [BFact.toP bLose]) (bxOf [bLose]) (rdOf []) (rdOf []) (rdOf []) (rdOf [])) 1000 (fnOf Tryz.prog 143) 1 (keepS 39 []) (codeS Tryz.prog 143) s_stp_x_p (startS Tryz.prog 143 [.ptr 0 0,I64 line,c.sv]) [some (.cells f.cells)] =s_stp_x_t f line c:=by kernel_rfl
theorem s_stp(f:Fw)(line:Int)(c:Gc.C)(h:stopPre f line=true):FCall Tryz.prog 143 [I64 line,c.sv] f (I64 0,stopF (lineF f line)):=
 fcall_v (hB (l:=[fStop]) (k:=[]) (j:=[BFact.toP bLose]) (i:=[bLose]) ([] :List Nat) ([] :List Nat) ([] :List Nat) ([] :List Nat) (⟨o_stop,trivial⟩) noneOk (allQ.all (p:=PFact.ok Tryz.prog) (l:=[BFact.toP bLose]) ⟨BFact.toP_ok o_blose,trivial⟩) (allQ.all (p:=BFact.ok Tryz.prog) (l:=[bLose]) ⟨o_blose,trivial⟩)) 1000 s_stp_x_p (keep:=(keepS 39 [])) (t:=s_stp_x_t f line c) (s_stp_x f line c) (by
  unfold s_stp_x_t
  have sp:=stopPre_iff.1 h
  have s1:=sp.1
  have s2:=shape_line sp.1 sp.2
  simp only[Tree.holds,sL,ne_eq,beq_iff_eq,bne_iff_ne,eq_self,beq_eq_false_iff_ne,bne_eq_false_iff_eq,implies_true];(repeat' (first|apply And.intro|intro _));
  all_goals first
   |exact s1
   |exact s2
   |omega
   |(rw[lineF_yes (by omega)];exact ends rfl (NilLs.refl _) rfl)
   |(rw[lineF_no (by omega)];exact ends rfl (NilLs.refl _) rfl)) (by kernel_rfl) (by kernel_rfl) (by kernel_rfl)
noncomputable def wStp:WFact:=wfact 143 fun f rest=>match rest with
 |[.int .i64 line,.agg [.int .i64 a0,.int .i64 a1,.int .i64 a2,.int .i64 a3,.int .i64 a4,.int .i64 a5,.int .i64 a6,.int .i64 a7]] =>some (.req (stopPre f line) (.leaf (I64 0,stopF (lineF f line))))
 |_=>none
theorem o_wstp:wStp.ok Tryz.prog:=wfact_ok fun f rest t ht=>by
 split at ht
 ·injection ht with ht;subst ht;exact fun h=>s_stp f _ ⟨_,_,_,_,_,_,_,_⟩ h
 ·cases ht
def s_rst_x_p:Plan:=.fork (.all) (.go (.lit (.fork (.go (.lit (.fork (.go (.lit (.all))) (.fork (.lit (.go (.lit (.all)))) (.fork (.all) (.go (.lit (.all)))))))) (.fork (.lit (.go (.lit (.fork (.go (.lit (.all))) (.fork (.lit (.go (.lit (.all)))) (.fork (.all) (.go (.lit (.all))))))))) (.fork (.all) (.go (.lit (.fork (.go (.lit (.all))) (.fork (.lit (.go (.lit (.all)))) (.fork (.all) (.go (.lit (.all)))))))))))))
noncomputable def s_rst_x_t(f:Fw)(line:Int)(c:Gc.C):Tree StopX:= .node (f.mode != 3) (.leaf (.fin (.ret (.int .i64 14) [some (.cells (Fw.cells f))]))) (.req true (.node (f.g0.fault==0) (.req true (.node (f.g1.fault==0) (.leaf (.fin (.ret (.int .i64 0) [some (.cells (Fw.cells {f with mode:=1}))]))) (.req true (.node (decide (f.g1.resE f.r1=0)) (.req true (.leaf (.fin (.ret (.int .i64 0) [some (.cells (Fw.cells {f with mode:=1,g1:=(f.g1.rest f.r1)}))])))) (.node (f.g1.resE f.r1 != 0) (.leaf (.fin (.ret (.int .i64 16) [some (.cells (Fw.cells f))]))) (.req true (.leaf (.fin (.ret (.int .i64 0) [some (.cells (Fw.cells {f with mode:=1,g1:=(Gu.mk 0 0 0 0 0 0 0 0 0 0 false)}))]))))))))) (.req true (.node (decide (f.g0.resE f.r0=0)) (.req true (.req (true) (.node (f.g1.fault==0) (.leaf (.fin (.ret (.int .i64 0) [some (.cells (Fw.cells {f with mode:=1,g0:=(f.g0.rest f.r0)}))]))) (.req true (.node (decide (f.g1.resE f.r1=0)) (.req true (.leaf (.fin (.ret (.int .i64 0) [some (.cells (Fw.cells {f with mode:=1,g0:=(f.g0.rest f.r0),g1:=(f.g1.rest f.r1)}))])))) (.node (f.g1.resE f.r1 != 0) (.leaf (.fin (.ret (.int .i64 16) [some (.cells (Fw.cells {f with g0:=(f.g0.rest f.r0)}))]))) (.req true (.leaf (.fin (.ret (.int .i64 0) [some (.cells (Fw.cells {f with mode:=1,g0:=(f.g0.rest f.r0),g1:=(Gu.mk 0 0 0 0 0 0 0 0 0 0 false)}))])))))))))) (.node (f.g0.resE f.r0 != 0) (.leaf (.fin (.ret (.int .i64 16) [some (.cells (Fw.cells f))]))) (.req true (.req (true) (.node (f.g1.fault==0) (.leaf (.fin (.ret (.int .i64 0) [some (.cells (Fw.cells {f with mode:=1,g0:=(Gu.mk 0 0 0 0 0 0 0 0 0 0 false)}))]))) (.req true (.node (decide (f.g1.resE f.r1=0)) (.req true (.leaf (.fin (.ret (.int .i64 0) [some (.cells (Fw.cells {f with mode:=1,g0:=(Gu.mk 0 0 0 0 0 0 0 0 0 0 false),g1:=(f.g1.rest f.r1)}))])))) (.node (f.g1.resE f.r1 != 0) (.leaf (.fin (.ret (.int .i64 16) [some (.cells (Fw.cells {f with g0:=(Gu.mk 0 0 0 0 0 0 0 0 0 0 false)}))]))) (.req true (.leaf (.fin (.ret (.int .i64 0) [some (.cells (Fw.cells {f with mode:=1,g0:=(Gu.mk 0 0 0 0 0 0 0 0 0 0 false),g1:=(Gu.mk 0 0 0 0 0 0 0 0 0 0 false)}))])))))))))))))))
theorem s_rst_x(f:Fw)(line:Int)(c:Gc.C):segX (Env.ofB Tryz.prog (sumOf [fReset]) (wrOf []) (pnOf []) (bxOf []) (rdOf []) (rdOf []) (rdOf []) (rdOf [])) 1000 (fnOf Tryz.prog 144) 1 (keepS 55 []) (codeS Tryz.prog 144) s_rst_x_p (startS Tryz.prog 144 [.ptr 0 0,I64 line,c.sv]) [some (.cells f.cells)] =s_rst_x_t f line c:=by kernel_rfl
theorem s_rst(f:Fw)(line:Int)(c:Gc.C):FCall Tryz.prog 144 [I64 line,c.sv] f (I64 (resE f),resO f):=
 fcall_v (hB (l:=[fReset]) (k:=[]) (j:=[]) (i:=[]) ([] :List Nat) ([] :List Nat) ([] :List Nat) ([] :List Nat) (⟨o_reset,trivial⟩) noneOk noneOk noneOk) 1000 s_rst_x_p (keep:=(keepS 55 [])) (t:=s_rst_x_t f line c) (s_rst_x f line c) (by
  unfold s_rst_x_t
  have a:=resOk_iff (g:=f.g0) (r:=f.r0)
  have b:=resOk_iff (g:=f.g1) (r:=f.r1)
  have m3:f.mode=3∨¬f.mode=3:=by omega
  simp only[Tree.holds,sL,ne_eq,beq_iff_eq,bne_iff_ne,eq_self,beq_eq_false_iff_ne,bne_eq_false_iff_eq,implies_true];(repeat' (first|apply And.intro|intro _));
  all_goals first
   |omega
   |(refine ends (sv_int ?_) ?_ rfl
     ·unfold resE;simp_all
     ·first
      |(rw[show resO f=f by unfold resO resG;rw[if_neg (by simp_all),if_neg (by simp_all),if_pos (by simp_all),if_pos (by assumption)]];exact NilLs.refl _)
      |(rw[show resO f=f by unfold resO resF resG;simp_all];exact NilLs.refl _)
      |(rw[show resO f={f with g0:=f.g0.rest f.r0} by unfold resO resF resG;simp_all];exact NilLs.refl _)
      |(rw[show resO f={f with mode:=1} by unfold resO resF resG;simp_all];exact NilLs.refl _)
      |(rw[show resO f={f with g0:=f.g0.rest f.r0,mode:=1} by unfold resO resF resG;simp_all];exact NilLs.refl _)
      |(rw[show resO f={f with g1:=f.g1.rest f.r1,mode:=1} by unfold resO resF resG;simp_all];exact NilLs.refl _)
      |(rw[show resO f={f with g0:=f.g0.rest f.r0,g1:=f.g1.rest f.r1,mode:=1} by unfold resO resF resG;simp_all];exact NilLs.refl _)
     )) (by kernel_rfl) (by kernel_rfl) (by kernel_rfl)
noncomputable def wRst:WFact:=wfact 144 fun f rest=>match rest with
 |[.int .i64 line,.agg [.int .i64 a0,.int .i64 a1,.int .i64 a2,.int .i64 a3,.int .i64 a4,.int .i64 a5,.int .i64 a6,.int .i64 a7]] =>some (.leaf (I64 (resE f),resO f))
 |_=>none
theorem o_wrst:wRst.ok Tryz.prog:=wfact_ok fun f rest t ht=>by
 split at ht
 ·injection ht with ht;subst ht;exact s_rst f _ ⟨_,_,_,_,_,_,_,_⟩
 ·cases ht
def s_pau_x_p:Plan:=.fork (.fork (.all) (.all)) (.fork (.all) (.all))
noncomputable def s_pau_x_t(f:Fw)(line:Int)(c:Gc.C):Tree StopX:= .node (c.code==1024) (.node (f.mode != 2) (.leaf (.fin (.ret (.int .i64 14) [some (.cells (Fw.cells f))]))) (.leaf (.fin (.ret (.int .i64 0) [some (.cells (Fw.cells {f with mode:=1}))])))) (.node (f.mode != 1) (.leaf (.fin (.ret (.int .i64 14) [some (.cells (Fw.cells f))]))) (.leaf (.fin (.ret (.int .i64 0) [some (.cells (Fw.cells {f with mode:=2}))]))))
theorem s_pau_x(f:Fw)(line:Int)(c:Gc.C):segX (Env.ofB Tryz.prog (sumOf []) (wrOf []) (pnOf []) (bxOf []) (rdOf []) (rdOf []) (rdOf []) (rdOf [])) 1000 (fnOf Tryz.prog 145) 1 (keepS 26 []) (codeS Tryz.prog 145) s_pau_x_p (startS Tryz.prog 145 [.ptr 0 0,I64 line,c.sv]) [some (.cells f.cells)] =s_pau_x_t f line c:=by kernel_rfl
theorem s_pau(f:Fw)(line:Int)(c:Gc.C):FCall Tryz.prog 145 [I64 line,c.sv] f (I64 (pauE f c),pauF f c):=
 fcall_v (hB (l:=[]) (k:=[]) (j:=[]) (i:=[]) ([] :List Nat) ([] :List Nat) ([] :List Nat) ([] :List Nat) (trivial) noneOk noneOk noneOk) 1000 s_pau_x_p (keep:=(keepS 26 [])) (t:=s_pau_x_t f line c) (s_pau_x f line c) (by
  unfold s_pau_x_t
  simp only[Tree.holds,sL,ne_eq,beq_iff_eq,bne_iff_ne,eq_self,beq_eq_false_iff_ne,bne_eq_false_iff_eq,implies_true];(repeat' (first|apply And.intro|intro _));
  all_goals first
   |(unfold pauE pauF;simp only[*,if_true,if_false,not_false_eq_true,not_true_eq_false];exact ends rfl (NilLs.refl _) rfl)) (by kernel_rfl) (by kernel_rfl) (by kernel_rfl)
noncomputable def wPau:WFact:=wfact 145 fun f rest=>match rest with
 |[.int .i64 line,.agg [.int .i64 a0,.int .i64 a1,.int .i64 a2,.int .i64 a3,.int .i64 a4,.int .i64 a5,.int .i64 a6,.int .i64 a7]] =>some (.leaf (I64 (pauE f ⟨a0,a1,a2,a3,a4,a5,a6,a7⟩),pauF f ⟨a0,a1,a2,a3,a4,a5,a6,a7⟩))
 |_=>none
theorem o_wpau:wPau.ok Tryz.prog:=wfact_ok fun f rest t ht=>by
 split at ht
 ·injection ht with ht;subst ht;exact s_pau f _ ⟨_,_,_,_,_,_,_,_⟩
 ·cases ht
def s_dwe_x_p:Plan:=.fork (.all) (.all)
noncomputable def s_dwe_x_t(f:Fw)(line:Int)(c:Gc.C):Tree StopX:= .node (!idleB f) (.leaf (.fin (.ret (.int .i64 18) [some (.cells (Fw.cells f))]))) (.leaf (.fin (.ret (.int .i64 0) [some (.cells (Fw.cells {f with dwell:=c.s}))])))
theorem s_dwe_x(f:Fw)(line:Int)(c:Gc.C):segX (Env.ofB Tryz.prog (sumOf [fIdle]) (wrOf []) (pnOf []) (bxOf []) (rdOf []) (rdOf []) (rdOf []) (rdOf [])) 1000 (fnOf Tryz.prog 147) 1 (keepS 19 []) (codeS Tryz.prog 147) s_dwe_x_p (startS Tryz.prog 147 [.ptr 0 0,I64 line,c.sv]) [some (.cells f.cells)] =s_dwe_x_t f line c:=by kernel_rfl
theorem s_dwe(f:Fw)(line:Int)(c:Gc.C):FCall Tryz.prog 147 [I64 line,c.sv] f (I64 (dweE f),dweF f c):=
 fcall_v (hB (l:=[fIdle]) (k:=[]) (j:=[]) (i:=[]) ([] :List Nat) ([] :List Nat) ([] :List Nat) ([] :List Nat) (⟨o_idle,trivial⟩) noneOk noneOk noneOk) 1000 s_dwe_x_p (keep:=(keepS 19 [])) (t:=s_dwe_x_t f line c) (s_dwe_x f line c) (by
  unfold s_dwe_x_t
  simp only[Tree.holds,sL,ne_eq,beq_iff_eq,bne_iff_ne,eq_self,beq_eq_false_iff_ne,bne_eq_false_iff_eq,implies_true];(repeat' (first|apply And.intro|intro _));
  all_goals(unfold dweE dweF;simp only[*,if_true,if_false,Bool.false_eq_true];exact ends rfl (NilLs.refl _) rfl)) (by kernel_rfl) (by kernel_rfl) (by kernel_rfl)
noncomputable def wDwe:WFact:=wfact 147 fun f rest=>match rest with
 |[.int .i64 line,.agg [.int .i64 a0,.int .i64 a1,.int .i64 a2,.int .i64 a3,.int .i64 a4,.int .i64 a5,.int .i64 a6,.int .i64 a7]] =>some (.leaf (I64 (dweE f),dweF f ⟨a0,a1,a2,a3,a4,a5,a6,a7⟩))
 |_=>none
theorem o_wdwe:wDwe.ok Tryz.prog:=wfact_ok fun f rest t ht=>by
 split at ht
 ·injection ht with ht;subst ht;exact s_dwe f _ ⟨_,_,_,_,_,_,_,_⟩
 ·cases ht
def s_fan_x_p:Plan:=.all
noncomputable def s_fan_x_t(f:Fw)(line:Int)(c:Gc.C):Tree StopX:= .leaf (.fin (.ret (.int .i64 0) [some (.cells (Fw.cells {f with fan:=c.s}))]))
theorem s_fan_x(f:Fw)(line:Int)(c:Gc.C):segX (Env.ofB Tryz.prog (sumOf []) (wrOf []) (pnOf []) (bxOf []) (rdOf []) (rdOf []) (rdOf []) (rdOf [])) 1000 (fnOf Tryz.prog 149) 1 (keepS 13 []) (codeS Tryz.prog 149) s_fan_x_p (startS Tryz.prog 149 [.ptr 0 0,I64 line,c.sv]) [some (.cells f.cells)] =s_fan_x_t f line c:=by kernel_rfl
theorem s_fan(f:Fw)(line:Int)(c:Gc.C):FCall Tryz.prog 149 [I64 line,c.sv] f (I64 0,{f with fan:=c.s}):=
 fcall_v (hB (l:=[]) (k:=[]) (j:=[]) (i:=[]) ([] :List Nat) ([] :List Nat) ([] :List Nat) ([] :List Nat) (trivial) noneOk noneOk noneOk) 1000 s_fan_x_p (keep:=(keepS 13 [])) (t:=s_fan_x_t f line c) (s_fan_x f line c) (by
  unfold s_fan_x_t
  exact ends rfl (NilLs.refl _) rfl) (by kernel_rfl) (by kernel_rfl) (by kernel_rfl)
noncomputable def wFan:WFact:=wfact 149 fun f rest=>match rest with
 |[.int .i64 line,.agg [.int .i64 a0,.int .i64 a1,.int .i64 a2,.int .i64 a3,.int .i64 a4,.int .i64 a5,.int .i64 a6,.int .i64 a7]] =>some (.leaf (I64 0,{f with fan:=a7}))
 |_=>none
theorem o_wfan:wFan.ok Tryz.prog:=wfact_ok fun f rest t ht=>by
 split at ht
 ·injection ht with ht;subst ht;exact s_fan f _ ⟨_,_,_,_,_,_,_,_⟩
 ·cases ht
def s_hea_x_p:Plan:=.fork (.ln 4 (.fork (.lit (.fork (.ln 3 (.lit .all)) (.ln 3 (.fork .all .all)))) (.lit .all))) (.ln 3 (.fork (.fork (.lit (.fork (.ln 3 (.lit .all)) (.ln 3 (.fork .all .all)))) (.lit .all)) (.fork (.lit (.fork (.ln 3 (.lit .all)) (.ln 3 (.fork .all .all)))) (.lit .all))))
noncomputable def s_hea_x_t(f:Fw)(line:Int)(c:Gc.C):Tree StopX:=let y1:Tree StopX:=.req true (.leaf (.fin (.ret (.int .i64 0) [some (.cells (Fw.cells {f with waits:=(i64.wrap (↑(BitVec.ofInt 64 f.waits |||BitVec.ofInt 64 1).toNat:Int)),c0:=(f.c0.aim c.s)}))])));let y2:Tree StopX:=.req true (.leaf (.fin (.ret (.int .i64 0) [some (.cells (Fw.cells {f with waits:=(i64.wrap (↑(BitVec.ofInt 64 f.waits |||BitVec.ofInt 64 2).toNat:Int)),c1:=(f.c1.aim c.s)}))])));let y0:Tree StopX:=.req true (.node (aimOk f.c1 c.s) (.req true (.node (c.code==1109) y2 (.node (c.code==1190) y2 (.leaf (.fin (.ret (.int .i64 0) [some (.cells (Fw.cells {f with c1:=(f.c1.aim c.s)}))])))))) (.leaf (.fin (.ret (.int .i64 1) [some (.cells (Fw.cells f))])))); .node (c.code==1140) y0 (.node (c.code==1190) y0 (.req true (.node (aimOk f.c0 c.s) (.req true (.node (c.code==1109) y1 (.node (c.code==1190) y1 (.leaf (.fin (.ret (.int .i64 0) [some (.cells (Fw.cells {f with c0:=(f.c0.aim c.s)}))])))))) (.leaf (.fin (.ret (.int .i64 1) [some (.cells (Fw.cells f))]))))))
theorem s_hea_x(f:Fw)(line:Int)(c:Gc.C):segX (Env.ofB Tryz.prog (sumOf [fAim]) (wrOf []) (pnOf []) (bxOf []) (rdOf []) (rdOf []) (rdOf []) (rdOf [])) 1000 (fnOf Tryz.prog 150) 1 (keepS 60 []) (codeS Tryz.prog 150) s_hea_x_p (startS Tryz.prog 150 [.ptr 0 0,I64 line,c.sv]) [some (.cells f.cells)] =s_hea_x_t f line c:=by kernel_rfl
theorem s_hea(f:Fw)(line:Int)(c:Gc.C):FCall Tryz.prog 150 [I64 line,c.sv] f (I64 (heaE f c),heaF f c):=
 fcall_v (hB (l:=[fAim]) (k:=[]) (j:=[]) (i:=[]) ([] :List Nat) ([] :List Nat) ([] :List Nat) ([] :List Nat) (⟨o_aim,trivial⟩) noneOk noneOk noneOk) 1000 s_hea_x_p (keep:=(keepS 60 [])) (t:=s_hea_x_t f line c) (s_hea_x f line c) (by
  unfold s_hea_x_t
  have b1:bedB c=true↔c.code=1140∨c.code=1190:=by simp only[bedB,Bool.or_eq_true,beq_iff_eq]
  have b2:waiB c=true↔c.code=1109∨c.code=1190:=by simp only[waiB,Bool.or_eq_true,beq_iff_eq]
  simp only[Tree.holds,sL,ne_eq,beq_iff_eq,bne_iff_ne,eq_self,beq_eq_false_iff_ne,bne_eq_false_iff_eq,implies_true];(repeat' (first|apply And.intro|intro _));
  all_goals first
   |omega
   |(unfold heaF heaG heaE heaW orB;simp only[b1,b2];simp_all;first|done|exact ends rfl (NilLs.refl _) rfl)) (by kernel_rfl) (by kernel_rfl) (by kernel_rfl)
noncomputable def wHea:WFact:=wfact 150 fun f rest=>match rest with
 |[.int .i64 line,.agg [.int .i64 a0,.int .i64 a1,.int .i64 a2,.int .i64 a3,.int .i64 a4,.int .i64 a5,.int .i64 a6,.int .i64 a7]] =>some (.leaf (I64 (heaE f ⟨a0,a1,a2,a3,a4,a5,a6,a7⟩),heaF f ⟨a0,a1,a2,a3,a4,a5,a6,a7⟩))
 |_=>none
theorem o_whea:wHea.ok Tryz.prog:=wfact_ok fun f rest t ht=>by
 split at ht
 ·injection ht with ht;subst ht;exact s_hea f _ ⟨_,_,_,_,_,_,_,_⟩
 ·cases ht
theorem Co.step_ok{c:Co}(h:c.ok=true)(r:Int):(c.step r).ok=true∧(c.step r).target=c.target:=by
 unfold Co.step
 split
 ·rename_i hl
  have a:=co_rng hl
  have o:=(Co.ok_iff c).1 h
  have b:=cla_rng (n:=c.sum+c.ki*(c.target-r)) (lo:=0) (hi:=c.limit) (by omega)
  refine⟨?_,rfl⟩
  rw[Co.ok_iff]
  dsimp only
  refine⟨o.1,o.2.1,o.2.2.1,o.2.2.2.1,o.2.2.2.2.1,?_⟩
  unfold Co.acc
  split<;>omega
 ·exact⟨h,rfl⟩
theorem Co.aim_ok{c:Co}{t:Int}(h:aimOk c t=true):(c.aim t).ok=true:=by
 obtain⟨h1,h2⟩:=aimOk_iff.1 h
 have o:=(Co.ok_iff c).1 h1
 rw[Co.ok_iff]
 unfold Co.aim
 dsimp only
 omega
theorem Gu.touch_ok{g:Gu}(h:g.ok=true):g.touch.ok=true∧g.touch.fault=g.fault∧g.touch.low=g.low∧g.touch.high=g.high:=by
 rw[Gu.touch_yes h]
 have o:=(Gu.ok_iff g).1 h
 refine⟨?_,rfl,rfl,rfl⟩
 rw[Gu.ok_iff];dsimp only;omega
theorem Gu.stop_ok{g:Gu}(h:g.ok=true):g.stop.ok=true∧g.stop.fault=4∧g.stop.low=g.low∧g.stop.high=g.high:=by
 rw[Gu.stop_yes h]
 have o:=(Gu.ok_iff g).1 h
 refine⟨?_,rfl,rfl,rfl⟩
 rw[Gu.ok_iff];dsimp only;omega
theorem Gu.rest_ok{g:Gu}{r:Int}(h:g.ok=true)(hr:g.resE r=0):(g.rest r).ok=true∧(g.rest r).fault=0∧(g.rest r).low=g.low∧(g.rest r).high=g.high:=by
 have o:=(Gu.ok_iff g).1 h
 unfold Gu.resE at hr
 rw[h]at hr
 dsimp only at hr
 refine⟨?_,rfl,rfl,rfl⟩
 rw[Gu.ok_iff];unfold Gu.rest;dsimp only
 (repeat' split at hr)<;>omega
theorem Gu.way_rng(g:Gu)(r t u:Int):g.way r t u≤7:=by
 unfold Gu.way;(repeat' split)<;>omega
theorem Gu.way_out{g:Gu}(h:g.ok=true)(hf:g.fault=0){r:Int}(hr:r<g.low∨g.high<r)(t u:Int):g.way r t u=1∨g.way r t u=2:=by
 unfold Gu.way
 rw[h]
 dsimp only
 rw[if_pos hf]
 by_cases h1:r<g.low
 ·rw[if_pos h1];exact .inl rfl
 ·rw[if_neg h1,if_pos (by omega)];exact .inr rfl
theorem Gu.step_k0{g:Gu}{r t u:Int}(h:g.way r t u=0):g.step r t u=g:=by unfold Gu.step;simp only[h]
theorem Gu.step_k1{g:Gu}{r t u:Int}(h:g.way r t u=1):g.step r t u={g with fault:=1}:=by unfold Gu.step;simp only[h]
theorem Gu.step_k2{g:Gu}{r t u:Int}(h:g.way r t u=2):g.step r t u={g with fault:=2}:=by unfold Gu.step;simp only[h]
theorem Gu.step_k3{g:Gu}{r t u:Int}(h:g.way r t u=3):g.step r t u={g with quiet:=g.idle,base:=r,count:=0}:=by unfold Gu.step;simp only[h]
theorem Gu.step_k4{g:Gu}{r t u:Int}(h:g.way r t u=4):g.step r t u={g with quiet:=g.quiet+1,base:=r,count:=0}:=by unfold Gu.step;simp only[h]
theorem Gu.step_k5{g:Gu}{r t u:Int}(h:g.way r t u=5):g.step r t u={g with quiet:=g.quiet+1,base:=r,count:=0}:=by unfold Gu.step;simp only[h]
theorem Gu.step_k6{g:Gu}{r t u:Int}(h:g.way r t u=6):g.step r t u={g with quiet:=g.quiet+1,base:=g.bas r,count:=g.watch,fault:=3}:=by unfold Gu.step;simp only[h]
theorem Gu.step_k7{g:Gu}{r t u:Int}(h:g.way r t u=7):g.step r t u={g with quiet:=g.quiet+1,base:=g.bas r,count:=g.cnt r}:=by unfold Gu.step;simp only[h]
theorem Gu.step_ok{g:Gu}(h:g.ok=true)(r t u:Int):(g.step r t u).ok=true∧(g.step r t u).low=g.low∧(g.step r t u).high=g.high∧(g.step r t u).band=g.band:=by
 have o:=(Gu.ok_iff g).1 h
 have hb:g.bas r=r∨g.bas r=g.base:=by unfold Gu.bas;split<;>simp
 have hc:0≤g.cnt r:=by unfold Gu.cnt;split<;>omega
 have hw:(3≤g.way r t u→g.low≤r∧r≤g.high)∧(4≤g.way r t u→g.quiet+1<g.idle)∧(7≤g.way r t u→g.cnt r<g.watch):=by
  unfold Gu.way
  rw[h]
  dsimp only
  (repeat' split)<;>omega
 have w7:=Gu.way_rng g r t u
 have cases8:g.way r t u=0∨g.way r t u=1∨g.way r t u=2∨g.way r t u=3∨g.way r t u=4∨g.way r t u=5∨g.way r t u=6∨g.way r t u=7:=by omega
 rcases cases8 with e|e|e|e|e|e|e|e
 ·rw[Gu.step_k0 e];exact⟨h,rfl,rfl,rfl⟩
 ·rw[Gu.step_k1 e];refine⟨?_,rfl,rfl,rfl⟩;rw[Gu.ok_iff];dsimp only;omega
 ·rw[Gu.step_k2 e];refine⟨?_,rfl,rfl,rfl⟩;rw[Gu.ok_iff];dsimp only;omega
 ·rw[Gu.step_k3 e];refine⟨?_,rfl,rfl,rfl⟩;rw[Gu.ok_iff];dsimp only;omega
 ·rw[Gu.step_k4 e];refine⟨?_,rfl,rfl,rfl⟩;rw[Gu.ok_iff];dsimp only;omega
 ·rw[Gu.step_k5 e];refine⟨?_,rfl,rfl,rfl⟩;rw[Gu.ok_iff];dsimp only;omega
 ·rw[Gu.step_k6 e];refine⟨?_,rfl,rfl,rfl⟩;rw[Gu.ok_iff];dsimp only;omega
 ·rw[Gu.step_k7 e];refine⟨?_,rfl,rfl,rfl⟩;rw[Gu.ok_iff];dsimp only;omega
theorem Gu.step_out{g:Gu}(h:g.ok=true)(hf:g.fault=0){r:Int}(hr:r<g.low∨g.high<r)(t u:Int):¬(g.step r t u).fault=0:=by
 rcases Gu.way_out h hf hr t u with e|e
 ·rw[Gu.step_k1 e];dsimp only;omega
 ·rw[Gu.step_k2 e];dsimp only;omega
theorem stp_zero{n k:Int}(hn:1≤n):stp n 0 k=0:=by
 have e:(2*0*sz k+n) / (2*n)=0:=by
  rw[Int.mul_zero,Int.zero_mul,Int.zero_add]
  exact Int.ediv_eq_zero_of_lt (by omega) (by omega)
 unfold stp;rw[e];split<;>omega
theorem stp_all{n k:Int}(hn:1≤n):stp n n k=k:=by
 have e:(2*n*sz k+n) / (2*n)=sz k:=by
  rw[Int.add_comm,Int.add_mul_ediv_left _ _ (by omega),Int.ediv_eq_zero_of_lt (by omega) (by omega)];omega
 unfold stp;rw[e];unfold sz;split<;>omega
theorem at4_zero(c:V4):at4 c 0=z4:=by
 cases h:okC c with
 |false=>exact at4_no h
 |true=>
  have m:=(mx4_bounds h).1
  have z:clm (mx4 c) 0=0:=by unfold clm;(repeat' split)<;>omega
  rw[at4_ok h,z,stp_zero m,stp_zero m,stp_zero m,stp_zero m];rfl
theorem at4_dom{c:V4}(h:okC c=true):at4 c (dom c)=c:=by
 have m:=(mx4_bounds h).1
 have z:clm (mx4 c) (mx4 c)=mx4 c:=by unfold clm;(repeat' split)<;>omega
 rw[at4_ok h,dom_ok h,z,stp_all m,stp_all m,stp_all m,stp_all m]
theorem add4_zero(a:V4):add4 a z4=a:=by unfold add4 z4;simp
theorem add4_sub(a b:V4):add4 a (sub4 b a)=b:=by
 unfold add4 sub4
 refine Prod.ext ?_ (Prod.ext ?_ (Prod.ext ?_ ?_))<;>(dsimp only;omega)
section
variable {m:Mo} {t:Int}
theorem ended_made(h:endedM m=true):madeM m=m.1.1:=by
 obtain⟨h1,h2⟩:=endedM_iff.1 h
 have v:=(validB_iff.1 h1).1.1
 have d:=dom_range m.1.1
 rw[madeM_yes ⟨h1,by omega,by omega⟩,h2,at4_dom v]
theorem made_start(b:Bk)(t:Int):madeM (startM b t)=z4:=by
 cases h:validB b with
 |false=>exact madeM_no fun c=>by rw[show(startM b t).1=b from rfl,h]at c;cases c.1
 |true=>
  have d:=dom_range b.1
  rw[madeM_yes (m:=startM b t) ⟨h,Int.le_refl 0,d.1⟩]
  exact at4_zero b.1
theorem ivl_one{b:Bk}{i t:Int}(h:validB b=true∧1≤i∧i≤dom b.1)(ht:1≤t∧t≤1048576):1≤ivl b i t:=by
 have s:=sqv_bnd h
 have p:=isq_pos (n:=sqv b i) s.1
 unfold ivl
 rw[if_pos ⟨s.1,ht⟩]
 exact Int.le_ediv_of_mul_le (by omega) (by omega)
theorem start_runs{b:Bk}(h:okS b t=true):runsM (startM b t) t=true:=by
 obtain⟨h1,h2⟩:=okS_iff.1 h
 have d:=valid_dom h1
 exact runsM_iff.2 ⟨h1,⟨Int.le_refl 0,by show(0:Int)≤dom b.1-1;omega⟩,ivl_one ⟨h1,by omega,d.1⟩ h2,Int.le_refl _⟩
theorem runs_t(h:runsM m t=true):1≤t∧t≤1048576:=by
 have r:=runsM_iff.1 h
 exact ivl_pos (b:=m.1) (i:=m.2.1+1) (by omega)
theorem tickM_wait(h:runsM m t=true)(h1:1<m.2.2):tickM m t=(m.1,m.2.1,m.2.2-1)∧tickP m t=z4:=by
 unfold tickM tickP;rw[h];simp only[if_pos h1];trivial
theorem tickM_step(h:runsM m t=true)(h1:¬1<m.2.2):tickM m t=(m.1,m.2.1+1,if m.2.1+1=dom m.1.1 then 0 else ivl m.1 (m.2.1+2) t)∧tickP m t=pul m.1.1 (m.2.1+1):=by
 unfold tickM tickP;rw[h];simp only[if_neg h1];trivial
theorem made_tick(h:runsM m t=true):madeM (tickM m t)=add4 (madeM m) (tickP m t):=by
 have r:=runsM_iff.1 h
 have d:=dom_range m.1.1
 by_cases h1:1<m.2.2
 ·obtain⟨e1,e2⟩:=tickM_wait h h1
  rw[e1,e2,add4_zero];rfl
 ·obtain⟨e1,e2⟩:=tickM_step h h1
  rw[e1,e2,madeM_yes (m:=(m.1,m.2.1+1,_)) ⟨r.1,by show(0:Int)≤m.2.1+1;omega,by show m.2.1+1≤dom m.1.1;omega⟩,madeM_yes (m:=m) ⟨r.1,by omega,by omega⟩]
  have p:pul m.1.1 (m.2.1+1)=sub4 (at4 m.1.1 (m.2.1+1)) (at4 m.1.1 m.2.1):=by
   unfold pul
   rw[inR_iff.2 (show 1≤m.2.1+1∧m.2.1+1≤dom m.1.1 by omega),show m.2.1+1-1=m.2.1 by omega]
  rw[p,add4_sub]
theorem tick_block(m:Mo)(t:Int):(tickM m t).1=m.1:=by
 unfold tickM
 split
 ·split<;>rfl
 ·rfl
theorem tick_runs(h:runsM m t=true)(he:endedM (tickM m t)=false):runsM (tickM m t) t=true:=by
 have r:=runsM_iff.1 h
 have d:=dom_range m.1.1
 by_cases h1:1<m.2.2
 ·obtain⟨e1,_⟩:=tickM_wait h h1
  rw[e1]
  exact runsM_iff.2 ⟨r.1,r.2.1,by show 1≤m.2.2-1;omega,by show m.2.2-1≤ivl m.1 (m.2.1+1) t;have:=r.2.2.2;omega⟩
 ·obtain⟨e1,_⟩:=tickM_step h h1
  rw[e1]at he ⊢
  have hd:¬m.2.1+1=dom m.1.1:=fun c=>by
   have:endedM (m.1,m.2.1+1,if m.2.1+1=dom m.1.1 then 0 else ivl m.1 (m.2.1+2) t)=true:=endedM_iff.2 ⟨r.1,c⟩
   rw[he]at this;cases this
  rw[if_neg hd]
  refine runsM_iff.2 ⟨r.1,⟨by show 0≤m.2.1+1;omega,by show m.2.1+1≤dom m.1.1-1;omega⟩,?_,?_⟩
  ·exact ivl_one ⟨r.1,by omega,by omega⟩ (runs_t h)
  ·show ivl m.1 (m.2.1+2) t≤ivl m.1 (m.2.1+1+1) t
   rw[show m.2.1+1+1=m.2.1+2 by omega];exact Int.le_refl _
end
def partB(f:Fw):Bool:=f.c0.ok&& (f.c1.ok&& (f.g0.ok&& (f.g1.ok&&shapeB f)))
theorem partB_iff{f:Fw}:partB f=true↔f.c0.ok=true∧f.c1.ok=true∧f.g0.ok=true∧f.g1.ok=true∧shapeB f=true:=by simp only[partB,Bool.and_eq_true]
def hotD(f:Fw):Int×Int:=if(lostF f).mode=3 then(0,0)else(duty0 f,duty1 f)
def hotF'(f:Fw):Fw:=waitF (lostF f)
theorem lostB_iff{f:Fw}:lostB f=true↔(f.g0.fault=0∧¬(f.g0.step f.r0 (f.c0.step f.r0).target (f.c0.duty f.r0)).fault=0)∨(f.g1.fault=0∧¬(f.g1.step f.r1 (f.c1.step f.r1).target (f.c1.duty f.r1)).fault=0):=by
 simp only[lostB,newFault,heatF,Bool.or_eq_true,Bool.and_eq_true,Bool.not_eq_true',beq_iff_eq,beq_eq_false_iff_ne,ne_eq]
theorem lose_c0(f:Fw):(loseF f).c0=f.c0:=rfl
theorem lose_c1(f:Fw):(loseF f).c1=f.c1:=rfl
theorem lose_g0(f:Fw):(loseF f).g0=f.g0:=rfl
theorem lose_g1(f:Fw):(loseF f).g1=f.g1:=rfl
theorem warm_yes{c:Co}{g:Gu}{r:Int}(h:r≥c.target-g.band):warm c g r=true:=decide_eq_true h
theorem warm_no{c:Co}{g:Gu}{r:Int}(h:¬r≥c.target-g.band):¬warm c g r=true:=fun k=>h (of_decide_eq_true k)
theorem waitF_tt{x:Fw}(a:x.r0≥x.c0.target-x.g0.band)(b:x.r1≥x.c1.target-x.g1.band):waitF x={x with waits:=Gc.andNot (Gc.andNot x.waits 1) 2}:=by unfold waitF;rw[if_pos (warm_yes b),if_pos (warm_yes a)]
theorem waitF_tf{x:Fw}(a:x.r0≥x.c0.target-x.g0.band)(b:¬x.r1≥x.c1.target-x.g1.band):waitF x={x with waits:=Gc.andNot x.waits 1}:=by unfold waitF;rw[if_neg (warm_no b),if_pos (warm_yes a)]
theorem waitF_ft{x:Fw}(a:¬x.r0≥x.c0.target-x.g0.band)(b:x.r1≥x.c1.target-x.g1.band):waitF x={x with waits:=Gc.andNot x.waits 2}:=by unfold waitF;rw[if_pos (warm_yes b),if_neg (warm_no a)]
theorem waitF_ff{x:Fw}(a:¬x.r0≥x.c0.target-x.g0.band)(b:¬x.r1≥x.c1.target-x.g1.band):waitF x=x:=by unfold waitF;rw[if_neg (warm_no b),if_neg (warm_no a)]
def motPre(f:Fw):Bool:=shapeB f&&inR f.dwell 0 1048576
theorem motPre_iff{f:Fw}:motPre f=true↔shapeB f=true∧0≤f.dwell∧f.dwell≤1048576:=by simp only[motPre,Bool.and_eq_true,inR_iff]
theorem begF_pos(f:Fw):(begF f).pos=f.pos:=by unfold begF;split<;>rfl
theorem pul_big(c:V4)(i:Int):big4 (pul c i)=true:=by
 unfold pul
 split
 ·have a:=at4_abs c i
  have b:=at4_abs c (i-1)
  rw[big4_iff];unfold sub4;dsimp only;omega
 ·decide
theorem tickP_big(m:Mo)(t:Int):big4 (tickP m t)=true:=by
 unfold tickP
 split
 ·split
  ·decide
  ·exact pul_big _ _
 ·decide
def s_heat_x_p:Plan:=.go (.ln 4 (.fork (.ln 11 (.go (.lit (.fork (.ln 4 (.go (.lit (.lit (.go (.lit (.fork (.go (.lit (.fork (.go (.lit (.lit .all))) (.go (.lit (.lit .all)))))) (.go (.lit (.fork (.go (.lit (.lit .all))) (.go (.lit (.lit .all))))))))))))) (.lit (.lit (.fork (.ln 11 (.go (.lit (.fork (.go (.lit (.fork (.go (.lit (.fork (.go (.lit (.lit .all))) (.go (.lit (.lit .all)))))) (.go (.lit (.fork (.go (.lit (.lit .all))) (.go (.lit (.lit .all))))))))) (.go (.lit (.fork (.go (.lit (.fork (.go (.lit (.fork .all .all))) (.go (.lit (.fork .all .all)))))) (.go (.lit (.fork (.go (.lit (.fork .all .all))) (.go (.lit (.fork .all .all))))))))))))) (.ln 11 (.go (.lit (.lit (.go (.lit (.fork (.go (.lit (.fork (.go (.lit (.fork .all .all))) (.go (.lit (.fork .all .all)))))) (.go (.lit (.fork (.go (.lit (.fork .all .all))) (.go (.lit (.fork .all .all)))))))))))))))))))) (.ln 11 (.go (.ln 4 (.fork (.ln 11 (.go (.lit (.fork (.go (.lit (.fork (.go (.lit (.fork (.go (.lit (.lit .all))) (.go (.lit (.lit .all)))))) (.go (.lit (.fork (.go (.lit (.lit .all))) (.go (.lit (.lit .all))))))))) (.go (.lit (.fork (.go (.lit (.fork (.go (.lit (.fork .all .all))) (.go (.lit (.fork .all .all)))))) (.go (.lit (.fork (.go (.lit (.fork .all .all))) (.go (.lit (.fork .all .all))))))))))))) (.ln 11 (.go (.lit (.lit (.go (.lit (.fork (.go (.lit (.fork (.go (.lit (.fork .all .all))) (.go (.lit (.fork .all .all)))))) (.go (.lit (.fork (.go (.lit (.fork .all .all))) (.go (.lit (.fork .all .all)))))))))))))))))))
noncomputable def s_heat_x_t(f:Fw):Tree StopX:=let y8:SV:=.agg [.int .i64 0,.int .i64 0];let y11:=f.c1.step f.r1;let y4:=f.g1.step f.r1 y11.target (f.c1.duty f.r1);let y12:=f.c0.step f.r0;let y5:=f.g0.step f.r0 y12.target (f.c0.duty f.r0);let y1:={f with c0:=y12,c1:=y11,g0:=y5,g1:=y4};let y6:SV:=.agg [.int .i64 (f.g0.duty f.r0 y12.target (f.c0.duty f.r0)),.int .i64 (f.g1.duty f.r1 y11.target (f.c1.duty f.r1))];let y10:=Fw.cells {f with waits:=(i64.wrap (↑(BitVec.ofInt 64 f.waits &&& ~~~BitVec.ofInt 64 2).toNat:Int)),c0:=y12,c1:=y11,g0:=y5,g1:=y4};let y13:=i64.wrap (↑(BitVec.ofInt 64 (loseF y1).waits &&& ~~~BitVec.ofInt 64 1).toNat:Int);let y14:=i64.wrap (↑(BitVec.ofInt 64 f.waits &&& ~~~BitVec.ofInt 64 1).toNat:Int);let y7:=Fw.cells {f with waits:=(i64.wrap (↑(BitVec.ofInt 64 y14 &&& ~~~BitVec.ofInt 64 2).toNat:Int)),c0:=y12,c1:=y11,g0:=y5,g1:=y4};let y9:=Fw.cells {f with waits:=y14,c0:=y12,c1:=y11,g0:=y5,g1:=y4};let y15:=decide (f.r1≥i64.wrap ((loseF y1).c1.target-(loseF y1).g1.band));let y3:Tree StopX:=.req (shapeB y1) (.req true (.req (true) (.req true (.node (decide (f.r0≥i64.wrap ((loseF y1).c0.target-(loseF y1).g0.band))) (.req true (.req (true) (.req true (.req (true) (.node y15 (.req true (.leaf (.fin (.ret y8 [some (.cells (Fw.cells { (loseF y1)with mode:=3,waits:=(i64.wrap (↑(BitVec.ofInt 64 y13 &&& ~~~BitVec.ofInt 64 2).toNat:Int))}))])))) (.leaf (.fin (.ret y8 [some (.cells (Fw.cells { (loseF y1)with mode:=3,waits:=y13}))])))))))) (.req true (.req (true) (.req true (.node y15 (.req true (.leaf (.fin (.ret y8 [some (.cells (Fw.cells { (loseF y1)with mode:=3,waits:=(i64.wrap (↑(BitVec.ofInt 64 (loseF y1).waits &&& ~~~BitVec.ofInt 64 2).toNat:Int))}))])))) (.leaf (.fin (.ret y8 [some (.cells (Fw.cells { (loseF y1)with mode:=3}))])))))))))));let y16:=Fw.cells {f with c0:=y12,c1:=y11,g0:=y5,g1:=y4};let y2:Tree StopX:=.req true (.req (true) (.req true (.node (decide (f.r0≥i64.wrap (y12.target-y5.band))) (.req true (.req (true) (.req true (.req (true) (.node (decide (f.r1≥i64.wrap (y11.target-y4.band))) (.req true (.node (f.mode==3) (.leaf (.fin (.ret y8 [some (.cells y7)]))) (.leaf (.fin (.ret y6 [some (.cells y7)]))))) (.node (f.mode==3) (.leaf (.fin (.ret y8 [some (.cells y9)]))) (.leaf (.fin (.ret y6 [some (.cells y9)]))))))))) (.req true (.req (true) (.req true (.node (decide (f.r1≥i64.wrap (y11.target-y4.band))) (.req true (.node (f.mode==3) (.leaf (.fin (.ret y8 [some (.cells y10)]))) (.leaf (.fin (.ret y6 [some (.cells y10)]))))) (.node (f.mode==3) (.leaf (.fin (.ret y8 [some (.cells y16)]))) (.leaf (.fin (.ret y6 [some (.cells y16)])))))))))));let y0:Tree StopX:=.node (f.g1.fault==0) (.req true (.node (y4.fault != 0) y3 y2)) y2; .req (true) (.req true (.req (true) (.req true (.req (true) (.req true (.req (true) (.req true (.node (f.g0.fault==0) (.req true (.req (true) (.req true (.req (true) (.req true (.req (true) (.req true (.req (true) (.req true (.node (y5.fault != 0) y3 y0)))))))))) (.req true (.req (true) (.req true (.req (true) (.req true (.req (true) (.req true (.req (true) y0))))))))))))))))
theorem s_heat_x(f:Fw):segX (Env.ofB Tryz.prog (sumOf [fCoS,fGst]) (wrOf []) (pnOf [BFact.toP bLose]) (bxOf [bLose]) (rdOf []) (rdOf []) (rdOf []) (rdOf [])) 1000 (fnOf Tryz.prog 78) 1 (keepS 141 []) (codeS Tryz.prog 78) s_heat_x_p (startS Tryz.prog 78 [.ptr 0 0,.agg [I64 f.r0,I64 f.r1]]) [some (.cells f.cells)] =s_heat_x_t f:=by kernel_rfl
theorem s_heat(f:Fw)(h:partB f=true):FCall Tryz.prog 78 [.agg [I64 f.r0,I64 f.r1]] f (.agg [I64 (hotD f).1,I64 (hotD f).2],hotF' f):=
 fcall_v (hB (l:=[fCoS,fGst]) (k:=[]) (j:=[BFact.toP bLose]) (i:=[bLose]) ([] :List Nat) ([] :List Nat) ([] :List Nat) ([] :List Nat) (⟨o_coS,o_gst,trivial⟩) noneOk (allQ.all (p:=PFact.ok Tryz.prog) (l:=[BFact.toP bLose]) ⟨BFact.toP_ok o_blose,trivial⟩) (allQ.all (p:=BFact.ok Tryz.prog) (l:=[bLose]) ⟨o_blose,trivial⟩)) 1000 s_heat_x_p (keep:=(keepS 141 [])) (t:=s_heat_x_t f) (s_heat_x f) (by
  unfold s_heat_x_t
  have p:=partB_iff.1 h
  have c0k:=Co.step_ok p.1 f.r0
  have c1k:=Co.step_ok p.2.1 f.r1
  have g0k:=Gu.step_ok p.2.2.1 f.r0 (f.c0.step f.r0).target (f.c0.duty f.r0)
  have g1k:=Gu.step_ok p.2.2.2.1 f.r1 (f.c1.step f.r1).target (f.c1.duty f.r1)
  have c0o:=(Co.ok_iff _).1 c0k.1
  have c1o:=(Co.ok_iff _).1 c1k.1
  have g0o:=(Gu.ok_iff _).1 g0k.1
  have g1o:=(Gu.ok_iff _).1 g1k.1
  have w0:=w64 (x:=(f.c0.step f.r0).target-(f.g0.step f.r0 (f.c0.step f.r0).target (f.c0.duty f.r0)).band) (by omega) (by omega)
  have w1:=w64 (x:=(f.c1.step f.r1).target-(f.g1.step f.r1 (f.c1.step f.r1).target (f.c1.duty f.r1)).band) (by omega) (by omega)
  simp only[Tree.holds,lose_c0,lose_c1,lose_g0,lose_g1,w0,w1,sL,ne_eq,beq_iff_eq,bne_iff_ne,eq_self,beq_eq_false_iff_ne,bne_eq_false_iff_eq,implies_true];(repeat' (first|apply And.intro|intro _));
  all_goals first
   |exact p.2.2.2.2
   |(have e:lostF f={loseF (heatF f)with mode:=3}:=if_pos (lostB_iff.2 (by omega))
     unfold hotD hotF';rw[e]
     first
     |(rw[if_pos rfl];first|(rw[waitF_tt (by assumption) (by assumption)];exact ends rfl (NilLs.refl _) rfl)|(rw[waitF_tf (by assumption) (by assumption)];exact ends rfl (NilLs.refl _) rfl)|(rw[waitF_ft (by assumption) (by assumption)];exact ends rfl (NilLs.refl _) rfl)|(rw[waitF_ff (by assumption) (by assumption)];exact ends rfl (NilLs.refl _) rfl))
     |(rw[if_pos (by assumption)];first|(rw[waitF_tt (by assumption) (by assumption)];exact ends rfl (NilLs.refl _) rfl)|(rw[waitF_tf (by assumption) (by assumption)];exact ends rfl (NilLs.refl _) rfl)|(rw[waitF_ft (by assumption) (by assumption)];exact ends rfl (NilLs.refl _) rfl)|(rw[waitF_ff (by assumption) (by assumption)];exact ends rfl (NilLs.refl _) rfl))
     |(rw[if_neg (by assumption)];first|(rw[waitF_tt (by assumption) (by assumption)];exact ends rfl (NilLs.refl _) rfl)|(rw[waitF_tf (by assumption) (by assumption)];exact ends rfl (NilLs.refl _) rfl)|(rw[waitF_ft (by assumption) (by assumption)];exact ends rfl (NilLs.refl _) rfl)|(rw[waitF_ff (by assumption) (by assumption)];exact ends rfl (NilLs.refl _) rfl)))
   |(have e:lostF f=heatF f:=if_neg (fun k=>by have k:=lostB_iff.1 k;omega)
     unfold hotD hotF';rw[e]
     first
     |(rw[if_pos rfl];first|(rw[waitF_tt (by assumption) (by assumption)];exact ends rfl (NilLs.refl _) rfl)|(rw[waitF_tf (by assumption) (by assumption)];exact ends rfl (NilLs.refl _) rfl)|(rw[waitF_ft (by assumption) (by assumption)];exact ends rfl (NilLs.refl _) rfl)|(rw[waitF_ff (by assumption) (by assumption)];exact ends rfl (NilLs.refl _) rfl))
     |(rw[if_pos (by assumption)];first|(rw[waitF_tt (by assumption) (by assumption)];exact ends rfl (NilLs.refl _) rfl)|(rw[waitF_tf (by assumption) (by assumption)];exact ends rfl (NilLs.refl _) rfl)|(rw[waitF_ft (by assumption) (by assumption)];exact ends rfl (NilLs.refl _) rfl)|(rw[waitF_ff (by assumption) (by assumption)];exact ends rfl (NilLs.refl _) rfl))
     |(rw[if_neg (by assumption)];first|(rw[waitF_tt (by assumption) (by assumption)];exact ends rfl (NilLs.refl _) rfl)|(rw[waitF_tf (by assumption) (by assumption)];exact ends rfl (NilLs.refl _) rfl)|(rw[waitF_ft (by assumption) (by assumption)];exact ends rfl (NilLs.refl _) rfl)|(rw[waitF_ff (by assumption) (by assumption)];exact ends rfl (NilLs.refl _) rfl)))) (by kernel_rfl) (by kernel_rfl) (by kernel_rfl)
def bHeat:BFact:=bfact 78 fun f rest=>match rest with
 |[.agg [.int .i64 a,.int .i64 b]] =>some (.req (decide (a=f.r0)) (.req (decide (b=f.r1)) (.req (partB f) (.leaf (.agg [I64 (hotD f).1,I64 (hotD f).2],hotF' f)))))
 |_=>none
theorem o_bheat:bHeat.ok Tryz.prog:=bfact_ok fun f rest t ht=>by
 split at ht
 ·injection ht with ht;subst ht;exact fun ha hb h=>by rw[of_decide_eq_true ha,of_decide_eq_true hb];exact s_heat f h
 ·cases ht
def s_mots_x_p:Plan:=.fork (.all) (.fork (.all) (.fork (.all) (.fork (.all) (.all))))
noncomputable def s_mots_x_t(f:Fw):Tree StopX:=let y0:=((((begF f).mo.1.1.1,(begF f).mo.1.1.2.1,(begF f).mo.1.1.2.2),(begF f).mo.1.2.1,(begF f).mo.1.2.2.1,(begF f).mo.1.2.2.2),(begF f).mo.2);let y1:=tickP y0 (begF f).ma.ticks;let y2:=tickM y0 (begF f).ma.ticks;let y3:SV:=.agg [.int .i64 0,.int .i64 0,.int .i64 0,.int .i64 0];let y4:SV:=.agg [.int .i64 y1.1,.int .i64 y1.2.1,.int .i64 y1.2.2.1,.int .i64 y1.2.2.2];let y5:=wadd4 ((begF f).pos.1,(begF f).pos.2.1,(begF f).pos.2.2) y1; .node (f.mode==3) (.leaf (.fin (.ret y3 [some (.cells (Fw.cells f))]))) (.node (decide (f.dwell>0)) (.leaf (.fin (.ret y3 [some (.cells (Fw.cells {f with dwell:=(i64.wrap (f.dwell-1))}))]))) (.req (shapeB f) (.node (!(begF f).moving) (.leaf (.fin (.ret y3 [some (.cells (Fw.cells (begF f)))]))) (.node (endedM (((y2.1.1.1,y2.1.1.2.1,y2.1.1.2.2),y2.1.2.1,y2.1.2.2.1,y2.1.2.2.2),y2.2)) (.leaf (.fin (.ret y4 [some (.cells (Fw.cells { (begF f)with pos:=y5,mo:=(((0,0,0,0),0,0,0,0),0,0),moving:=false,active:=0}))]))) (.leaf (.fin (.ret y4 [some (.cells (Fw.cells { (begF f)with pos:=y5,mo:=y2}))])))))))
theorem s_mots_x(f:Fw):segX (Env.ofB Tryz.prog (sumOf [fTick,fEnded,fPls]) (wrOf []) (pnOf [BFact.toP bStart]) (bxOf [bStart]) (rdOf []) (rdOf []) (rdOf []) (rdOf [])) 1000 (fnOf Tryz.prog 79) 1 (keepS 86 []) (codeS Tryz.prog 79) s_mots_x_p (startS Tryz.prog 79 [.ptr 0 0]) [some (.cells f.cells)] =s_mots_x_t f:=by kernel_rfl
theorem s_mots(f:Fw)(h:motPre f=true):FCall Tryz.prog 79 [] f (V4.sv (if f.mode=3 then z4 else runP f),(if f.mode=3 then f else runF f)):=
 fcall_v (hB (l:=[fTick,fEnded,fPls]) (k:=[]) (j:=[BFact.toP bStart]) (i:=[bStart]) ([] :List Nat) ([] :List Nat) ([] :List Nat) ([] :List Nat) (⟨o_tick,o_ended,o_pls,trivial⟩) noneOk (allQ.all (p:=PFact.ok Tryz.prog) (l:=[BFact.toP bStart]) ⟨BFact.toP_ok o_bstart,trivial⟩) (allQ.all (p:=BFact.ok Tryz.prog) (l:=[bStart]) ⟨o_bstart,trivial⟩)) 1000 s_mots_x_p (keep:=(keepS 86 [])) (t:=s_mots_x_t f) (s_mots_x f) (by
  unfold s_mots_x_t
  have mp:=motPre_iff.1 h
  have bp:big4 (begF f).pos=true:=by rw[begF_pos];exact(shapeB_iff.1 mp.1).1
  have wa:wadd4 (begF f).pos (tickP (begF f).mo (begF f).ma.ticks)=add4 (begF f).pos (tickP (begF f).mo (begF f).ma.ticks):=wadd4_eq bp (tickP_big _ _)
  have w1:0<f.dwell→i64.wrap (f.dwell-1)=f.dwell-1:=fun k=>w64 (by omega) (by omega)
  refine⟨fun a=>?_,fun a=>⟨fun b=>?_,fun b=>⟨mp.1,fun c=>?_,fun c=>?_⟩⟩⟩
  ·have a:=beq_iff_eq.1 a
   rw[if_pos a,if_pos a];exact ends rfl (NilLs.refl _) rfl
  ·have a:=beq_eq_false_iff_ne.1 a
   have b:=of_decide_eq_true b
   rw[if_neg a,if_neg a,w1 b,show runF f={f with dwell:=f.dwell-1} from if_pos b,show runP f=z4 from if_pos b]
   exact ends rfl (NilLs.refl _) rfl
  ·have a:=beq_eq_false_iff_ne.1 a
   have b:=of_decide_eq_false b
   have c:¬(begF f).moving=true:=by rw[Bool.not_eq_true']at c;rw[c];exact Bool.false_ne_true
   rw[if_neg a,if_neg a,show runF f=begF f by unfold runF;rw[if_neg b,if_neg c],show runP f=z4 by unfold runP;rw[if_neg b,if_neg c]]
   exact ends rfl (NilLs.refl _) rfl
  ·have a:=beq_eq_false_iff_ne.1 a
   have b:=of_decide_eq_false b
   have c:(begF f).moving=true:=by rw[Bool.not_eq_false']at c;exact c
   rw[if_neg a,if_neg a,show runF f=stepF (begF f) by unfold runF;rw[if_neg b,if_pos c],show runP f=tickP (begF f).mo (begF f).ma.ticks by unfold runP;rw[if_neg b,if_pos c]]
   refine⟨fun d=>?_,fun d=>?_⟩
   ·rw[show stepF (begF f)={begF f with pos:=wadd4 (begF f).pos (tickP (begF f).mo (begF f).ma.ticks),mo:=m0,moving:=false,active:=0} by unfold stepF;rw[if_pos (show endedM (tickM (begF f).mo (begF f).ma.ticks)=true from d),wa]]
    exact ends rfl (NilLs.refl _) rfl
   ·rw[show stepF (begF f)={begF f with pos:=wadd4 (begF f).pos (tickP (begF f).mo (begF f).ma.ticks),mo:=tickM (begF f).mo (begF f).ma.ticks} by unfold stepF;rw[if_neg (by rw[show endedM (tickM (begF f).mo (begF f).ma.ticks)=false from d];exact Bool.false_ne_true),wa]]
    exact ends rfl (NilLs.refl _) rfl) (by kernel_rfl) (by kernel_rfl) (by kernel_rfl)
theorem mots_says(f:Fw)(h:motPre f=true):(Tree.node (f.mode==3) (.leaf (V4.sv z4,f)) (.leaf (V4.sv (runP f),runF f))).says (FCall Tryz.prog 79 [] f):=by
 have k:=s_mots f h
 refine⟨fun a=>?_,fun a=>?_⟩
 ·have a:=beq_iff_eq.1 a
  rw[if_pos a,if_pos a]at k;exact k
 ·have a:=beq_eq_false_iff_ne.1 a
  rw[if_neg a,if_neg a]at k;exact k
def bMots:BFact:=bfact 79 fun f rest=>match rest with
 |[] =>some (.req (motPre f) (.node (f.mode==3) (.leaf (V4.sv z4,f)) (.leaf (V4.sv (runP f),runF f))))
 |_=>none
theorem o_bmots:bMots.ok Tryz.prog:=bfact_ok fun f rest t ht=>by
 split at ht
 ·injection ht with ht;subst ht;exact fun h=>mots_says f h
 ·cases ht
def fGv:Fact:=Gc.factC 71 fun c=>.leaf (.bool c.valid)
def fGvR:Fact:=Gc.factC 74 fun c=>.leaf (.bool c.validR)
def accS(f:Fw)(line:Int)(c:Gc.C):SV:=if accE f line c=0 then .tuple [(accF f line c).sv,I64 0]else .tuple [.agg (nilC fw0),I64 (accE f line c)]
theorem o_gv:fGv.ok Tryz.prog:=Gc.factC_ok fun c=>Gc.s_valid c
theorem o_gvR:fGvR.ok Tryz.prog:=Gc.factC_ok fun c=>Gc.s_validR c
noncomputable def itemsA:List Item:=stopIt (segX (Env.ofB Tryz.prog (sumOf [fValid,fGv,fTouch]) (wrOf [wStp,wRst,wPau,wMove,wDwe,wHome,wFan,wHea]) (pnOf []) (bxOf []) (rdOf []) (rdOf []) (rdOf []) (rdOf [3])) 1000 (fnOf Tryz.prog 24) 0 (keepS 114 []) (codeS Tryz.prog 24) .all (startS Tryz.prog 24 [fw0.sv,I64 0,(⟨0,0,0,0,0,0,0,0⟩:Gc.C).sv]) [])
def ac0_p:Plan:=.fork (.ln 11 (.lit .all)) (.ln 3 (.fork (.ln 7 (.lit .all)) (.lit (.lit (.fork (.ln 7 (.fork (.lit (.lit (.lit .all))) (.lit (.lit (.fork .all .all))))) (.ln 10 (.fork .all .all)))))))
noncomputable def ac0_t(f:Fw)(line:Int)(c:Gc.C):Tree Stop:=let y1:Tree Stop:=.leaf (.done (.tuple [.agg (nilC fw0),.int .i64 1]));let y0:Tree Stop:=.node (decide (line>1099511627776)) y1 (.leaf (.at itemsA 114 (slotsS 114 [(1,.int .i64 line),(3,.ptr 0 0),(5,.ptr 1 0),(6,.ptr 2 0)]) [some (.cells (Fw.cells f)),some (.cells [.int .i64 c.code,.int .i64 c.has,.int .i64 c.x,.int .i64 c.y,.int .i64 c.z,.int .i64 c.e,.int .i64 c.f,.int .i64 c.s]),some (.cells (nilC fw0))])); .node (!validF f) y1 (.node (!c.valid) y1 (.node (line != 0) (.node (line != i64.wrap (f.line+1)) y1 y0) y0))
theorem ac0(f:Fw)(line:Int)(c:Gc.C):segR (Env.ofB Tryz.prog (sumOf [fValid,fGv,fTouch]) (wrOf [wStp,wRst,wPau,wMove,wDwe,wHome,wFan,wHea]) (pnOf []) (bxOf []) (rdOf []) (rdOf []) (rdOf []) (rdOf [3])) 1000 (fnOf Tryz.prog 24) .unit (keepS 114 [1,3,5,6]) (codeS Tryz.prog 24) ac0_p (startS Tryz.prog 24 [f.sv,I64 line,c.sv]) [] =ac0_t f line c:=by kernel_rfl
def acT_p:Plan:=.fork (.ln 12 (.lit .all)) (.fork (.ln 12 (.fork .all .all)) (.fork (.fork (.ln 4 (.fork .all (.ln 7 (.fork .all .all)))) (.fork (.fork (.ln 4 (.fork .all (.ln 4 (.fork (.ln 5 (.lit .all)) (.ln 5 (.fork .all (.fork .all .all))))))) (.fork (.ln 4 (.fork .all (.ln 4 (.fork (.ln 5 (.lit .all)) (.ln 5 (.fork .all (.fork .all .all))))))) (.fork (.ln 4 (.fork .all (.ln 4 (.fork (.ln 5 (.lit .all)) (.ln 5 (.fork .all (.fork .all .all))))))) (.fork (.fork (.ln 4 (.fork .all (.ln 4 (.fork (.ln 5 (.lit .all)) (.ln 5 (.fork .all (.lit .all))))))) (.ln 4 (.fork .all (.ln 4 (.fork (.ln 5 (.lit .all)) (.ln 5 (.fork .all (.fork .all .all)))))))) (.fork (.ln 4 (.fork .all (.ln 4 (.fork (.ln 5 (.lit .all)) (.ln 5 (.fork .all (.lit .all))))))) (.ln 4 (.fork .all (.ln 4 (.fork (.ln 5 (.lit .all)) (.ln 5 (.fork .all (.fork .all .all)))))))))))) (.fork (.ln 4 (.fork .all (.ln 4 (.fork (.ln 5 (.lit .all)) (.ln 5 (.fork .all (.fork .all .all))))))) (.fork (.ln 4 (.fork .all (.ln 4 (.fork (.ln 5 (.lit .all)) (.ln 5 (.fork .all (.fork .all .all))))))) (.fork (.ln 4 (.fork .all (.ln 4 (.fork (.ln 5 (.lit .all)) (.ln 5 (.fork .all (.fork .all .all))))))) (.fork (.fork (.ln 4 (.fork .all (.ln 4 (.fork (.ln 5 (.lit .all)) (.ln 5 (.fork .all (.lit .all))))))) (.ln 4 (.fork .all (.ln 4 (.fork (.ln 5 (.lit .all)) (.ln 5 (.fork .all (.fork .all .all)))))))) (.fork (.ln 4 (.fork .all (.ln 4 (.fork (.ln 5 (.lit .all)) (.ln 5 (.fork .all (.lit .all))))))) (.ln 4 (.fork .all (.ln 4 (.fork (.ln 5 (.lit .all)) (.ln 5 (.fork .all (.fork .all .all)))))))))))))) (.fork (.ln 4 (.fork .all (.ln 7 (.fork .all .all)))) (.fork (.fork (.ln 4 (.fork .all (.ln 4 (.fork (.ln 5 (.lit .all)) (.ln 5 (.fork .all (.fork .all .all))))))) (.fork (.ln 4 (.fork .all (.ln 4 (.fork (.ln 5 (.lit .all)) (.ln 5 (.fork .all (.fork .all .all))))))) (.fork (.ln 4 (.fork .all (.ln 4 (.fork (.ln 5 (.lit .all)) (.ln 5 (.fork .all (.fork .all .all))))))) (.fork (.fork (.ln 4 (.fork .all (.ln 4 (.fork (.ln 5 (.lit .all)) (.ln 5 (.fork .all (.lit .all))))))) (.ln 4 (.fork .all (.ln 4 (.fork (.ln 5 (.lit .all)) (.ln 5 (.fork .all (.fork .all .all)))))))) (.fork (.ln 4 (.fork .all (.ln 4 (.fork (.ln 5 (.lit .all)) (.ln 5 (.fork .all (.lit .all))))))) (.ln 4 (.fork .all (.ln 4 (.fork (.ln 5 (.lit .all)) (.ln 5 (.fork .all (.fork .all .all)))))))))))) (.fork (.ln 4 (.fork .all (.ln 4 (.fork (.ln 5 (.lit .all)) (.ln 5 (.fork .all (.fork .all .all))))))) (.fork (.ln 4 (.fork .all (.ln 4 (.fork (.ln 5 (.lit .all)) (.ln 5 (.fork .all (.fork .all .all))))))) (.fork (.ln 4 (.fork .all (.ln 4 (.fork (.ln 5 (.lit .all)) (.ln 5 (.fork .all (.fork .all .all))))))) (.fork (.fork (.ln 4 (.fork .all (.ln 4 (.fork (.ln 5 (.lit .all)) (.ln 5 (.fork .all (.lit .all))))))) (.ln 4 (.fork .all (.ln 4 (.fork (.ln 5 (.lit .all)) (.ln 5 (.fork .all (.fork .all .all)))))))) (.fork (.ln 4 (.fork .all (.ln 4 (.fork (.ln 5 (.lit .all)) (.ln 5 (.fork .all (.lit .all))))))) (.ln 4 (.fork .all (.ln 4 (.fork (.ln 5 (.lit .all)) (.ln 5 (.fork .all (.fork .all .all))))))))))))))))
noncomputable def acT_t(f:Fw)(line:Int)(c:Gc.C):Tree Stop:=let y2:=slotsS 114 [(1,.int .i64 line),(5,.ptr 0 0),(6,.ptr 1 0),(11,.ptr 2 0),(80,.int .i64 0)];let y3:Tree Stop:=.leaf (.done (.tuple [.agg (nilC fw0),.int .i64 18]));let y7:Tree Stop:=.leaf (.done (.tuple [.agg (nilC fw0),.int .i64 16]));let y8:=loopOf Tryz.prog 24 0;let y1:Tree Stop:=.node (f.mode==3) y7 (.node (f.waits != 0) y3 (.node (f.dwell != 0) y3 (.req (validF f) (.req (c.valid) (.node (moveA f line c != 0) (.leaf (.done (.tuple [.agg (nilC fw0),.int .i64 (moveA f line c)]))) (.leaf (.at y8 114 y2 [some (.cells [.int .i64 c.code,.int .i64 c.has,.int .i64 c.x,.int .i64 c.y,.int .i64 c.z,.int .i64 c.e,.int .i64 c.f,.int .i64 c.s]),some (.cells (nilC fw0)),some (.cells (Fw.cells (moveO f line c)))])))))));let y4:Tree Stop:=.node (f.mode==3) y7 (.node (f.waits != 0) y3 (.node (f.dwell != 0) y3 (.node (heaE f c != 0) (.leaf (.done (.tuple [.agg (nilC fw0),.int .i64 (heaE f c)]))) (.leaf (.at y8 114 y2 [some (.cells [.int .i64 c.code,.int .i64 c.has,.int .i64 c.x,.int .i64 c.y,.int .i64 c.z,.int .i64 c.e,.int .i64 c.f,.int .i64 c.s]),some (.cells (nilC fw0)),some (.cells (Fw.cells (heaF f c)))])))));let y5:Tree Stop:=.node (f.mode==3) y7 (.node (pauE f c != 0) (.leaf (.done (.tuple [.agg (nilC fw0),.int .i64 (pauE f c)]))) (.leaf (.at y8 114 y2 [some (.cells [.int .i64 c.code,.int .i64 c.has,.int .i64 c.x,.int .i64 c.y,.int .i64 c.z,.int .i64 c.e,.int .i64 c.f,.int .i64 c.s]),some (.cells (nilC fw0)),some (.cells (Fw.cells (pauF f c)))])));let y6:Tree Stop:=.node (f.mode==3) y7 (.node (f.waits != 0) y3 (.node (f.dwell != 0) y3 (.leaf (.at y8 114 y2 [some (.cells [.int .i64 c.code,.int .i64 c.has,.int .i64 c.x,.int .i64 c.y,.int .i64 c.z,.int .i64 c.e,.int .i64 c.f,.int .i64 c.s]),some (.cells (nilC fw0)),some (.cells (Fw.cells {f with fan:=c.s}))]))));let y0:Tree Stop:=.node (c.code==4) (.node (f.mode==3) y7 (.node (f.waits != 0) y3 (.node (f.dwell != 0) y3 (.node (dweE f != 0) (.leaf (.done (.tuple [.agg (nilC fw0),.int .i64 (dweE f)]))) (.leaf (.at y8 114 y2 [some (.cells [.int .i64 c.code,.int .i64 c.has,.int .i64 c.x,.int .i64 c.y,.int .i64 c.z,.int .i64 c.e,.int .i64 c.f,.int .i64 c.s]),some (.cells (nilC fw0)),some (.cells (Fw.cells (dweF f c)))])))))) (.node (c.code==28) (.node (f.mode==3) y7 (.node (f.waits != 0) y3 (.node (f.dwell != 0) y3 (.req (validF f) (.node (homeA f line != 0) (.leaf (.done (.tuple [.agg (nilC fw0),.int .i64 (homeA f line)]))) (.leaf (.at y8 114 y2 [some (.cells [.int .i64 c.code,.int .i64 c.has,.int .i64 c.x,.int .i64 c.y,.int .i64 c.z,.int .i64 c.e,.int .i64 c.f,.int .i64 c.s]),some (.cells (nilC fw0)),some (.cells (Fw.cells (homeO f line)))]))))))) (.node (c.code==1106) (.node (c.code==1106) y6 y4) (.node (c.code==1107) y6 y4)));let y9:Tree Stop:=.node (c.code==0) (.node (c.code==0) y1 y0) (.node (c.code==1) y1 y0); .node (c.code==1112) (.req (stopPre f line) (.leaf (.at y8 114 y2 [some (.cells [.int .i64 c.code,.int .i64 c.has,.int .i64 c.x,.int .i64 c.y,.int .i64 c.z,.int .i64 c.e,.int .i64 c.f,.int .i64 c.s]),some (.cells (nilC fw0)),some (.cells (Fw.cells (stopF (lineF f line))))]))) (.node (c.code==1999) (.node (resE f != 0) (.leaf (.done (.tuple [.agg (nilC fw0),.int .i64 (resE f)]))) (.leaf (.at y8 114 y2 [some (.cells [.int .i64 c.code,.int .i64 c.has,.int .i64 c.x,.int .i64 c.y,.int .i64 c.z,.int .i64 c.e,.int .i64 c.f,.int .i64 c.s]),some (.cells (nilC fw0)),some (.cells (Fw.cells (resO f)))]))) (.node (c.code==1025) (.node (c.code==1025) y5 y9) (.node (c.code==1024) y5 y9)))
theorem acT(f:Fw)(line:Int)(c:Gc.C):segR (Env.ofB Tryz.prog (sumOf [fValid,fGv,fTouch]) (wrOf [wStp,wRst,wPau,wMove,wDwe,wHome,wFan,wHea]) (pnOf []) (bxOf []) (rdOf []) (rdOf []) (rdOf []) (rdOf [])) 1000 (fnOf Tryz.prog 24) .unit (keepS 114 [1,5,6,11,80]) itemsA acT_p (slotsS 114 [(1,I64 line),(3,.ptr 0 0),(5,.ptr 1 0),(6,.ptr 2 0)]) [some (.cells f.cells),some (.cells c.cells),some (.cells (nilC fw0))] =acT_t f line c:=by kernel_rfl
def ac1_p:Plan:=.lit (.go (.lit (.go (.lit (.fork (.ln 3 (.fork .all .all)) (.ln 3 (.lit .all)))))))
noncomputable def ac1_t(g:Fw)(line:Int)(c:Gc.C):Tree Stop:= .req (true) (.req true (.req (true) (.req true (.node (line != 0) (.node (c.code != 1112) (.leaf (.done (.tuple [.agg (Fw.cells {g with g0:=g.g0.touch,g1:=g.g1.touch,line:=line}),.int .i64 0]))) (.leaf (.done (.tuple [.agg (Fw.cells {g with g0:=g.g0.touch,g1:=g.g1.touch}),.int .i64 0])))) (.leaf (.done (.tuple [.agg (Fw.cells {g with g0:=g.g0.touch,g1:=g.g1.touch}),.int .i64 0])))))))
theorem ac1(g:Fw)(line:Int)(c:Gc.C):segR (Env.ofB Tryz.prog (sumOf [fValid,fGv,fTouch]) (wrOf [wStp,wRst,wPau,wMove,wDwe,wHome,wFan,wHea]) (pnOf []) (bxOf []) (rdOf []) (rdOf []) (rdOf []) (rdOf [])) 1000 (fnOf Tryz.prog 24) .unit (keepS 114 [1,5,6,11,80]) (loopOf Tryz.prog 24 0) ac1_p (slotsS 114 [(1,I64 line),(5,.ptr 0 0),(6,.ptr 1 0),(11,.ptr 2 0),(80,I64 0)]) [some (.cells c.cells),some (.cells (nilC fw0)),some (.cells g.cells)] =ac1_t g line c:=by kernel_rfl
theorem kAc:Known Tryz.prog (Env.ofB Tryz.prog (sumOf [fValid,fGv,fTouch]) (wrOf [wStp,wRst,wPau,wMove,wDwe,wHome,wFan,wHea]) (pnOf []) (bxOf []) (rdOf []) (rdOf []) (rdOf []) (rdOf [])):=(hB (l:=[fValid,fGv,fTouch]) (k:=[wStp,wRst,wPau,wMove,wDwe,wHome,wFan,wHea]) (j:=[]) (i:=[]) ([] :List Nat) ([] :List Nat) ([] :List Nat) ([] :List Nat) (⟨o_valid,o_gv,o_touch,trivial⟩) (allQ.all (p:=WFact.ok Tryz.prog) (l:=[wStp,wRst,wPau,wMove,wDwe,wHome,wFan,wHea]) ⟨o_wstp,o_wrst,o_wpau,o_wMove,o_wdwe,o_wHome,o_wfan,o_whea,trivial⟩) noneOk noneOk)
section
variable {f:Fw} {line:Int} {c:Gc.C}
theorem mov_ok(h:moveA f line c=0):moveO f line c=moveF f line c:=by
 unfold moveA at h
 split at h
 ·rename_i e
  unfold moveO moveF
  rw[if_pos e,tlO_ok h]
 ·rename_i e;exact absurd h e
theorem rst_ok(h:resE f=0):resO f=resF f:=by
 unfold resE at h
 unfold resO
 split at h
 ·omega
 ·rename_i m
  rw[if_neg m]
  split at h
  ·omega
  ·rename_i n
   rw[if_neg (fun k=>n (.inl k)),if_neg (fun k=>n (.inr k))]
theorem hom_ok(h:homeA f line=0):homeO f line=homeF f line:=by
 unfold homeA at h
 split at h
 ·omega
 ·rename_i n1
  split at h
  ·omega
  ·rename_i n2
   unfold homeO homeF
   rw[if_neg n1,if_neg n2]
   split
   ·rfl
   ·rename_i n3
    unfold homeX at h
    rw[if_neg n3]at h
    split at h
    ·omega
    ·rename_i n4
     split at h
     ·omega
     ·rename_i n5
      have n4:backOk (home0 f line) (homeC f line)=true:=by simpa using n4
      have n5:backOk (backF (home0 f line) (homeC f line)) (homeD f line)=true:=by simpa using n5
      unfold hO1 hO2
      rw[if_pos n4,if_pos n5,backF_ma,backF_ret];rfl
theorem dwe_ok(h:dweE f=0):dweF f c={f with dwell:=c.s}:=by
 unfold dweE at h
 split at h
 ·rename_i e;exact if_pos e
 ·omega
theorem pau_no(hc:c.code=1025):pauE f c=(if f.mode=1 then 0 else 14)∧(pauE f c=0→pauF f c={f with mode:=2}):=by
 have n:¬c.code=1024:=by omega
 have e:pauE f c=(if f.mode=1 then 0 else 14):=if_neg n
 refine⟨e,fun h=>?_⟩
 rw[e]at h
 split at h
 ·rename_i k
  unfold pauF;rw[if_neg n,if_pos k]
 ·omega
theorem pau_yes(hc:c.code=1024):pauE f c=(if f.mode=2 then 0 else 14)∧(pauE f c=0→pauF f c={f with mode:=1}):=by
 have e:pauE f c=(if f.mode=2 then 0 else 14):=if_pos hc
 refine⟨e,fun h=>?_⟩
 rw[e]at h
 split at h
 ·rename_i k
  unfold pauF;rw[if_pos hc,if_pos k]
 ·omega
def endF(g:Fw)(line:Int)(c:Gc.C):Fw:=if line=0∨c.code=1112 then touchF g else {touchF g with line:=line}
theorem ac1_run(g:Fw):RunsR Tryz.prog (fnOf Tryz.prog 24) (.tuple [(endF g line c).sv,I64 0]) (loopOf Tryz.prog 24 0) (slotsS 114 [(1,I64 line),(5,.ptr 0 0),(6,.ptr 1 0),(11,.ptr 2 0),(80,I64 0)]) [some (.cells c.cells),some (.cells (nilC fw0)),some (.cells g.cells)] :=by
 refine runsR_seg kAc (n:=1000) (hint:=.unit) (keep:=keepS 114 [1,5,6,11,80]) (p:=ac1_p) rfl ?_
 erw [ac1 g line c]
 unfold ac1_t endF
 refine⟨rfl,rfl,rfl,rfl,fun l=>⟨fun k=>?_,fun k=>?_⟩,fun l=>?_⟩
 ·rw[if_neg (by have:=bne_iff_ne.1 l;have:=bne_iff_ne.1 k;omega)];rfl
 ·rw[if_pos (.inr (bne_eq_false_iff_eq.1 k))];rfl
 ·rw[if_pos (.inl (bne_eq_false_iff_eq.1 l))];rfl
end
theorem val_s{c:Gc.C}(h:c.valid=true)(n4:¬c.code=4):0≤c.s∧c.s≤400000:=by
 unfold Gc.C.valid at h
 rw[Bool.and_eq_true]at h
 have r:=h.2
 simp only[Gc.rest,Bool.and_eq_true]at r
 have h5:Gc.okW c 5=true:=r.2.2.2.2.2.1
 unfold Gc.okW at h5
 have e:c.num 5=c.s:=by unfold Gc.C.num;simp
 have e1:Gc.lo c.code 5=0:=by unfold Gc.lo;simp
 have e2:Gc.hi c.code 5≤400000:=by unfold Gc.hi;simp[n4];split<;>omega
 rw[e,e1]at h5
 split at h5
 ·have:=beq_iff_eq.1 h5;omega
 ·have:=inR_iff.1 h5;omega
section
variable {f:Fw} {c:Gc.C}
theorem hea_zero(v:VF f)(hc:c.valid=true)(n4:¬c.code=4):heaE f c=0∧heaF f c={heaG f c with waits:=heaW f c}:=by
 have s:=val_s hc n4
 have a0:aimOk f.c0 c.s=true:=aimOk_iff.2 ⟨v.c0,s⟩
 have a1:aimOk f.c1 c.s=true:=aimOk_iff.2 ⟨v.c1,s⟩
 have e:heaE f c=0:=by unfold heaE;rw[if_pos a0,if_pos a1];split<;>rfl
 exact⟨e,if_pos e⟩
theorem hea_1104(h:c.code=1104):({heaG f c with waits:=heaW f c}:Fw)={f with c0:=f.c0.aim c.s}:=by
 have b:bedB c=false:=by unfold bedB;rw[h];rfl
 have w:waiB c=false:=by unfold waiB;rw[h];rfl
 unfold heaG heaW;rw[b,w];rfl
theorem hea_1109(h:c.code=1109):({heaG f c with waits:=heaW f c}:Fw)={f with c0:=f.c0.aim c.s,waits:=orB f.waits 1}:=by
 have b:bedB c=false:=by unfold bedB;rw[h];rfl
 have w:waiB c=true:=by unfold waiB;rw[h];rfl
 unfold heaG heaW;rw[b,w];rfl
theorem hea_1140(h:c.code=1140):({heaG f c with waits:=heaW f c}:Fw)={f with c1:=f.c1.aim c.s}:=by
 have b:bedB c=true:=by unfold bedB;rw[h];rfl
 have w:waiB c=false:=by unfold waiB;rw[h];rfl
 unfold heaG heaW;rw[b,w];rfl
theorem hea_1190(h:c.code=1190):({heaG f c with waits:=heaW f c}:Fw)={f with c1:=f.c1.aim c.s,waits:=orB f.waits 2}:=by
 have b:bedB c=true:=by unfold bedB;rw[h];rfl
 have w:waiB c=true:=by unfold waiB;rw[h];rfl
 unfold heaG heaW;rw[b,w];rfl
end
def doS(f:Fw)(line:Int)(c:Gc.C):SV:=if doE f line c=0 then .tuple [(endF (doF f line c) line c).sv,I64 0]else .tuple [.agg (nilC fw0),I64 (doE f line c)]
section
variable {f:Fw} {line:Int} {c:Gc.C}
theorem doS_data:(doS f line c).data=true:=by unfold doS;split<;>rfl
theorem doS_err{k:Int}(e:doE f line c=k)(n:¬k=0):SV.tuple [.agg (nilC fw0),.int .i64 k] =doS f line c:=by unfold doS;rw[e,if_neg n]<;>rfl
theorem doS_ok(e:doE f line c=0){g:Fw}(d:doF f line c=g):doS f line c=.tuple [(endF g line c).sv,I64 0] :=by unfold doS;rw[if_pos e,d]
abbrev AtL(f g:Fw)(line:Int)(c:Gc.C):Prop:=RunsR Tryz.prog (fnOf Tryz.prog 24) (doS f line c) (loopOf Tryz.prog 24 0) (slotsS 114 [(1,I64 line),(5,.ptr 0 0),(6,.ptr 1 0),(11,.ptr 2 0),(80,I64 0)]) [some (.cells c.cells),some (.cells (nilC fw0)),some (.cells g.cells)]
theorem at_ok(e:doE f line c=0){g:Fw}(d:doF f line c=g):AtL f g line c:=by unfold AtL;rw[doS_ok e d];exact ac1_run g
theorem code_in(h:c.valid=true):c.code=0∨c.code=1∨c.code=4∨c.code=28∨c.code=1024∨c.code=1025∨c.code=1104∨c.code=1106∨c.code=1107∨c.code=1109∨c.code=1112∨c.code=1140∨c.code=1190∨c.code=1999:=by
 unfold Gc.C.valid Gc.C.pre at h
 simp only[Bool.and_eq_true]at h
 have o:=h.1.1
 simp only[Gc.okC,Bool.or_eq_true,decide_eq_true_eq]at o
 rcases o with o|o|o|o
 ·omega
 ·omega
 ·unfold Gc.oneS at o;omega
 ·unfold Gc.none0 at o;omega
theorem doE_1112(h:c.code=1112):doE f line c=0:=if_pos h
theorem doF_1112(h:c.code=1112):doF f line c=stopF (lineF f line):=if_pos h
end
theorem n_eq{α:Type}{L:α→Prop}{a k:Int}{T F:Tree α}(h:a=k→T.holds L)(h':¬a=k→F.holds L):(Tree.node (a==k) T F).holds L:=⟨fun e=>h (beq_iff_eq.1 e),fun e=>h' (beq_eq_false_iff_ne.1 e)⟩
theorem n_ne{α:Type}{L:α→Prop}{a k:Int}{T F:Tree α}(h:¬a=k→T.holds L)(h':a=k→F.holds L):(Tree.node (a != k) T F).holds L:=⟨fun e=>h (bne_iff_ne.1 e),fun e=>h' (bne_eq_false_iff_eq.1 e)⟩
theorem n_bool{α:Type}{L:α→Prop}{b:Bool}{T F:Tree α}(h:b=true→T.holds L)(h':b=false→F.holds L):(Tree.node b T F).holds L:=⟨h,h'⟩
theorem n_not{α:Type}{L:α→Prop}{b:Bool}{T F:Tree α}(h:b=false→T.holds L)(h':b=true→F.holds L):(Tree.node (!b) T F).holds L:=⟨fun e=>h (by simpa using e),fun e=>h' (by simpa using e)⟩
theorem n_dec{α:Type}{L:α→Prop}{p:Prop}[Decidable p]{T F:Tree α}(h:p→T.holds L)(h':¬p→F.holds L):(Tree.node (decide p) T F).holds L:=⟨fun e=>h (of_decide_eq_true e),fun e=>h' (of_decide_eq_false e)⟩
theorem n_req{α:Type}{L:α→Prop}{b:Bool}{T:Tree α}(h:b=true)(h':T.holds L):(Tree.req b T).holds L:=⟨h,h'⟩
section
variable {f:Fw} {line:Int} {c:Gc.C}
theorem e_res(a:c.code=1999):doE f line c=resE f:=by unfold doE;rw[if_neg (by omega),if_pos a]
theorem e_f3(a:¬c.code=1112)(b:¬c.code=1999)(m:f.mode=3):doE f line c=16:=by unfold doE;rw[if_neg a,if_neg b,if_pos m]
theorem e_pau(a:c.code=1024∨c.code=1025)(m:¬f.mode=3):doE f line c=pauE f c:=by
 unfold doE pauE
 rw[if_neg (by omega),if_neg (by omega),if_neg m]
 by_cases h:c.code=1024
 ·rw[if_neg (by omega),if_pos h,if_pos h]
 ·rw[if_pos (by omega),if_neg h]
theorem e_wait(a:¬c.code=1112∧¬c.code=1999∧¬c.code=1024∧¬c.code=1025)(m:¬f.mode=3)(w:¬f.waits=0∨¬f.dwell=0):doE f line c=18:=by
 unfold doE
 rw[if_neg a.1,if_neg a.2.1,if_neg m,if_neg a.2.2.2,if_neg a.2.2.1,if_pos w]
theorem e_late(a:¬c.code=1112∧¬c.code=1999∧¬c.code=1024∧¬c.code=1025)(m:¬f.mode=3)(w:f.waits=0∧f.dwell=0):doE f line c=if c.code=0∨c.code=1 then moveA f line c else if c.code=4 then(if idleB f=true then 0 else 18)else if c.code=28 then homeA f line else 0:=by
 unfold doE
 rw[if_neg a.1,if_neg a.2.1,if_neg m,if_neg a.2.2.2,if_neg a.2.2.1,if_neg (by omega)]
theorem e_mov(k:c.code=0∨c.code=1)(m:¬f.mode=3)(w:f.waits=0∧f.dwell=0):doE f line c=moveA f line c:=by rw[e_late (by omega) m w,if_pos k]
theorem e_dwe(k:c.code=4)(m:¬f.mode=3)(w:f.waits=0∧f.dwell=0):doE f line c=dweE f:=by rw[e_late (by omega) m w,if_neg (by omega),if_pos k];rfl
theorem e_hom(k:c.code=28)(m:¬f.mode=3)(w:f.waits=0∧f.dwell=0):doE f line c=homeA f line:=by rw[e_late (by omega) m w,if_neg (by omega),if_neg (by omega),if_pos k]
theorem e_oth(k:¬c.code=0∧¬c.code=1∧¬c.code=4∧¬c.code=28)(a:¬c.code=1112∧¬c.code=1999∧¬c.code=1024∧¬c.code=1025)(m:¬f.mode=3)(w:f.waits=0∧f.dwell=0):doE f line c=0:=by rw[e_late a m w,if_neg (by omega),if_neg (by omega),if_neg (by omega)]
theorem d_late(a:¬c.code=1112∧¬c.code=1999∧¬c.code=1024∧¬c.code=1025):doF f line c=if c.code=0∨c.code=1 then moveF f line c else if c.code=4 then {f with dwell:=c.s} else if c.code=28 then homeF f line else if c.code=1104 then {f with c0:=f.c0.aim c.s} else if c.code=1109 then {f with c0:=f.c0.aim c.s,waits:=orB f.waits 1} else if c.code=1140 then {f with c1:=f.c1.aim c.s} else if c.code=1190 then {f with c1:=f.c1.aim c.s,waits:=orB f.waits 2} else {f with fan:=c.s}:=by
 unfold doF;rw[if_neg a.1,if_neg a.2.1,if_neg a.2.2.2,if_neg a.2.2.1]
theorem d_mov(k:c.code=0∨c.code=1)(h:moveA f line c=0):doF f line c=moveO f line c:=by rw[d_late (by omega),if_pos k,mov_ok h]
theorem d_dwe(k:c.code=4)(h:dweE f=0):doF f line c=dweF f c:=by rw[d_late (by omega),if_neg (by omega),if_pos k,dwe_ok h]
theorem d_hom(k:c.code=28)(h:homeA f line=0):doF f line c=homeO f line:=by rw[d_late (by omega),if_neg (by omega),if_neg (by omega),if_pos k,hom_ok h]
theorem d_res(k:c.code=1999)(h:resE f=0):doF f line c=resO f:=by unfold doF;rw[if_neg (by omega),if_pos k,rst_ok h]
theorem d_pau(k:c.code=1024∨c.code=1025)(h:pauE f c=0):doF f line c=pauF f c:=by
 unfold doF;rw[if_neg (by omega),if_neg (by omega)]
 by_cases a:c.code=1024
 ·rw[if_neg (by omega),if_pos a,(pau_yes a).2 h]
 ·rw[if_pos (by omega),(pau_no (by omega)).2 h]
theorem d_fan(k:c.code=1106∨c.code=1107):doF f line c={f with fan:=c.s}:=by rw[d_late (by omega),if_neg (by omega),if_neg (by omega),if_neg (by omega),if_neg (by omega),if_neg (by omega),if_neg (by omega),if_neg (by omega)]
theorem d_hea(v:VF f)(hc:c.valid=true)(k:c.code=1104∨c.code=1109∨c.code=1140∨c.code=1190):doF f line c=heaF f c:=by
 rw[d_late (by omega),if_neg (by omega),if_neg (by omega),if_neg (by omega),(hea_zero v hc (by omega)).2]
 rcases k with k|k|k|k
 ·rw[if_pos k,hea_1104 k]
 ·rw[if_neg (by omega),if_pos k,hea_1109 k]
 ·rw[if_neg (by omega),if_neg (by omega),if_pos k,hea_1140 k]
 ·rw[if_neg (by omega),if_neg (by omega),if_neg (by omega),if_pos k,hea_1190 k]
theorem code_hea(hc:c.valid=true)(h:¬c.code=0∧¬c.code=1∧¬c.code=4∧¬c.code=28∧¬c.code=1024∧¬c.code=1025∧¬c.code=1106∧¬c.code=1107∧¬c.code=1112∧¬c.code=1999):c.code=1104∨c.code=1109∨c.code=1140∨c.code=1190:=by
 have:=code_in hc;omega
set_option maxHeartbeats 4000000 in
theorem acT_run(v:validF f=true)(hc:c.valid=true)(hs:stopPre f line=true):RunsR Tryz.prog (fnOf Tryz.prog 24) (doS f line c) itemsA (slotsS 114 [(1,I64 line),(3,.ptr 0 0),(5,.ptr 1 0),(6,.ptr 2 0)]) [some (.cells f.cells),some (.cells c.cells),some (.cells (nilC fw0))] :=by
 refine runsR_seg kAc (n:=1000) (hint:=.unit) (keep:=keepS 114 [1,5,6,11,80]) (p:=acT_p) doS_data ?_
 erw [acT f line c]
 unfold acT_t
 have vf:=vf_of v
 repeat' first
  |refine n_eq (fun _=>?_) (fun _=>?_)
  |refine n_ne (fun _=>?_) (fun _=>?_)
  |refine n_req hs ?_
  |refine n_req v ?_
  |refine n_req hc ?_
 all_goals first
  |(exfalso;omega)
  |exact doS_err (e_f3 (by omega) (by omega) (by assumption)) (by omega)
  |exact doS_err (e_wait (by omega) (by assumption) (by omega)) (by omega)
  |exact doS_err (e_res (by assumption)) (by assumption)
  |exact doS_err (e_pau (by omega) (by assumption)) (by assumption)
  |exact doS_err (e_mov (by omega) (by assumption) (by omega)) (by assumption)
  |exact doS_err (e_dwe (by omega) (by assumption) (by omega)) (by assumption)
  |exact doS_err (e_hom (by omega) (by assumption) (by omega)) (by assumption)
  |exact absurd (hea_zero vf hc (by omega)).1 (by assumption)
  |exact⟨rfl,at_ok (doE_1112 (by assumption)) (doF_1112 (by assumption))⟩
  |exact⟨rfl,at_ok ((e_res (by assumption)).trans (by assumption)) (d_res (by assumption) (by assumption))⟩
  |exact⟨rfl,at_ok ((e_pau (by omega) (by assumption)).trans (by assumption)) (d_pau (by omega) (by assumption))⟩
  |exact⟨rfl,at_ok ((e_mov (by omega) (by assumption) (by omega)).trans (by assumption)) (d_mov (by omega) (by assumption))⟩
  |exact⟨rfl,at_ok ((e_dwe (by omega) (by assumption) (by omega)).trans (by assumption)) (d_dwe (by omega) (by assumption))⟩
  |exact⟨rfl,at_ok ((e_hom (by omega) (by assumption) (by omega)).trans (by assumption)) (d_hom (by omega) (by assumption))⟩
  |exact⟨rfl,at_ok (e_oth (by omega) (by omega) (by assumption) (by omega)) (d_fan (by omega))⟩
  |exact⟨rfl,at_ok (e_oth (by omega) (by omega) (by assumption) (by omega)) (d_hea vf hc (code_hea hc (by omega)))⟩
end
def resT(e:Int)(g:Fw):SV:=if e=0 then .tuple [g.sv,I64 0]else .tuple [.agg (nilC fw0),I64 e]
theorem resT_data(e:Int)(g:Fw):(resT e g).data=true:=by unfold resT;split<;>rfl
theorem resT_err{e k:Int}{g:Fw}(h:e=k)(n:¬k=0):SV.tuple [.agg (nilC fw0),.int .i64 k] =resT e g:=by subst h;unfold resT;rw[if_neg n];rfl
theorem resT_ok{e:Int}{g g':Fw}(h:e=0)(k:g=g'):SV.tuple [.agg g'.cells,.int .i64 0] =resT e g:=by subst k;unfold resT;rw[if_pos h];rfl
theorem resT_says{P:Program}{x:FuncId}{args:List SV}{e:Int}{g:Fw}(k:SCall P x args (resT e g)):(Tree.node (decide (e=0)) (.leaf (.tuple [g.sv,I64 0])) (.leaf (.tuple [.agg (nilC fw0),I64 e]))).says (SCall P x args):=by
 unfold resT at k
 refine⟨fun h=>?_,fun h=>?_⟩
 ·rw[if_pos (of_decide_eq_true h)]at k;exact k
 ·rw[if_neg (of_decide_eq_false h)]at k;exact k
theorem val_w5{c:Gc.C}(h:c.valid=true):Gc.okW c 5=true:=by
 unfold Gc.C.valid at h
 rw[Bool.and_eq_true]at h
 have r:=h.2
 simp only[Gc.rest,Bool.and_eq_true]at r
 exact r.2.2.2.2.2.1
theorem num_s(c:Gc.C):c.num 5=c.s:=by unfold Gc.C.num;simp
theorem val_s4{c:Gc.C}(h:c.valid=true):0≤c.s∧c.s≤1048576:=by
 have h5:=val_w5 h
 unfold Gc.okW at h5
 have e1:Gc.lo c.code 5=0:=by unfold Gc.lo;simp
 have e2:Gc.hi c.code 5≤1048576:=by unfold Gc.hi;simp;split<;>(try split)<;>omega
 rw[num_s,e1]at h5
 split at h5
 ·have:=beq_iff_eq.1 h5;omega
 ·have:=inR_iff.1 h5;omega
theorem val_fan{c:Gc.C}(h:c.valid=true)(k:c.code=1106∨c.code=1107):0≤c.s∧c.s≤255:=by
 have h5:=val_w5 h
 unfold Gc.okW at h5
 rw[num_s]at h5
 rcases k with k|k
 ·have e1:Gc.lo c.code 5=0:=by unfold Gc.lo;simp
  have e2:Gc.hi c.code 5=255:=by unfold Gc.hi;simp[k]
  rw[e1,e2]at h5
  split at h5
  ·have:=beq_iff_eq.1 h5;omega
  ·exact inR_iff.1 h5
 ·have hb:c.has=0:=by
   unfold Gc.C.valid Gc.C.pre at h
   simp only[Bool.and_eq_true]at h
   have q:=h.1.2.2
   have a:Gc.allW c.code=true:=by rw[k];decide
   have m:Gc.may c.code=0:=by rw[k];decide
   rw[a,m]at q
   simpa using q
  have b0:Gc.bit c.has 5=0:=by rw[hb];decide
  rw[if_pos b0]at h5
  have:=beq_iff_eq.1 h5;omega
theorem vf_mk{f:Fw}(p:partsB f=true)(m:1≤f.mode∧f.mode≤3)(n:numsB f=true)(mv:movesB f=true)(q:queuedB f=true)(e:(¬f.mode=3∧f.homed=true)∨(f.moving=false∧f.queue.length=0)):validF f=true:=
 validF_iff.2 ⟨p,modNumB_iff.2 ⟨m,n⟩,mv,q,endB_iff.2 e⟩
theorem valid_nums{f:Fw}(h:validF f=true):numsB f=true:=(modNumB_iff.1 (validF_iff.1 h).2.1).2
theorem valid_parts{f:Fw}(h:validF f=true):partsB f=true:=(validF_iff.1 h).1
theorem openV_pos{f:Fw}(h:shapeB f=true):1≤openV f:=by
 have s:=shapeB_iff.1 h
 have fl:∀ (l:List Int) (d:Int),1≤d→1≤firstL l d:=by
  intro l
  induction l with
  |nil=>exact fun d h=>h
  |cons x l ih=>
   intro d h
   unfold firstL
   by_cases k:0<x
   ·rw[if_pos k];omega
   ·rw[if_neg k];exact ih d h
 unfold openV
 split
 ·omega
 ·exact fl _ _ (by omega)
theorem stillB_zero{f:Fw}(h1:f.mo=m0)(h2:f.active=0):stillB f=true:=by
 unfold stillB;rw[h1,h2];decide
theorem queue0_idle{f:Fw}(h:f.moving=false)(hm:f.mo.1.1=z4):queue0 f=f.pos:=by
 unfold queue0;rw[begin4_off h,hm];exact add4_zero _
theorem queued_idle{f:Fw}(h:f.moving=false)(hm:f.mo.1.1=z4)(q:f.queue=[])(l:f.lines=[])(p:near4 f.pos=true)(r:near4 f.ret=true):queuedB f=true:=
 queuedB_iff.2 ⟨by rw[q];decide,by rw[q,l];rfl,p,r,by rw[begin4_off h];exact p,by rw[queue0_idle h hm];exact p,fun i hi=>by rw[q]at hi;exact absurd hi (Nat.not_lt_zero _)⟩
theorem still_mo{f:Fw}(h:validF f=true)(hm:f.moving=false):f.mo.1.1=z4:=by
 have v:=vf_of h
 have m:=v.moves
 rw[movesB_off hm]at m
 have q:=queue0_off v.moves hm
 unfold queue0 at q
 generalize begin4 f=b at q
 obtain⟨b1,b2,b3,b4⟩:=b
 generalize f.mo.1.1=x at q
 obtain⟨x1,x2,x3,x4⟩:=x
 unfold add4 at q
 simp only[Prod.mk.injEq]at q
 unfold z4
 simp only[Prod.mk.injEq]
 omega
theorem loseRet_near{f:Fw}(v:VF f):near4 (loseRet f)=true:=by
 unfold loseRet;split
 ·exact v.beg
 ·split
  ·exact v.pos
  ·exact v.ret
theorem lose_valid{f:Fw}(h:validF f=true):validF {loseF f with mode:=3}=true:=by
 have v:=vf_of h
 have vp:=valid_parts h
 have n:=v.nums
 have o1:=openV_rng v.shape
 have o2:=openV_pos v.shape
 refine vf_mk vp (by show 1≤(3:Int)∧(3:Int)≤3;omega) (numsB_iff.2 ?_) ?_ ?_ (.inr ⟨rfl,rfl⟩)
 ·show _∧_∧_∧_∧_∧((0:Int)≤0∧(0:Int)≤1048576)∧((0:Int)≤0∧(0:Int)≤3)∧_∧(0≤openV f-1∧openV f-1≤1099511627776)∧((0:Int)≤0∧(0:Int)≤1099511627776)∧_
  exact⟨n.1,n.2.1,n.2.2.1,n.2.2.2.1,n.2.2.2.2.1,by omega,by omega,n.2.2.2.2.2.2.2.1,by omega,by omega,n.2.2.2.2.2.2.2.2.2.2⟩
 ·rw[movesB_off rfl];exact stillB_zero rfl rfl
 ·exact queued_idle rfl rfl rfl rfl v.pos (loseRet_near v)
theorem line_valid{f:Fw}{line:Int}(h:validF f=true)(hl:0≤line∧line≤1099511627776):validF {f with line:=line}=true:=by
 have v:=vf_of h
 have vp:=valid_parts h
 have n:=v.nums
 refine vf_mk vp v.mode (numsB_iff.2 ?_) v.moves v.queued v.ends
 exact⟨n.1,n.2.1,n.2.2.1,n.2.2.2.1,n.2.2.2.2.1,n.2.2.2.2.2.1,n.2.2.2.2.2.2.1,n.2.2.2.2.2.2.2.1,hl,n.2.2.2.2.2.2.2.2.2⟩
theorem lineF_valid{f:Fw}{line:Int}(h:validF f=true)(hl:0≤line∧line≤1099511627776):validF (lineF f line)=true:=by
 unfold lineF;split
 ·exact h
 ·exact line_valid h hl
theorem guards_valid{f:Fw}{a b:Gu}(h:validF f=true)(ha:a.ok=true)(hb:b.ok=true):validF {f with g0:=a,g1:=b}=true:=by
 have v:=vf_of h
 have vn:=valid_nums h
 exact vf_mk (partsB_iff.2 ⟨v.ma,v.c0,v.c1,ha,hb⟩) v.mode vn v.moves v.queued v.ends
theorem touch_valid{f:Fw}(h:validF f=true):validF (touchF f)=true:=guards_valid h (Gu.touch_ok (vf_of h).g0).1 (Gu.touch_ok (vf_of h).g1).1
theorem stopG_valid{f:Fw}(h:validF f=true):validF (stopG f)=true:=guards_valid h (Gu.stop_ok (vf_of h).g0).1 (Gu.stop_ok (vf_of h).g1).1
theorem resG_ok{g:Gu}{r:Int}(h:g.ok=true)(k:resOk g r=true):(resG g r).ok=true∧(resG g r).fault=0∧(resG g r).low=g.low∧(resG g r).high=g.high:=by
 unfold resG
 split
 ·rename_i e;exact⟨h,e,rfl,rfl⟩
 ·rename_i e
  have:=resOk_iff.1 k
  exact Gu.rest_ok h (by rcases this with k|k;exact absurd k e;exact k)
theorem resE_zero{f:Fw}(h:resE f=0):f.mode=3∧resOk f.g0 f.r0=true∧resOk f.g1 f.r1=true:=by
 unfold resE at h
 split at h
 ·omega
 ·rename_i m
  split at h
  ·omega
  ·rename_i n
   exact⟨by omega,by simpa using fun k=>n (.inl k),by simpa using fun k=>n (.inr k)⟩
theorem res_valid{f:Fw}(h:validF f=true)(e:resE f=0):validF (resF f)=true:=by
 have v:=vf_of h
 have vn:=valid_nums h
 obtain⟨m,r0,r1⟩:=resE_zero e
 have en:f.moving=false∧f.queue.length=0:=by
  rcases v.ends with k|k
  ·exact absurd m k.1
  ·exact k
 exact vf_mk (partsB_iff.2 ⟨v.ma,v.c0,v.c1,(resG_ok v.g0 r0).1,(resG_ok v.g1 r1).1⟩) (by show 1≤(1:Int)∧(1:Int)≤3;omega) vn v.moves v.queued (.inr en)
theorem mode_valid{f:Fw}{m:Int}(h:validF f=true)(k:¬f.mode=3)(hm:1≤m∧m≤2):validF {f with mode:=m}=true:=by
 have v:=vf_of h
 have vp:=valid_parts h
 have vn:=valid_nums h
 refine vf_mk vp (by show 1≤m∧m≤3;omega) vn v.moves v.queued ?_
 rcases v.ends with e|e
 ·exact .inl ⟨by show ¬m=3;omega,e.2⟩
 ·exact .inr e
theorem fan_valid{f:Fw}{n:Int}(h:validF f=true)(hn:0≤n∧n≤255):validF {f with fan:=n}=true:=by
 have v:=vf_of h
 have vp:=valid_parts h
 have k:=v.nums
 exact vf_mk vp v.mode (numsB_iff.2 ⟨k.1,k.2.1,k.2.2.1,k.2.2.2.1,k.2.2.2.2.1,k.2.2.2.2.2.1,k.2.2.2.2.2.2.1,hn,k.2.2.2.2.2.2.2.2⟩) v.moves v.queued v.ends
theorem dwell_valid{f:Fw}{n:Int}(h:validF f=true)(hn:0≤n∧n≤1048576):validF {f with dwell:=n}=true:=by
 have v:=vf_of h
 have vp:=valid_parts h
 have k:=v.nums
 exact vf_mk vp v.mode (numsB_iff.2 ⟨k.1,k.2.1,k.2.2.1,k.2.2.2.1,k.2.2.2.2.1,hn,k.2.2.2.2.2.2⟩) v.moves v.queued v.ends
theorem waits_valid{f:Fw}{n:Int}(h:validF f=true)(hn:0≤n∧n≤3):validF {f with waits:=n}=true:=by
 have v:=vf_of h
 have vp:=valid_parts h
 have k:=v.nums
 exact vf_mk vp v.mode (numsB_iff.2 ⟨k.1,k.2.1,k.2.2.1,k.2.2.2.1,k.2.2.2.2.1,k.2.2.2.2.2.1,hn,k.2.2.2.2.2.2.2⟩) v.moves v.queued v.ends
theorem c0_valid{f:Fw}{a:Co}(h:validF f=true)(ha:a.ok=true):validF {f with c0:=a}=true:=by
 have v:=vf_of h
 have vn:=valid_nums h
 exact vf_mk (partsB_iff.2 ⟨v.ma,ha,v.c1,v.g0,v.g1⟩) v.mode vn v.moves v.queued v.ends
theorem c1_valid{f:Fw}{a:Co}(h:validF f=true)(ha:a.ok=true):validF {f with c1:=a}=true:=by
 have v:=vf_of h
 have vn:=valid_nums h
 exact vf_mk (partsB_iff.2 ⟨v.ma,v.c0,ha,v.g0,v.g1⟩) v.mode vn v.moves v.queued v.ends
section
variable {f:Fw} {line:Int} {c:Gc.C}
theorem moveA_zero(h:moveA f line c=0):(1≤line∧f.homed=true∧f.back=false∧f.mode=1)∧insB f.ma (tgtV f c)=true∧motOk f.ma (tgtV f c) (tgtE f c)=true∧tlE (feedF f c) (tgtV f c) (tgtE f c) (moveP f c) (moveD f c)=0:=by
 by_cases k:line<1∨f.homed=false∨f.back=true∨¬f.mode=1
 ·rw[(mvE14 (c:=c) k).1]at h;omega
 by_cases k2:insB f.ma (tgtV f c)=false∨motOk f.ma (tgtV f c) (tgtE f c)=false
 ·rw[(mvE8 k k2).1]at h;omega
 by_cases k3:f.e<tgtE f c∧f.r0<f.cold
 ·rw[(mvE15 k k2 k3).1]at h;omega
 rw[(mvE0 k k2 k3).1]at h
 refine⟨⟨by omega,by simpa using fun n=>k (.inr (.inl n)),by simpa using fun n=>k (.inr (.inr (.inl n))),?_⟩,by simpa using fun n=>k2 (.inl n),by simpa using fun n=>k2 (.inr n),h⟩
 rcases Int.lt_trichotomy f.mode 1 with q|q|q
 ·exact absurd (.inr (.inr (.inr (by omega)))) k
 ·exact q
 ·exact absurd (.inr (.inr (.inr (by omega)))) k
theorem tlE_zero{g:Fw}{u:V3}{e:Int}{p d:V4}(h:tlE g u e p d=0):near4 p=true∧near4 d=true∧(nz4 d=true→¬32≤g.queue.length∧addOk g d (lenM g u e)=true):=by
 cases hn:near4 p&&near4 d with
 |false=>rw[tlE_far hn]at h;omega
 |true=>
  have n:=(Bool.and_eq_true _ _).mp hn
  refine⟨n.1,n.2,fun hz=>?_⟩
  by_cases q:32≤g.queue.length
  ·rw[tlE_full hn hz q]at h;omega
  ·by_cases o:addOk g d (lenM g u e)=true
   ·exact⟨q,o⟩
   ·rw[tlE_no hn hz q o]at h;omega
theorem feed_valid(h:validF f=true)(hc:c.valid=true):validF (feedF f c)=true:=by
 unfold feedF
 split
 ·have v:=vf_of h
  have vp:=valid_parts h
  have k:=v.nums
  exact vf_mk vp v.mode (numsB_iff.2 ⟨k.1,k.2.1,k.2.2.1,k.2.2.2.1,val_f hc,k.2.2.2.2.2⟩) v.moves v.queued v.ends
 ·exact h
theorem feedF_goal:goal4 (feedF f c)=goal4 f:=by unfold feedF;split<;>rfl
theorem loc_valid{f:Fw}{u:V3}{e:Int}(h:validF f=true)(hu:(-16777216≤u.1∧u.1≤16777216)∧(-16777216≤u.2.1∧u.2.1≤16777216)∧-16777216≤u.2.2∧u.2.2≤16777216)(he: -16777216≤e∧e≤16777216):validF {f with loc:=u,e:=e}=true:=by
 have v:=vf_of h
 have vp:=valid_parts h
 have k:=v.nums
 exact vf_mk vp v.mode (numsB_iff.2 ⟨hu.1,hu.2.1,hu.2.2,he,k.2.2.2.2⟩) v.moves v.queued v.ends
theorem add_valid{g:Fw}{d:V4}{len:Int}(h:validF g=true)(hm:¬g.mode=3∧g.homed=true)(hp:addPre g d len=true)(ho:addOk g d len=true)(hl:g.queue.length<32)(hn:near4 (add4 (goal4 g) d)=true)(hr:0≤line∧line≤1099511627776):validF (addF g d len line)=true:=by
 have v:=vf_of h
 have vp:=valid_parts h
 have vn:=valid_nums h
 exact vf_mk vp v.mode vn v.moves (add_queued v.queued hp ho hl hn hr) (.inl hm)
theorem move_goal(hz:moveA f line c=0):goal4 (moveF f line c)=moveP f c:=by
 obtain⟨_,_,_,t⟩:=moveA_zero hz
 unfold moveF
 cases z:nz4 (moveD f c)with
 |false=>
  rw[tlF_no z]
  show goal4 (feedF f c)=_
  rw[feedF_goal]
  have n:(moveD f c).1=0∧(moveD f c).2.1=0∧(moveD f c).2.2.1=0∧(moveD f c).2.2.2=0:=by
   unfold nz4 at z;simpa using z
  unfold moveD sub4 at n
  generalize goal4 f=a at n
  generalize moveP f c=b at n
  obtain⟨a1,a2,a3,a4⟩:=a
  obtain⟨b1,b2,b3,b4⟩:=b
  dsimp only at n
  simp only[Prod.mk.injEq]
  omega
 |true=>
  rw[tlF_yes z]
  show goal4 (addF (feedF f c) (moveD f c) _ line)=_
  rw[add_goal,feedF_goal]
  exact add4_sub _ _
theorem move_valid(h:validF f=true)(hc:c.valid=true)(hz:moveA f line c=0)(hl:line≤1099511627776):validF (moveF f line c)=true:=by
 have v:=vf_of h
 obtain⟨s,ki,km,t⟩:=moveA_zero hz
 obtain⟨t1,t2,t3⟩:=tlE_zero t
 have ii:=insB_iff.1 ki
 have o:=(Ma.ok_iff f.ma).1 v.ma
 have a1:=(Ax.ok_iff _).1 o.1
 have a2:=(Ax.ok_iff _).1 o.2.1
 have a3:=(Ax.ok_iff _).1 o.2.2.1
 have er: -16777216≤tgtE f c∧tgtE f c≤16777216:=mot_e (m:=f.ma) (u:=tgtV f c) v.ma t1
 have fv:=feed_valid h hc
 have hmd:¬(feedF f c).mode=3∧(feedF f c).homed=true:=by
  have:(feedF f c).mode=f.mode∧(feedF f c).homed=f.homed:=by unfold feedF;split<;>exact⟨rfl,rfl⟩
  rw[this.1,this.2];exact⟨by omega,s.2.1⟩
 unfold moveF
 cases z:nz4 (moveD f c)with
 |false=>rw[tlF_no z];exact loc_valid fv (by omega) er
 |true=>
  rw[tlF_yes z]
  obtain⟨q1,q2⟩:=t3 z
  refine loc_valid (add_valid fv hmd (mv_pre v hc ki km t2 z).2 q2 (by omega) ?_ (by omega)) (by omega) er
  rw[feedF_goal,show moveD f c=sub4 (moveP f c) (goal4 f)from rfl,add4_sub];exact t1
theorem goal_idle{f:Fw}(hm:f.moving=false)(hz:f.mo.1.1=z4)(hq:f.queue.length=0):goal4 f=f.pos:=by
 unfold goal4;rw[hq];exact queue0_idle hm hz
theorem home0_valid(h:validF f=true)(hi:idleB f=true)(hm:f.mode=1):validF (home0 f line)=true:=by
 have v:=vf_of h
 have vp:=valid_parts h
 obtain⟨i1,i2,i3⟩:=idleB_iff.1 hi
 have k:=v.nums
 have q0:f.queue=[] :=List.length_eq_zero_iff.1 i2
 have l0:f.lines=[] :=List.length_eq_zero_iff.1 (by rw[v.lens,i2])
 have np:=near4_iff.1 v.pos
 have sm:=still_mo h i1
 refine vf_mk vp v.mode (numsB_iff.2 ?_) v.moves (queued_idle i1 sm q0 l0 (near4_iff.2 ?_) (homeR_near v)) (.inl ⟨by show ¬f.mode=3;omega,rfl⟩)
 ·show((-16777216:Int)≤0∧(0:Int)≤16777216)∧((-16777216:Int)≤0∧(0:Int)≤16777216)∧((-16777216:Int)≤0∧(0:Int)≤16777216)∧(-16777216≤homeE f∧homeE f≤16777216)∧_
  exact⟨by omega,by omega,by omega,homeE_rng v.ma v.pos,k.2.2.2.2⟩
 ·show((-16777216:Int)≤0∧(0:Int)≤16777216)∧((-16777216:Int)≤0∧(0:Int)≤16777216)∧((-16777216:Int)≤0∧(0:Int)≤16777216)∧_
  exact⟨by omega,by omega,by omega,np.2.2.2⟩
theorem nz_zero{d:V4}(z:nz4 d=false):d=z4:=by
 have n:d.1=0∧d.2.1=0∧d.2.2.1=0∧d.2.2.2=0:=by unfold nz4 at z;simpa using z
 obtain⟨a1,a2,a3,a4⟩:=d
 dsimp only at n
 unfold z4;simp only[Prod.mk.injEq];exact n
theorem backF_goal{g:Fw}{d:V4}:goal4 (backF g d)=add4 (goal4 g) d:=by
 cases z:nz4 d with
 |false=>rw[backF_no z,nz_zero z,add4_zero]
 |true=>rw[backF_yes z,add_goal]
theorem backF_len{g:Fw}{d:V4}:(backF g d).queue.length≤g.queue.length+1:=by
 cases z:nz4 d with
 |false=>rw[backF_no z];omega
 |true=>rw[backF_yes z,addF_len];omega
theorem back_valid{g:Fw}{d:V4}(h:validF g=true)(hm:¬g.mode=3∧g.homed=true)(hp:nz4 d=true→addPre g d 0=true)(ho:backOk g d=true)(hl:g.queue.length<32)(hn:near4 (add4 (goal4 g) d)=true):validF (backF g d)=true:=by
 cases z:nz4 d with
 |false=>rw[backF_no z];exact h
 |true=>
  rw[backF_yes z]
  rw[backOk_yes z]at ho
  exact add_valid h hm (hp z) ho hl hn (by omega)
theorem backF_mode{g:Fw}{d:V4}:(backF g d).mode=g.mode∧(backF g d).homed=g.homed∧(backF g d).pos=g.pos:=by unfold backF;split<;>exact⟨rfl,rfl,rfl⟩
theorem homeA_zero(h:homeA f line=0):idleB f=true∧f.mode=1∧homeX f line=0:=by
 unfold homeA at h
 split at h
 ·omega
 ·rename_i n1
  split at h
  ·omega
  ·rename_i n2;exact⟨by simpa using n1,by omega,h⟩
theorem homeX_zero(h:homeX f line=0)(hb:¬homeB f line=false):backOk (home0 f line) (homeC f line)=true∧backOk (backF (home0 f line) (homeC f line)) (homeD f line)=true:=by
 unfold homeX at h
 rw[if_neg hb]at h
 split at h
 ·omega
 ·rename_i n4
  split at h
  ·omega
  ·rename_i n5;exact⟨by simpa using n4,by simpa using n5⟩
theorem home_valid(h:validF f=true)(hz:homeA f line=0):validF (homeF f line)=true:=by
 have v:=vf_of h
 obtain⟨hi,hm,hx⟩:=homeA_zero hz
 obtain⟨i1,i2,i3⟩:=idleB_iff.1 hi
 have h0:=home0_valid (line:=line) h hi hm
 unfold homeF
 split
 ·exact h0
 ·rename_i hb
  obtain⟨o1,o2⟩:=homeX_zero hx hb
  have r:=near4_iff.1 (homeR_near (line:=line) v)
  have np:=near4_iff.1 v.pos
  have g0:goal4 (home0 f line)=(0,0,0,f.pos.2.2.2):=goal_idle (f:=home0 f line) i1 (show f.mo.1.1=z4 from still_mo h i1) i2
  have md:¬(home0 f line).mode=3∧(home0 f line).homed=true:=⟨by show ¬f.mode=3;omega,rfl⟩
  have v1:validF (backF (home0 f line) (homeC f line))=true:=back_valid h0 md (fun z=>home_pre v hi (homeC_near v) z) o1 (by show f.queue.length<32;omega) (by
   rw[g0];refine near4_iff.2 ?_;unfold homeC add4;dsimp only;omega)
  have v2:validF (backF (backF (home0 f line) (homeC f line)) (homeD f line))=true:=back_valid v1 (by rw[backF_mode.1,backF_mode.2.1];exact md) (fun z=>home_pre2 v hi o1 z) o2 (by have:=backF_len (g:=home0 f line) (d:=homeC f line);have e:(home0 f line).queue.length=f.queue.length:=rfl;omega) (by
   rw[backF_goal,g0];refine near4_iff.2 ?_;unfold homeC homeD add4;dsimp only;omega)
  have pr:=posV_rng (m:=f.ma) v.ma (homeR_near (line:=line) v)
  have v3:=vf_of v2
  have k:=v3.nums
  have vp2:=valid_parts v2
  exact vf_mk vp2 v3.mode (numsB_iff.2 ⟨pr.1,pr.2.1,pr.2.2.1,k.2.2.2⟩) v3.moves v3.queued v3.ends
theorem home_pos(h:homeA f line=0):(homeF f line).pos=(0,0,0,f.pos.2.2.2):=by
 unfold homeF
 split
 ·rfl
 ·show(backF (backF (home0 f line) (homeC f line)) (homeD f line)).pos=_
  rw[backF_mode.2.2,backF_mode.2.2];rfl
theorem doF_valid(h:validF f=true)(hc:c.valid=true)(hl:0≤line∧line≤1099511627776)(e:doE f line c=0):validF (doF f line c)=true:=by
 have v:=vf_of h
 by_cases k1:c.code=1112
 ·rw[doF_1112 k1]
  exact lose_valid (stopG_valid (lineF_valid h hl))
 by_cases k2:c.code=1999
 ·rw[e_res k2]at e
  have:doF f line c=resF f:=by unfold doF;rw[if_neg k1,if_pos k2]
  rw[this];exact res_valid h e
 by_cases m:f.mode=3
 ·rw[e_f3 k1 k2 m]at e;omega
 by_cases k3:c.code=1025
 ·have:doF f line c={f with mode:=2}:=by unfold doF;rw[if_neg k1,if_neg k2,if_pos k3]
  rw[this];exact mode_valid h m (by omega)
 by_cases k4:c.code=1024
 ·have:doF f line c={f with mode:=1}:=by unfold doF;rw[if_neg k1,if_neg k2,if_neg k3,if_pos k4]
  rw[this];exact mode_valid h m (by omega)
 have kk:¬c.code=1112∧¬c.code=1999∧¬c.code=1024∧¬c.code=1025:=⟨k1,k2,k4,k3⟩
 by_cases w:¬f.waits=0∨¬f.dwell=0
 ·rw[e_wait kk m w]at e;omega
 have w':f.waits=0∧f.dwell=0:=by omega
 rw[d_late kk]
 rw[e_late kk m w']at e
 split at e
 ·rename_i a;rw[if_pos a];exact move_valid h hc e hl.2
 ·rename_i a;rw[if_neg a]
  split at e
  ·rename_i b;rw[if_pos b];exact dwell_valid h (val_s4 hc)
  ·rename_i b;rw[if_neg b]
   split at e
   ·rename_i d;rw[if_pos d];exact home_valid h e
   ·rename_i d;rw[if_neg d]
    have s:¬c.code=4→0≤c.s∧c.s≤400000:=val_s hc
    have a0:(f.c0.aim c.s).ok=true:=Co.aim_ok (aimOk_iff.2 ⟨v.c0,s b⟩)
    have a1:(f.c1.aim c.s).ok=true:=Co.aim_ok (aimOk_iff.2 ⟨v.c1,s b⟩)
    have o1:orB f.waits 1=1:=by rw[w'.1];decide
    have o2:orB f.waits 2=2:=by rw[w'.1];decide
    split
    ·exact c0_valid h a0
    ·split
     ·rw[o1];exact waits_valid (f:={f with c0:=f.c0.aim c.s}) (c0_valid h a0) (by omega)
     ·split
      ·exact c1_valid h a1
      ·split
       ·rw[o2];exact waits_valid (f:={f with c1:=f.c1.aim c.s}) (c1_valid h a1) (by omega)
       ·refine fan_valid h (val_fan hc ?_)
        have:=code_in hc
        omega
theorem accE_zero(h:accE f line c=0):validF f=true∧c.valid=true∧(line=0∨line=f.line+1)∧line≤1099511627776∧doE f line c=0:=by
 unfold accE at h
 split at h
 ·omega
 ·rename_i n
  refine⟨by simpa using fun k=>n (.inl k),by simpa using fun k=>n (.inr (.inl k)),?_,?_,h⟩
  ·by_cases k:line=0
   ·exact .inl k
   ·by_cases q:line=f.line+1
    ·exact .inr q
    ·exact absurd (.inr (.inr (.inl ⟨k,q⟩))) n
  ·rcases Int.lt_or_le 1099511627776 line with k|k
   ·exact absurd (.inr (.inr (.inr k))) n
   ·exact k
theorem acc_line(h:accE f line c=0):0≤line∧line≤1099511627776:=by
 obtain⟨h1,_,h3,h4,_⟩:=accE_zero h
 have:=(vf_of h1).nums
 omega
theorem acc_valid(h:accE f line c=0):validF (accF f line c)=true:=by
 obtain⟨h1,h2,h3,h4,h5⟩:=accE_zero h
 have hl:=acc_line h
 unfold accF
 refine touch_valid ?_
 split
 ·exact doF_valid h1 h2 hl h5
 ·exact lineF_valid (doF_valid h1 h2 hl h5) hl
end
theorem v4x{a b:V4}(h:a.1=b.1∧a.2.1=b.2.1∧a.2.2.1=b.2.2.1∧a.2.2.2=b.2.2.2):a=b:=by
 obtain⟨a1,a2,a3,a4⟩:=a
 obtain⟨b1,b2,b3,b4⟩:=b
 simp only[Prod.mk.injEq];exact h
theorem stp_mid{n i k:Int}(hn:1≤n)(hi:0≤i∧i≤n):(0≤k→0≤stp n i k∧stp n i k≤k)∧(k≤0→k≤stp n i k∧stp n i k≤0):=by
 have s0:=sz_nonneg k
 have e:(2*n*sz k+n) / (2*n)=sz k:=by
  rw[Int.add_comm,Int.add_mul_ediv_left _ _ (by omega),Int.ediv_eq_zero_of_lt (by omega) (by omega)];omega
 have p0:0≤2*i*sz k:=Int.mul_nonneg (by omega) s0
 have lo:0≤(2*i*sz k+n) / (2*n):=Int.ediv_nonneg (by omega) (by omega)
 have up:(2*i*sz k+n) / (2*n)≤sz k:=by
  have m:=Int.mul_le_mul_of_nonneg_right (show 2*i≤2*n by omega) s0
  have:=Int.ediv_le_ediv (c:=2*n) (by omega) (show 2*i*sz k+n≤2*n*sz k+n by omega)
  omega
 have sk:sz k=if k<0 then -k else k:=rfl
 unfold stp
 constructor
 ·intro h;rw[if_neg (by omega)];rw[if_neg (by omega)]at sk;omega
 ·intro h
  by_cases z:k<0
  ·rw[if_pos z];rw[if_pos z]at sk;omega
  ·rw[if_neg z];rw[if_neg z]at sk;omega
theorem at4_mid{c p:V4}{i:Int}(hp:near4 p=true)(hq:near4 (add4 p c)=true):near4 (add4 p (at4 c i))=true:=by
 cases h:okC c with
 |false=>rw[at4_no h,add4_zero];exact hp
 |true=>
  have m:=mx4_bounds h
  have cl:=clm_bnd (n:=mx4 c) (i:=i) m.1
  have a1:=stp_mid (k:=c.1) m.1 cl
  have a2:=stp_mid (k:=c.2.1) m.1 cl
  have a3:=stp_mid (k:=c.2.2.1) m.1 cl
  have a4:=stp_mid (k:=c.2.2.2) m.1 cl
  have n1:=near4_iff.1 hp
  have n2:=near4_iff.1 hq
  unfold add4 at n2
  dsimp only at n2
  rw[at4_ok h]
  refine near4_iff.2 ?_
  unfold add4;dsimp only
  refine⟨?_,?_,?_,?_⟩
  ·rcases Int.le_total 0 c.1 with k|k
   ·have:=a1.1 k;omega
   ·have:=a1.2 k;omega
  ·rcases Int.le_total 0 c.2.1 with k|k
   ·have:=a2.1 k;omega
   ·have:=a2.2 k;omega
  ·rcases Int.le_total 0 c.2.2.1 with k|k
   ·have:=a3.1 k;omega
   ·have:=a3.2 k;omega
  ·rcases Int.le_total 0 c.2.2.2 with k|k
   ·have:=a4.1 k;omega
   ·have:=a4.2 k;omega
theorem made_mid{m:Mo}{p:V4}(hp:near4 p=true)(hq:near4 (add4 p m.1.1)=true):near4 (add4 p (madeM m))=true:=by
 by_cases h:validB m.1=true∧0≤m.2.1∧m.2.1≤dom m.1.1
 ·rw[madeM_yes h];exact at4_mid hp hq
 ·rw[madeM_no h,add4_zero];exact hp
section
variable {f:Fw} {r s:Int}
theorem read_valid(h:validF f=true):validF (readF f r s)=true:=by
 have v:=vf_of h
 have vp:=valid_parts h
 have k:=v.nums
 refine vf_mk vp v.mode (numsB_iff.2 ⟨k.1,k.2.1,k.2.2.1,k.2.2.2.1,k.2.2.2.2.1,k.2.2.2.2.2.1,k.2.2.2.2.2.2.1,k.2.2.2.2.2.2.2.1,k.2.2.2.2.2.2.2.2.1,k.2.2.2.2.2.2.2.2.2.1,?_,k.2.2.2.2.2.2.2.2.2.2.2⟩) v.moves v.queued v.ends
 unfold readF;dsimp only
 split<;>omega
theorem heat_valid(h:validF f=true):validF (heatF f)=true:=by
 have v:=vf_of h
 have vn:=valid_nums h
 exact vf_mk (partsB_iff.2 ⟨v.ma,(Co.step_ok v.c0 _).1,(Co.step_ok v.c1 _).1,(Gu.step_ok v.g0 _ _ _).1,(Gu.step_ok v.g1 _ _ _).1⟩) v.mode vn v.moves v.queued v.ends
theorem lost_valid(h:validF f=true):validF (lostF f)=true:=by
 unfold lostF;split
 ·exact lose_valid (heat_valid h)
 ·exact heat_valid h
theorem andNot_rng{n:Int}(h:0≤n∧n≤3):(0≤Gc.andNot n 1∧Gc.andNot n 1≤3)∧0≤Gc.andNot n 2∧Gc.andNot n 2≤3:=by
 have:n=0∨n=1∨n=2∨n=3:=by omega
 rcases this with rfl|rfl|rfl|rfl<;>decide
theorem wait_valid(h:validF f=true):validF (waitF f)=true:=by
 have k:=(vf_of h).nums
 have w:0≤f.waits∧f.waits≤3:=k.2.2.2.2.2.2.1
 have a:0≤(if warm f.c0 f.g0 f.r0=true then Gc.andNot f.waits 1 else f.waits)∧(if warm f.c0 f.g0 f.r0=true then Gc.andNot f.waits 1 else f.waits)≤3:=by
  split
  ·exact(andNot_rng w).1
  ·exact w
 unfold waitF
 refine waits_valid h ?_
 split
 ·exact(andNot_rng a).2
 ·exact a
theorem hot_valid(h:validF f=true):validF (hotF f r s)=true:=wait_valid (lost_valid (read_valid h))
theorem posAt_drop{p:V4}{q:List Bk}:∀n,posAt (add4 p (q.getD 0 dBk).1) (q.drop 1) n=posAt p q (n+1)
 |0=>rfl
 |n+1=>by
  show add4 (posAt _ (q.drop 1) n) ((q.drop 1).getD n dBk).1=add4 (posAt p q (n+1)) (q.getD (n+1) dBk).1
  rw[posAt_drop n]
  congr 2
  rw[List.getD_eq_getElem?_getD,List.getElem?_drop,←List.getD_eq_getElem?_getD,Nat.add_comm]
theorem start_mo(h:validF f=true)(hc:canStart f=true):okS (f.queue.getD 0 dBk) f.ma.ticks=true∧(startF f).mo=startM (f.queue.getD 0 dBk) f.ma.ticks:=by
 have v:=vf_of h
 obtain⟨c1,c2,c3,c4⟩:=canStart_iff.1 hc
 have b:=(blk_use (v.blk 0 (by omega))).1
 have t:=((Ma.ok_iff f.ma).1 v.ma).2.2.2.2
 have k:okS (f.queue.getD 0 dBk) f.ma.ticks=true:=okS_iff.2 ⟨b,by omega,by omega⟩
 exact⟨k,startMo_yes k⟩
theorem start_begin(h:validF f=true)(hc:canStart f=true):begin4 (startF f)=f.pos∧queue0 (startF f)=add4 (queue0 f) (f.queue.getD 0 dBk).1:=by
 have v:=vf_of h
 obtain⟨c1,c2,c3,c4⟩:=canStart_iff.1 hc
 obtain⟨_,m⟩:=start_mo h hc
 have b:begin4 (startF f)=f.pos:=by
  rw[begin4_on (f:=startF f) rfl,m,made_start]
  exact v4x ⟨by show f.pos.1-0=_;omega,by show f.pos.2.1-0=_;omega,by show f.pos.2.2.1-0=_;omega,by show f.pos.2.2.2-0=_;omega⟩
 refine⟨b,?_⟩
 show add4 (begin4 (startF f)) (startF f).mo.1.1=_
 rw[b,m,queue0_off v.moves c1,begin4_off c1];rfl
theorem start_goal(h:validF f=true)(hc:canStart f=true):goal4 (startF f)=goal4 f:=by
 obtain⟨c1,c2,c3,c4⟩:=canStart_iff.1 hc
 have e:=(start_begin h hc).2
 unfold goal4
 rw[e]
 show posAt _ (f.queue.drop 1) (f.queue.drop 1).length=_
 rw[posAt_drop,List.length_drop,show f.queue.length-1+1=f.queue.length by omega]
theorem start_valid(h:validF f=true)(hc:canStart f=true):validF (startF f)=true:=by
 have v:=vf_of h
 have vp:=valid_parts h
 have n:=v.nums
 obtain⟨c1,c2,c3,c4⟩:=canStart_iff.1 hc
 obtain⟨ok,m⟩:=start_mo h hc
 obtain⟨b,q0⟩:=start_begin h hc
 have l0:=(blk_use (v.blk 0 (by omega))).2.1
 have p1:near4 (add4 (queue0 f) (f.queue.getD 0 dBk).1)=true:=(blk_use (v.blk 0 (by omega))).2.2
 have len:(startF f).queue.length=f.queue.length-1:=by show(f.queue.drop 1).length=_;rw[List.length_drop]
 have hom:f.homed=true:=by
  rcases v.ends with k|k
  ·exact k.2
  ·omega
 refine vf_mk vp v.mode (numsB_iff.2 ⟨n.1,n.2.1,n.2.2.1,n.2.2.2.1,n.2.2.2.2.1,n.2.2.2.2.2.1,n.2.2.2.2.2.2.1,n.2.2.2.2.2.2.2.1,n.2.2.2.2.2.2.2.2.1,l0,n.2.2.2.2.2.2.2.2.2.2⟩) ?_ ?_ (.inl ⟨c3,hom⟩)
 ·rw[movesB_on (f:=startF f) rfl,m];exact start_runs ok
 ·refine queuedB_iff.2 ⟨by rw[len];have:=v.len;omega,?_,v.pos,v.ret,by rw[b];exact v.pos,by rw[q0];exact p1,fun i hi=>?_⟩
  ·rw[len];show(f.lines.drop 1).length=_;rw[List.length_drop,v.lens]
  ·rw[len]at hi
   have k:=blk_use (v.blk (i+1) (by omega))
   rw[q0]
   refine blkOK_iff.2 ⟨?_,?_,?_⟩
   ·show validB ((f.queue.drop 1).getD i dBk)=true
    rw[List.getD_eq_getElem?_getD,List.getElem?_drop,←List.getD_eq_getElem?_getD,Nat.add_comm];exact k.1
   ·show 0≤(f.lines.drop 1).getD i 0∧(f.lines.drop 1).getD i 0≤1099511627776
    rw[List.getD_eq_getElem?_getD,List.getElem?_drop,←List.getD_eq_getElem?_getD,Nat.add_comm];exact k.2.1
   ·show near4 (posAt _ (f.queue.drop 1) (i+1))=true
    rw[posAt_drop];exact k.2.2
theorem beg_valid(h:validF f=true):validF (begF f)=true:=by
 cases c:canStart f with
 |true=>rw[begF_yes c];exact start_valid h c
 |false=>rw[begF_no c];exact h
theorem beg_goal(h:validF f=true):goal4 (begF f)=goal4 f:=by
 cases c:canStart f with
 |true=>rw[begF_yes c];exact start_goal h c
 |false=>rw[begF_no c]
theorem step_yes(e:endedM (tickM f.mo f.ma.ticks)=true):stepF f={f with pos:=add4 f.pos (tickP f.mo f.ma.ticks),mo:=m0,moving:=false,active:=0}:=if_pos e
theorem step_no(e:endedM (tickM f.mo f.ma.ticks)=false):stepF f={f with pos:=add4 f.pos (tickP f.mo f.ma.ticks),mo:=tickM f.mo f.ma.ticks}:=if_neg (by rw[e];exact Bool.false_ne_true)
theorem step_pos:(stepF f).pos=add4 f.pos (tickP f.mo f.ma.ticks):=by unfold stepF;split<;>rfl
theorem step_begin(h:validF f=true)(hm:f.moving=true):queue0 (stepF f)=queue0 f∧begin4 (stepF f)=(if endedM (tickM f.mo f.ma.ticks)=true then queue0 f else begin4 f):=by
 have v:=vf_of h
 have m:=v.moves
 rw[movesB_on hm]at m
 have mt:=made_tick m
 cases e:endedM (tickM f.mo f.ma.ticks)with
 |true=>
  have em:=ended_made e
  rw[tick_block,mt]at em
  have q:queue0 f=add4 f.pos (tickP f.mo f.ma.ticks):=by
   unfold queue0;rw[begin4_on hm,←em]
   unfold add4 sub4
   exact v4x ⟨by dsimp only;omega,by dsimp only;omega,by dsimp only;omega,by dsimp only;omega⟩
  rw[step_yes e,if_pos rfl,q]
  refine⟨?_,?_⟩
  ·unfold queue0;rw[begin4_off rfl];exact add4_zero _
  ·rw[begin4_off rfl]
 |false=>
  have b:begin4 (stepF f)=begin4 f:=by
   rw[step_no e,begin4_on (f:={f with pos:=add4 f.pos (tickP f.mo f.ma.ticks),mo:=tickM f.mo f.ma.ticks}) hm,begin4_on hm,mt]
   unfold add4 sub4
   exact v4x ⟨by dsimp only;omega,by dsimp only;omega,by dsimp only;omega,by dsimp only;omega⟩
  refine⟨?_,by rw[b,if_neg Bool.false_ne_true]⟩
  unfold queue0
  rw[b,step_no e]
  show add4 (begin4 f) (tickM f.mo f.ma.ticks).1.1=_
  rw[tick_block]
theorem step_goal(h:validF f=true)(hm:f.moving=true):goal4 (stepF f)=goal4 f:=by
 have q:(stepF f).queue=f.queue:=by unfold stepF;split<;>rfl
 unfold goal4
 rw[(step_begin h hm).1,q]
theorem step_valid(h:validF f=true)(hm:f.moving=true):validF (stepF f)=true:=by
 have v:=vf_of h
 have vp:=valid_parts h
 have vn:=valid_nums h
 have n:=v.nums
 have m:=v.moves
 rw[movesB_on hm]at m
 obtain⟨q0,b⟩:=step_begin h hm
 have en:¬f.mode=3∧f.homed=true:=by
  rcases v.ends with k|k
  ·exact k
  ·rw[hm]at k;cases k.1
 have same:(stepF f).queue=f.queue∧(stepF f).lines=f.lines∧(stepF f).ret=f.ret∧(stepF f).mode=f.mode∧(stepF f).homed=f.homed:=by unfold stepF;split<;>exact⟨rfl,rfl,rfl,rfl,rfl⟩
 have pn:near4 (stepF f).pos=true:=by
  rw[step_pos]
  have mt:=made_tick m
  have k:=made_mid (m:=tickM f.mo f.ma.ticks) (p:=begin4 f) v.beg (by rw[tick_block];exact v.q0)
  rw[mt,begin4_on hm]at k
  have e:add4 (sub4 f.pos (madeM f.mo)) (add4 (madeM f.mo) (tickP f.mo f.ma.ticks))=add4 f.pos (tickP f.mo f.ma.ticks):=by
   unfold add4 sub4
   exact v4x ⟨by dsimp only;omega,by dsimp only;omega,by dsimp only;omega,by dsimp only;omega⟩
  rw[e]at k;exact k
 have qd:queuedB (stepF f)=true:=queuedB_iff.2 ⟨by rw[same.1];exact v.len,by rw[same.1,same.2.1];exact v.lens,pn,by rw[same.2.2.1];exact v.ret,by
  rw[b];split
  ·exact v.q0
  ·exact v.beg,by rw[q0];exact v.q0,fun i hi=>by
  rw[same.1]at hi
  rw[q0,same.1,same.2.1];exact v.blk i hi⟩
 cases e:endedM (tickM f.mo f.ma.ticks)with
 |true=>
  rw[step_yes e]at qd ⊢
  refine vf_mk vp v.mode (numsB_iff.2 ⟨n.1,n.2.1,n.2.2.1,n.2.2.2.1,n.2.2.2.2.1,n.2.2.2.2.2.1,n.2.2.2.2.2.2.1,n.2.2.2.2.2.2.2.1,n.2.2.2.2.2.2.2.2.1,?_,n.2.2.2.2.2.2.2.2.2.2⟩) ?_ qd (.inl en)
  ·show(0:Int)≤0∧(0:Int)≤1099511627776;omega
  ·rw[movesB_off rfl];exact stillB_zero rfl rfl
 |false=>
  rw[step_no e]at qd ⊢
  refine vf_mk vp v.mode vn ?_ qd (.inl en)
  rw[movesB_on (f:={f with pos:=add4 f.pos (tickP f.mo f.ma.ticks),mo:=tickM f.mo f.ma.ticks}) hm]
  exact tick_runs m e
theorem run_valid(h:validF f=true)(hm:¬f.mode=3):validF (runF f)=true:=by
 have v:=vf_of h
 have n:=v.nums
 unfold runF
 split
 ·exact dwell_valid h (by omega)
 ·split
  ·rename_i k;exact step_valid (beg_valid h) k
  ·exact beg_valid h
theorem run_pos(h:validF f=true):(runF f).pos=add4 f.pos (runP f):=by
 unfold runF runP
 split
 ·exact(add4_zero _).symm
 ·split
  ·rw[step_pos,begF_pos]
  ·rw[begF_pos];exact(add4_zero _).symm
theorem run_goal(h:validF f=true):goal4 (runF f)=goal4 f:=by
 unfold runF
 split
 ·rfl
 ·split
  ·rename_i k;rw[step_goal (beg_valid h) k,beg_goal h]
  ·exact beg_goal h
theorem lost_pos:(lostF f).pos=f.pos:=by unfold lostF;split<;>rfl
theorem hot_pos:(hotF f r s).pos=f.pos:=by
 show(lostF (readF f r s)).pos=f.pos
 rw[lost_pos];rfl
theorem tick_valid(h:validF f=true):validF (tickF f r s)=true:=by
 unfold tickF
 rw[h,if_neg (by decide)]
 split
 ·exact hot_valid h
 ·rename_i k;exact run_valid (hot_valid h) k
theorem tickF_on(h:validF f=true):tickF f r s=if(hotF f r s).mode=3 then hotF f r s else runF (hotF f r s):=by unfold tickF;rw[h];rfl
theorem tickQ_on(h:validF f=true):tickQ f r s=if(hotF f r s).mode=3 then z4 else runP (hotF f r s):=by unfold tickQ;rw[h];rfl
theorem tickD_on(h:validF f=true):tickD f r s=if(hotF f r s).mode=3 then(0,0)else(duty0 (readF f r s),duty1 (readF f r s)):=by unfold tickD;rw[h];rfl
theorem tick_pos(h:validF f=true):(tickF f r s).pos=add4 f.pos (tickQ f r s):=by
 rw[tickF_on h,tickQ_on h]
 split
 ·rw[hot_pos];exact(add4_zero _).symm
 ·rw[run_pos (hot_valid h),hot_pos]
theorem run_homed:(runF f).homed=f.homed:=by
 have b:(begF f).homed=f.homed:=by unfold begF;split<;>rfl
 have s:∀g:Fw,(stepF g).homed=g.homed:=fun g=>by unfold stepF;split<;>rfl
 unfold runF
 split
 ·rfl
 ·split
  ·rw[s,b]
  ·exact b
theorem tick_goal(h:validF f=true)(hh:(tickF f r s).homed=true):goal4 (tickF f r s)=goal4 f:=by
 have key:(hotF f r s).homed=true→goal4 (hotF f r s)=goal4 f:=fun k=>by
  have l:lostF (readF f r s)=heatF (readF f r s):=by
   unfold lostF
   split
   ·rename_i q
    have:(hotF f r s).homed=false:=by
     show(lostF (readF f r s)).homed=false
     unfold lostF;rw[if_pos q];rfl
    rw[this]at k;cases k
   ·rfl
  show goal4 (waitF (lostF (readF f r s)))=_
  rw[l];rfl
 rw[tickF_on h]at hh ⊢
 split at hh
 ·rename_i q;rw[if_pos q];exact key hh
 ·rename_i q
  rw[if_neg q,run_goal (hot_valid h)]
  rw[run_homed]at hh
  exact key hh
end
def begB(f:Fw):Bool:=validF f&&canStart f
def begX(f:Fw):Fw:=if validF f=true then begF f else f
def begS(f:Fw):SV:=.tuple [(begX f).sv,.bool (begB f)]
theorem begX_yes{f:Fw}(h:validF f=true):begX f=begF f:=if_pos h
theorem begX_no{f:Fw}(h:validF f=false):begX f=f:=if_neg (by rw[h];exact Bool.false_ne_true)
theorem begS_1{f:Fw}(h:validF f=false):SV.tuple [.agg f.cells,.bool false] =begS f:=by unfold begS begB;rw[begX_no h,h];rfl
theorem begS_2{f:Fw}(h:validF f=true)(c:canStart f=false):SV.tuple [.agg f.cells,.bool false] =begS f:=by unfold begS begB;rw[begX_yes h,begF_no c,h,c];rfl
theorem begS_3{f:Fw}(h:validF f=true)(c:canStart f=true):SV.tuple [.agg (begF f).cells,.bool true] =begS f:=by unfold begS begB;rw[begX_yes h,h,c];rfl
def tickX(f:Fw)(r s:Int):SV:=.tuple [(tickF f r s).sv,V4.sv (tickQ f r s),.agg [I64 (tickD f r s).1,I64 (tickD f r s).2]]
theorem tk_ticks{f:Fw}(v:validF f=true):(if 1099511627776<i64.wrap (f.ticks+1)then 1099511627776 else i64.wrap (f.ticks+1))=(if f.ticks+1<1099511627776 then f.ticks+1 else 1099511627776):=by
 have n:=(vf_of v).nums
 rw[w64 (x:=f.ticks+1) (by omega) (by omega)]
 split<;>split<;>omega
theorem tk_part{f g:Fw}{r s:Int}(v:validF f=true)(h:g=readF f r s):partB g=true:=by
 subst h
 have u:=vf_of (read_valid (r:=r) (s:=s) v)
 exact partB_iff.2 ⟨u.c0,u.c1,u.g0,u.g1,u.shape⟩
theorem tk_mot{f g:Fw}{r s:Int}(v:validF f=true)(h:g=readF f r s):motPre (hotF' g)=true:=by
 subst h
 have u:=vf_of (hot_valid (r:=r) (s:=s) v)
 have n:=u.nums
 exact motPre_iff.2 ⟨u.shape,show 0≤(hotF f r s).dwell∧(hotF f r s).dwell≤1048576 by omega⟩
theorem tk_hotD{f:Fw}{r s:Int}(v:validF f=true):hotD (readF f r s)=tickD f r s:=by
 rw[tickD_on v];rfl
theorem tk_leaf1{f g:Fw}{r s:Int}(v:validF f=true)(h:g=readF f r s)(m:(hotF' g).mode=3):SV.tuple [.agg (hotF' g).cells,V4.sv z4,.agg [I64 (hotD g).1,I64 (hotD g).2]] =tickX f r s:=by
 subst h
 have m:(hotF f r s).mode=3:=m
 unfold tickX
 rw[tk_hotD v,tickF_on v,tickQ_on v,if_pos m,if_pos m];rfl
theorem tk_leaf2{f g:Fw}{r s:Int}(v:validF f=true)(h:g=readF f r s)(m:¬(hotF' g).mode=3):SV.tuple [.agg (runF (hotF' g)).cells,V4.sv (runP (hotF' g)),.agg [I64 (hotD g).1,I64 (hotD g).2]] =tickX f r s:=by
 subst h
 have m:¬(hotF f r s).mode=3:=m
 unfold tickX
 rw[tk_hotD v,tickF_on v,tickQ_on v,if_neg m,if_neg m];rfl
theorem tk_no{f:Fw}{r s:Int}(v:validF f=false):SV.tuple [.agg f.cells,V4.sv z4,.agg [I64 0,I64 0]] =tickX f r s:=by
 unfold tickX tickF tickQ tickD;rw[v];rfl
theorem s_beginP(f:Fw):SCall Tryz.prog 29 [f.sv] (begS f):=
 scall_vE (hB (l:=[fValid]) (k:=[]) (j:=[BFact.toP bStart]) (i:=[bStart]) ([] :List Nat) ([] :List Nat) ([] :List Nat) ([] :List Nat) (⟨o_valid,trivial⟩) noneOk (allQ.all (p:=PFact.ok Tryz.prog) (l:=[BFact.toP bStart]) ⟨BFact.toP_ok o_bstart,trivial⟩) (allQ.all (p:=BFact.ok Tryz.prog) (l:=[bStart]) ⟨o_bstart,trivial⟩)) 1000 (.fork (.all) (.fork (.all) (.all)))
  (t:=.node (!validF f)
 (.leaf (SV.tuple [SV.agg (Fw.cells f),SV.bool false]))
 (.req (shapeB f) (.node (!canStart f)
   (.leaf (SV.tuple [SV.agg (Fw.cells f),SV.bool false]))
   (.leaf (SV.tuple [SV.agg (Fw.cells (begF f)),SV.bool true])))))
   (by kernel_rfl) (by
    refine n_not (fun v=>begS_1 v) fun v=>n_req (vf_of v).shape (n_not (fun c=>begS_2 v c) fun c=>begS_3 v c)) (by kernel_rfl) (by rfl)
theorem s_tickP(f:Fw)(r s:Int):SCall Tryz.prog 27 [f.sv,.agg [I64 r,I64 s]] (tickX f r s):=
 scall_vE (hB (l:=[fValid]) (k:=[]) (j:=[BFact.toP bHeat,BFact.toP bMots]) (i:=[bHeat,bMots]) ([] :List Nat) ([] :List Nat) ([] :List Nat) ([] :List Nat) (⟨o_valid,trivial⟩) noneOk (allQ.all (p:=PFact.ok Tryz.prog) (l:=[BFact.toP bHeat,BFact.toP bMots]) ⟨BFact.toP_ok o_bheat,BFact.toP_ok o_bmots,trivial⟩) (allQ.all (p:=BFact.ok Tryz.prog) (l:=[bHeat,bMots]) ⟨o_bheat,o_bmots,trivial⟩)) 1000 (.fork (.all) (.fork (.all) (.all)))
  (t:=let y2:={f with ticks:=(if 1099511627776<i64.wrap (f.ticks+1)then 1099511627776 else i64.wrap (f.ticks+1)),r0:=r,r1:=s};let y0:=hotF' y2;let y3:=(((y0.mo.1.1.1,y0.mo.1.1.2.1,y0.mo.1.1.2.2),y0.mo.1.2.1,y0.mo.1.2.2.1,y0.mo.1.2.2.2),y0.mo.2);let y1:={y0 with pos:=(y0.pos.1,y0.pos.2.1,y0.pos.2.2),loc:=(y0.loc.1,y0.loc.2),mo:=y3,ret:=(y0.ret.1,y0.ret.2.1,y0.ret.2.2)};.node (!validF f) (.leaf (.tuple [.agg (Fw.cells f),.agg [.int .i64 0,.int .i64 0,.int .i64 0,.int .i64 0],.agg [.int .i64 0,.int .i64 0]])) (.req (decide (r=r)) (.req (decide (s=s)) (.req (partB y2) (.req (motPre y1) (.node (y0.mode==3) (.leaf (.tuple [.agg (Fw.cells {y0 with pos:=(y0.pos.1,y0.pos.2.1,y0.pos.2.2),loc:=(y0.loc.1,y0.loc.2),mo:=y3,ret:=(y0.ret.1,y0.ret.2.1,y0.ret.2.2)}),.agg [.int .i64 0,.int .i64 0,.int .i64 0,.int .i64 0],.agg [.int .i64 (hotD y2).1,.int .i64 (hotD y2).2]])) (.leaf (.tuple [.agg (Fw.cells (runF y1)),.agg [.int .i64 (runP y1).1,.int .i64 (runP y1).2.1,.int .i64 (runP y1).2.2.1,.int .i64 (runP y1).2.2.2],.agg [.int .i64 (hotD y2).1,.int .i64 (hotD y2).2]]))))))))
  (by kernel_rfl) (by
   refine n_not (fun v=>tk_no v) fun v=>?_
   have h:({f with ticks:=(if 1099511627776<i64.wrap (f.ticks+1)then 1099511627776 else i64.wrap (f.ticks+1)),r0:=r,r1:=s}:Fw)=readF f r s:=by unfold readF;rw[tk_ticks v]
   exact n_req (decide_eq_true rfl) (n_req (decide_eq_true rfl) (n_req (tk_part v h) (n_req (tk_mot v h) (n_eq (fun m=>tk_leaf1 v h m) fun m=>tk_leaf2 v h m))))) (by kernel_rfl) (by rfl)
section
variable {f:Fw} {line:Int} {c:Gc.C}
theorem accS_data:(accS f line c).data=true:=by unfold accS;split<;>rfl
theorem accF_end:accF f line c=endF (doF f line c) line c:=by
 unfold accF endF lineF
 by_cases h:c.code=1112
 ·rw[if_pos h,if_pos (.inr h)]
 ·rw[if_neg h]
  by_cases k:line=0
  ·rw[if_pos k,if_pos (.inl k)]
  ·rw[if_neg k,if_neg (by omega)];rfl
theorem acc_bad(h:validF f=false∨c.valid=false∨(¬line=0∧¬line=f.line+1)∨1099511627776<line):SV.tuple [.agg (nilC fw0),.int .i64 1] =accS f line c:=by
 have e:accE f line c=1:=if_pos h
 unfold accS;rw[e,if_neg (by omega)];rfl
theorem acc_do(v:validF f=true)(hc:c.valid=true)(hl:line=0∨line=f.line+1)(hm:line≤1099511627776):accS f line c=doS f line c:=by
 have e:accE f line c=doE f line c:=if_neg (by rw[v,hc];simp only[Bool.true_eq_false,false_or];omega)
 unfold accS doS;rw[e,accF_end]
theorem kAc0:Known Tryz.prog (Env.ofB Tryz.prog (sumOf [fValid,fGv,fTouch]) (wrOf [wStp,wRst,wPau,wMove,wDwe,wHome,wFan,wHea]) (pnOf []) (bxOf []) (rdOf []) (rdOf []) (rdOf []) (rdOf [3])):=
 hB (l:=[fValid,fGv,fTouch]) (k:=[wStp,wRst,wPau,wMove,wDwe,wHome,wFan,wHea]) (j:=[]) (i:=[]) [] [] [] [3] ⟨o_valid,o_gv,o_touch,trivial⟩ (allQ.all (p:=WFact.ok Tryz.prog) (l:=[wStp,wRst,wPau,wMove,wDwe,wHome,wFan,wHea]) ⟨o_wstp,o_wrst,o_wpau,o_wMove,o_wdwe,o_wHome,o_wfan,o_whea,trivial⟩) noneOk noneOk
set_option maxHeartbeats 4000000 in
theorem s_accept(f:Fw)(line:Int)(c:Gc.C):SCall Tryz.prog 24 [f.sv,I64 line,c.sv] (accS f line c):=by
 refine scallR_loops rfl accS_data (by kernel_rfl) (runsR_seg kAc0 (n:=1000) (hint:=.unit) (keep:=keepS 114 [1,3,5,6]) (p:=ac0_p) (boxes:=[]) accS_data ?_)
 have q:=ac0 f line c
 unfold startS codeS at q
 erw [q]
 unfold ac0_t
 have go:validF f=true→c.valid=true→(line=0∨line=f.line+1)→line≤1099511627776→RunsR Tryz.prog (fnOf Tryz.prog 24) (accS f line c) itemsA (slotsS 114 [(1,I64 line),(3,.ptr 0 0),(5,.ptr 1 0),(6,.ptr 2 0)]) [some (.cells f.cells),some (.cells c.cells),some (.cells (nilC fw0))] :=fun v hc hl hm=>by
  have n:=(vf_of v).nums
  rw[acc_do v hc hl hm]
  exact acT_run v hc (stopPre_iff.2 ⟨(vf_of v).shape,by omega,hm⟩)
 refine n_not (fun v=>acc_bad (.inl v)) fun v=>n_not (fun hc=>acc_bad (.inr (.inl hc))) fun hc=>?_
 have n:=(vf_of v).nums
 have w:i64.wrap (f.line+1)=f.line+1:=w64 (by omega) (by omega)
 rw[w]
 refine n_ne (fun h0=>n_ne (fun h1=>acc_bad (.inr (.inr (.inl ⟨h0,h1⟩)))) fun h1=>n_dec (fun h2=>acc_bad (.inr (.inr (.inr (by omega))))) fun h2=>?_) fun h0=>n_dec (fun h2=>acc_bad (.inr (.inr (.inr (by omega))))) fun h2=>?_
 ·exact⟨slotsS_len _ _,go v hc (.inr h1) (by omega)⟩
 ·exact⟨slotsS_len _ _,go v hc (.inl h0) (by omega)⟩
end
def fAcpt:Fact:=factFw 24 fun f rest=>match rest with
 |[.int .i64 line,.agg [.int .i64 a0,.int .i64 a1,.int .i64 a2,.int .i64 a3,.int .i64 a4,.int .i64 a5,.int .i64 a6,.int .i64 a7]] =>some (.node (decide (accE f line ⟨a0,a1,a2,a3,a4,a5,a6,a7⟩=0)) (.leaf (.tuple [(accF f line ⟨a0,a1,a2,a3,a4,a5,a6,a7⟩).sv,I64 0])) (.leaf (.tuple [fw0.sv,I64 (accE f line ⟨a0,a1,a2,a3,a4,a5,a6,a7⟩)])))
 |_=>none
theorem accS_says{P:Program}{g:FuncId}{args:List SV}{f:Fw}{line:Int}{c:Gc.C}(k:SCall P g args (accS f line c)):(Tree.node (decide (accE f line c=0)) (.leaf (.tuple [(accF f line c).sv,I64 0])) (.leaf (.tuple [fw0.sv,I64 (accE f line c)]))).says (SCall P g args):=by
 unfold accS at k
 refine⟨fun h=>?_,fun h=>?_⟩
 ·rw[if_pos (of_decide_eq_true h)]at k;exact k
 ·rw[if_neg (of_decide_eq_false h)]at k;exact scall_val k (nil_tuple (nilC_ok _ rfl rfl))
theorem o_acpt:fAcpt.ok Tryz.prog:=factFw_ok fun f rest t ht=>by
 split at ht
 ·injection ht with ht;subst ht;exact accS_says (s_accept f _ ⟨_,_,_,_,_,_,_,_⟩)
 ·cases ht
def asMa:List SV→Option Ma
 |[.int .i64 a0,.int .i64 a1,.int .i64 a2,.int .i64 a3,.int .i64 a4,.int .i64 a5,.int .i64 a6,.int .i64 a7,.int .i64 a8,.int .i64 a9,.int .i64 a10,.int .i64 a11,.int .i64 a12,.int .i64 a13,.int .i64 a14,.int .i64 a15,.int .i64 a16,.int .i64 a17,.int .i64 a18,.int .i64 a19,.int .i64 a20,.int .i64 a21,.int .i64 a22,.int .i64 a23,.int .i64 a24,.int .i64 a25,.int .i64 a26,.int .i64 a27,.bool xy,.int .i64 t] =>some ⟨⟨a0,a1,a2,a3,a4,a5,a6⟩,⟨a7,a8,a9,a10,a11,a12,a13⟩,⟨a14,a15,a16,a17,a18,a19,a20⟩,⟨a21,a22,a23,a24,a25,a26,a27⟩,xy,t⟩
 |_=>none
theorem asMa_eq{l:List SV}{m:Ma}(h:asMa l=some m):l=m.cells:=by
 unfold asMa at h
 split at h
 ·injection h with h;subst h;rfl
 ·cases h
def asCo2:List SV→Option (Co×Co)
 |[.int .i64 c0,.int .i64 c1,.int .i64 c2,.int .i64 c3,.int .i64 c4,.int .i64 c5,.int .i64 c6,.int .i64 c7,.int .i64 c8,.int .i64 c9,.int .i64 c10,.int .i64 c11] =>some (⟨c0,c1,c2,c3,c4,c5⟩,⟨c6,c7,c8,c9,c10,c11⟩)
 |_=>none
theorem asCo2_eq{l:List SV}{m:(Co×Co)}(h:asCo2 l=some m):l=m.1.cells++m.2.cells:=by
 unfold asCo2 at h
 split at h
 ·injection h with h;subst h;rfl
 ·cases h
def asGu2:List SV→Option (Gu×Gu)
 |[.int .i64 g0,.int .i64 g1,.int .i64 g2,.int .i64 g3,.int .i64 g4,.int .i64 g5,.int .i64 g6,.int .i64 g7,.int .i64 g8,.int .i64 g9,.bool u,.int .i64 h0,.int .i64 h1,.int .i64 h2,.int .i64 h3,.int .i64 h4,.int .i64 h5,.int .i64 h6,.int .i64 h7,.int .i64 h8,.int .i64 h9,.bool v] =>some (⟨g0,g1,g2,g3,g4,g5,g6,g7,g8,g9,u⟩,⟨h0,h1,h2,h3,h4,h5,h6,h7,h8,h9,v⟩)
 |_=>none
theorem asGu2_eq{l:List SV}{m:(Gu×Gu)}(h:asGu2 l=some m):l=m.1.cells++m.2.cells:=by
 unfold asGu2 at h
 split at h
 ·injection h with h;subst h;rfl
 ·cases h
def factNew(f:FuncId):Fact:=⟨f,fun args=>match args with
 |[.agg lm,.agg lc,.agg lg,.int .i64 cold] =>match asMa lm with
  |some m=>match asCo2 lc with
   |some c=>match asGu2 lg with
    |some g=>some (.node (newOk m c.1 c.2 g.1 g.2 cold) (.leaf (.tuple [(newF m c.1 c.2 g.1 g.2 cold).sv,I64 0])) (.leaf (.tuple [fw0.sv,I64 1])))
    |none=>none
   |none=>none
  |none=>none
 |_=>none⟩
def fNew:Fact:=factNew 61
def fNewR:Fact:=factNew 22
def fBegX:Fact:=factF1 29 fun f=>.leaf (begS f)
def fTickX:Fact:=factFw 27 fun f rest=>match rest with
 |[.agg [.int .i64 r,.int .i64 s]] =>some (.leaf (tickX f r s))
 |_=>none
theorem factNew_ok{f:FuncId}(k:∀m c d g h cold,SCall Tryz.prog f [Ma.sv m,.agg (Co.cells c++Co.cells d),.agg (Gu.cells g++Gu.cells h),I64 cold] (newS m c d g h cold)):(factNew f).ok Tryz.prog:=fun args t ht=>by
 simp only[factNew]at ht
 split at ht
 ·split at ht
  ·rename_i hm
   split at ht
   ·rename_i hc
    split at ht
    ·rename_i hg
     injection ht with ht;subst ht
     rw[asMa_eq hm,asCo2_eq hc,asGu2_eq hg]
     refine⟨fun h1=>?_,fun h1=>?_⟩
     ·refine scall_val (v:=newS _ _ _ _ _ _) (k _ _ _ _ _ _) ?_
      rw[newS_yes h1];exact nil_tuple (nilC_ok _ rfl rfl)
     ·refine scall_val (v:=newS _ _ _ _ _ _) (k _ _ _ _ _ _) ?_
      rw[newS_no h1];exact nil_tuple (nilC_ok _ rfl rfl)
    ·cases ht
   ·cases ht
  ·cases ht
 ·cases ht
theorem o_new:fNew.ok Tryz.prog:=factNew_ok s_new
theorem o_newR:fNewR.ok Tryz.prog:=factNew_ok s_newR
theorem o_begX:fBegX.ok Tryz.prog:=factF1_ok fun f=>s_beginP f
theorem o_tickX:fTickX.ok Tryz.prog:=factFw_ok fun f rest t ht=>by
 split at ht
 ·injection ht with ht;subst ht;exact s_tickP f _ _
 ·cases ht
theorem s_works :SCall Tryz.prog 18 [] (.bool true):=
 scall_v mix [fNew,fAcpt,fTickX,fGoalX,fIdleX] ⟨o_new,o_acpt,o_tickX,o_goalX,o_idleX,trivial⟩ 40000 (.auto)
  (t:=.leaf (SV.bool true))
  (by kernel_rfl) (by trivial) (by kernel_rfl) (by kernel_rfl)
end Go.Proofs.YtnkaepnblikcdaaGreat
