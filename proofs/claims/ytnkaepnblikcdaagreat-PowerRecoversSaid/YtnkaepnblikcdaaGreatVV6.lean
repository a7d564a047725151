/-
  What the statement needs: an evaluator of the model, contracts of the functions that it reaches, and the plain law.
-/
import Derived.Test.YtnkaepnblikcdaaGreatVV5
import Derived.Test.YtnkaepnblikcdaaGreatVV3
import Derived.Shelf.RegionOpenPlain
import Derived.Lib.Walk
import Derived.Lib.ConvBytes
import Derived.Laws.IdiomStrings
import Derived.Laws.AppendOwn
import Derived.WalkKit
import Derived.Test.YtnkaepnblikcdaaGreatVV4
import Derived.Shelf.SlSortCmp.WholeK
import Derived.Shelf.SlicesG.Cmp
import Derived.Ground.SlsfProg
import Derived.Ground.SlgcProg
set_option maxRecDepth 100000
set_option linter.unusedVariables false
set_option linter.unusedSimpArgs false
open Go.IntKind (i64 u64)
namespace Go.Proofs.YtnkaepnblikcdaaGreat
open Go.Sx
def blockS(f:Fw)(c:V4)(len line:Int):SV:=if addOk f c len=true then .tuple [(addF f c len line).sv,I64 0]else .tuple [.agg (nilC fw0),I64 2]
theorem blockS_yes{f:Fw}{c:V4}{len line:Int}(h:addOk f c len=true):blockS f c len line=.tuple [(addF f c len line).sv,I64 0] :=if_pos h
theorem blockS_no{f:Fw}{c:V4}{len line:Int}(h:¬addOk f c len=true):blockS f c len line=.tuple [.agg (nilC fw0),I64 2] :=if_neg h
theorem blockS_data(f:Fw)(c:V4)(len line:Int):(blockS f c len line).data=true:=by unfold blockS;split<;>rfl
theorem fsBl:allOk Tryz.prog [fCapsR,fPlaR] :=⟨o_capsR,o_plaR,trivial⟩
theorem bl1_run{f:Fw}{c:V4}{len line:Int}(h:addPre f c len=true):RunsR Tryz.prog (fnOf Tryz.prog 114) (blockS f c len line) itemsB (slotsS 79 [(4,.ptr 0 0),(8,.ptr 1 0),(11,LB (addQ f c len))]) [some (.cells ({f with queue:=addQ f c len,lines:=f.lines++[line]}:Fw).cells),some (.cells (nilC fw0)),none,none] :=by
 have p:=addPre_iff.1 h
 have pl:=add_okPl h
 have ql:=addQ_len f c len
 refine runsR_seg (kW fsBl) (n:=1000) (hint:=.unit) (keep:=keepS 79 [4,8,11]) (p:=bl1_p) (blockS_data _ _ _ _) ?_
 erw [bl1 {f with queue:=addQ f c len,lines:=f.lines++[line]}]
 unfold bl1_t
 have f2:few2 (addQ f c len).length=true:=few2_iff.2 (by omega)
 have key:∀e,e=entryV f→okPl (addQ f c len) (capsV f.ma (addQ f c len)) e=true∧((e≤crL (addQ f c len) 0→(gL (addQ f c len) (capsV f.ma (addQ f c len)) e 0=e→SV.tuple [.agg (Fw.cells {f with queue:=plB (addQ f c len) (gL (addQ f c len) (capsV f.ma (addQ f c len)) e),lines:=f.lines++[line]}),.int .i64 0] =blockS f c len line)∧(¬gL (addQ f c len) (capsV f.ma (addQ f c len)) e 0=e→SV.tuple [.agg (nilC fw0),.int .i64 2] =blockS f c len line))∧(¬e≤crL (addQ f c len) 0→SV.tuple [.agg (nilC fw0),.int .i64 2] =blockS f c len line)):=fun e he=>by
  subst he
  refine⟨pl,fun a=>⟨fun b=>?_,fun b=>?_⟩,fun a=>?_⟩
  ·rw[blockS_yes (addOk_iff.2 ⟨a,b⟩)];rfl
  ·rw[blockS_no (fun o=>b (addOk_iff.1 o).2)];rfl
  ·rw[blockS_no (fun o=>a (addOk_iff.1 o).1)];rfl
 have fin:∀e,e=entryV f→∀T:Prop,T→T:=fun _ _ _ t=>t
 by_cases hm:f.moving=true
 ·have kk:=key f.mo.1.2.2.2.2 (by unfold entryV;rw[if_pos hm])
  refine⟨fun _=>⟨f2,kk.1,fun a=>⟨fun b=>(kk.2.1 (of_decide_eq_true a)).1 (of_decide_eq_true b),fun b=>(kk.2.1 (of_decide_eq_true a)).2 (of_decide_eq_false b)⟩,fun a=>kk.2.2 (of_decide_eq_false a)⟩,fun k=>absurd hm (by rw[show f.moving=false from k];exact Bool.false_ne_true)⟩
 ·refine⟨fun k=>absurd k hm,fun _=>⟨fun l=>?_,fun l=>?_⟩⟩
  ·have l:((addQ f c len).length:Int)>1:=of_decide_eq_true l
   have g0:(addQ f c len).getD 0 dBk=f.queue.getD 0 dBk:=by
    unfold addQ
    rw[List.getD_eq_getElem?_getD,List.getElem?_append_left (by omega),←List.getD_eq_getElem?_getD]
   have kk:=key ((addQ f c len).getD 0 dBk).2.2.1 (by unfold entryV;rw[if_neg hm,if_neg (by omega),g0])
   refine⟨decide_eq_true (by show(0:Int)< (addQ f c len).length;omega),f2,kk.1,fun a=>⟨fun b=>(kk.2.1 (of_decide_eq_true a)).1 (of_decide_eq_true b),fun b=>(kk.2.1 (of_decide_eq_true a)).2 (of_decide_eq_false b)⟩,fun a=>kk.2.2 (of_decide_eq_false a)⟩
  ·have l:¬((addQ f c len).length:Int)>1:=of_decide_eq_false l
   have kk:=key 0 (by unfold entryV;rw[if_neg hm,if_pos (by omega)])
   exact⟨f2,kk.1,fun a=>⟨fun b=>(kk.2.1 (of_decide_eq_true a)).1 (of_decide_eq_true b),fun b=>(kk.2.1 (of_decide_eq_true a)).2 (of_decide_eq_false b)⟩,fun a=>kk.2.2 (of_decide_eq_false a)⟩
theorem kBl:Known Tryz.prog (Env.ofB Tryz.prog (sumOf [fSpdR,fAccR]) (wrOf []) (pnOf []) (bxOf []) (rdOf []) (rdOf []) (rdOf []) (rdOf [10])):=
 hB (l:=[fSpdR,fAccR]) (k:=[]) (j:=[]) (i:=[]) [] [] [] [10] ⟨o_spdR,o_accR,trivial⟩ noneOk noneOk noneOk
theorem s_block(f:Fw)(c:V4)(len line:Int)(h:addPre f c len=true):SCall Tryz.prog 114 [f.sv,V4.sv c,I64 len,I64 line] (blockS f c len line):=by
 have p:=addPre_iff.1 h
 have sr:=spdV_rng p.1 (l:=len) (f:=f.feed) (ok63_iff.1 p.2.1).2 (ok63_iff.1 p.2.2.1).2
 have w:=wsq (v:=spdV f.ma c len f.feed) (by omega)
 refine scallR_loops rfl (blockS_data _ _ _ _) (by kernel_rfl) (runsR_seg kBl (n:=1000) (hint:=.unit) (keep:=keepS 79 [4,8,11]) (p:=bl0_p) (boxes:=[]) (blockS_data _ _ _ _) ?_)
 have q:=bl0 f c len line
 unfold startS codeS at q
 erw [q]
 unfold bl0_t
 rw[w]
 simp only[Tree.holds,Bool.and_eq_true,decide_eq_true_eq]
 refine⟨⟨p.2.1,p.2.2.1⟩,by omega,by omega,by simp;omega,by simp;omega,slotsS_len _ _,?_⟩
 refine runsR_weak false [2,3] (slots':=slotsS 79 [(4,.ptr 0 0),(8,.ptr 1 0),(11,LB (addQ f c len))]) (boxes':=[some (.cells ({f with queue:=addQ f c len,lines:=f.lines++[line]}:Fw).cells),some (.cells (nilC fw0)),none,none])
  (slotsS_wk ⟨rfl,.same _,rfl,.same _,rfl,.frz (by simp) rfl,trivial⟩) ⟨by simp,.cells ?_,by simp,.same _,rfl⟩ (bl1_run h)
 repeat(first|exact trivial|refine⟨.same _,?_⟩|refine⟨.frz (by simp) rfl,?_⟩)
def fBlock:Fact:=factFw 114 fun f rest=>match rest with
 |[.agg [.int .i64 a,.int .i64 b,.int .i64 c,.int .i64 d],.int .i64 len,.int .i64 line] =>some (.req (addPre f (a,b,c,d) len) (.node (addOk f (a,b,c,d) len) (.leaf (.tuple [(addF f (a,b,c,d) len line).sv,I64 0])) (.leaf (.tuple [.agg (nilC fw0),I64 2]))))
 |_=>none
theorem o_block:fBlock.ok Tryz.prog:=factFw_ok fun f rest t ht=>by
 split at ht
 ·rename_i a b c d len line
  injection ht with ht;subst ht
  intro h
  have k:=s_block f (a,b,c,d) len line h
  refine⟨fun o=>?_,fun o=>?_⟩
  ·rw[blockS_yes o]at k;exact k
  ·rw[blockS_no (by rw[o];exact Bool.false_ne_true)]at k;exact k
 ·cases ht
section
variable {f g:Fw} {line:Int} {c:Gc.C}
end
def retC(d:V4):V4:=(0,0,d.2.2.1,0)
def retD(d:V4):V4:=(d.1,d.2.1,0,0)
def retPre(f:Fw)(d:V4):Bool:=(!nz4 (retC d)||addPre f (retC d) 0)&& (!(backOk f (retC d)&&nz4 (retD d))||addPre (backF f (retC d)) (retD d) 0)
theorem retPre_iff{f:Fw}{d:V4}:retPre f d=true↔(nz4 (retC d)=true→addPre f (retC d) 0=true)∧(backOk f (retC d)=true→nz4 (retD d)=true→addPre (backF f (retC d)) (retD d) 0=true):=by
 unfold retPre
 cases nz4 (retC d)<;>cases nz4 (retD d)<;>cases backOk f (retC d)<;>simp
def retOk(f:Fw)(d:V4):Bool:=backOk f (retC d)&&backOk (backF f (retC d)) (retD d)
def retF(f:Fw)(d:V4):Fw:=backF (backF f (retC d)) (retD d)
def retS(f:Fw)(d:V4):SV:=if retOk f d=true then .tuple [(retF f d).sv,I64 0]else .tuple [.agg (nilC fw0),I64 2]
theorem retS_data(f:Fw)(d:V4):(retS f d).data=true:=by unfold retS;split<;>rfl
theorem retS_e1{f:Fw}{d:V4}(z:nz4 (retC d)=true)(o:addOk f (retC d) 0=false):SV.tuple [.agg (nilC fw0),.int .i64 2] =retS f d:=by
 have e:retOk f d=false:=by unfold retOk;rw[backOk_yes z,o];rfl
 unfold retS;rw[e];rfl
theorem retS_22{f:Fw}{d:V4}(z:nz4 (retC d)=true)(o:addOk f (retC d) 0=true)(y:nz4 (retD d)=true)(q:addOk (addF f (retC d) 0 0) (retD d) 0=true):SV.tuple [.agg (addF (addF f (retC d) 0 0) (retD d) 0 0).cells,.int .i64 0] =retS f d:=by
 have e:retOk f d=true:=by unfold retOk;rw[backOk_yes z,o,backF_yes z,backOk_yes y,q];rfl
 have r:retF f d=addF (addF f (retC d) 0 0) (retD d) 0 0:=by unfold retF;rw[backF_yes z,backF_yes y]
 unfold retS;rw[e,r];rfl
theorem retS_2e{f:Fw}{d:V4}(z:nz4 (retC d)=true)(o:addOk f (retC d) 0=true)(y:nz4 (retD d)=true)(q:addOk (addF f (retC d) 0 0) (retD d) 0=false):SV.tuple [.agg (nilC fw0),.int .i64 2] =retS f d:=by
 have e:retOk f d=false:=by unfold retOk;rw[backOk_yes z,o,backF_yes z,backOk_yes y,q];rfl
 unfold retS;rw[e];rfl
theorem retS_20{f:Fw}{d:V4}(z:nz4 (retC d)=true)(o:addOk f (retC d) 0=true)(y:nz4 (retD d)=false):SV.tuple [.agg (addF f (retC d) 0 0).cells,.int .i64 0] =retS f d:=by
 have e:retOk f d=true:=by unfold retOk;rw[backOk_yes z,o,backOk_no y];rfl
 have r:retF f d=addF f (retC d) 0 0:=by unfold retF;rw[backF_yes z,backF_no y]
 unfold retS;rw[e,r];rfl
theorem retS_02{f:Fw}{d:V4}(z:nz4 (retC d)=false)(y:nz4 (retD d)=true)(q:addOk f (retD d) 0=true):SV.tuple [.agg (addF f (retD d) 0 0).cells,.int .i64 0] =retS f d:=by
 have e:retOk f d=true:=by unfold retOk;rw[backOk_no z,backF_no z,backOk_yes y,q];rfl
 have r:retF f d=addF f (retD d) 0 0:=by unfold retF;rw[backF_no z,backF_yes y]
 unfold retS;rw[e,r];rfl
theorem retS_0e{f:Fw}{d:V4}(z:nz4 (retC d)=false)(y:nz4 (retD d)=true)(q:addOk f (retD d) 0=false):SV.tuple [.agg (nilC fw0),.int .i64 2] =retS f d:=by
 have e:retOk f d=false:=by unfold retOk;rw[backOk_no z,backF_no z,backOk_yes y,q];rfl
 unfold retS;rw[e];rfl
theorem retS_00{f:Fw}{d:V4}(z:nz4 (retC d)=false)(y:nz4 (retD d)=false):SV.tuple [.agg f.cells,.int .i64 0] =retS f d:=by
 have e:retOk f d=true:=by unfold retOk;rw[backOk_no z,backF_no z,backOk_no y];rfl
 have r:retF f d=f:=by unfold retF;rw[backF_no z,backF_no y]
 unfold retS;rw[e,r];rfl
theorem nzC{d:V4}:nz4 (retC d)=true↔¬d.2.2.1=0:=by unfold nz4 retC;simp
theorem nzD{d:V4}:nz4 (retD d)=true↔¬d.1=0∨¬d.2.1=0:=by unfold nz4 retD;simp
theorem s_retR(f:Fw)(p:V4)(h:retPre f (wsub4 p f.pos)=true):SCall Tryz.prog 115 [f.sv,V4.sv p] (retS f (wsub4 p f.pos)):=
 scall_vE (hB (l:=[fBlock,fMnsR]) (k:=[]) (j:=[]) (i:=[]) ([] :List Nat) ([] :List Nat) ([] :List Nat) ([] :List Nat) (⟨o_block,o_mnsR,trivial⟩) noneOk noneOk noneOk) 1000 (.fork (.fork (.lit (.fork (.ln 4 (.fork .all .all)) (.ln 3 (.fork (.fork .all .all) .all)))) (.lit .all)) (.fork (.ln 4 (.fork .all .all)) (.ln 3 (.fork (.fork .all .all) .all))))
  (t:=let y3:=wsub4 p f.pos;let y0:=(y3.1,y3.2.1,0,0);let y4:=addF f (0,0,y3.2.2.1,0) 0 0;let y5:Tree SV:=.leaf (.tuple [.agg (nilC fw0),.int .i64 2]);let y1:Tree SV:=.req true (.req (true) (.req (addPre y4 y0 0) (.node (addOk y4 y0 0) (.leaf (.tuple [.agg (Fw.cells (addF y4 y0 0 0)),.int .i64 0])) y5)));let y2:Tree SV:=.req true (.req (true) (.req (addPre f y0 0) (.node (addOk f y0 0) (.leaf (.tuple [.agg (Fw.cells (addF f y0 0 0)),.int .i64 0])) y5)));.req (true) (.node (y3.2.2.1 != 0) (.req true (.req (addPre f (0,0,y3.2.2.1,0) 0) (.node (addOk f (0,0,y3.2.2.1,0) 0) (.req true (.node (y3.1 != 0) y1 (.req true (.node (y3.2.1 != 0) y1 (.leaf (.tuple [.agg (Fw.cells y4),.int .i64 0])))))) y5))) (.req true (.node (y3.1 != 0) y2 (.req true (.node (y3.2.1 != 0) y2 (.leaf (.tuple [.agg (Fw.cells f),.int .i64 0]))))))))
  (by kernel_rfl) (by
   obtain⟨h1,h2⟩:=retPre_iff.1 h
   generalize wsub4 p f.pos=d at h1 h2 ⊢
   refine n_req rfl (n_ne (fun a=>?_) (fun a=>?_))
   ·have z:=nzC.2 a
    refine n_req rfl (n_req (h1 z) (n_bool (fun o=>?_) (fun o=>retS_e1 z o)))
    have h2:=h2 ((backOk_yes z).trans o)
    rw[backF_yes z]at h2
    refine n_req rfl (n_ne (fun b=>?_) (fun b=>n_req rfl (n_ne (fun c=>?_) (fun c=>?_))))
    ·have y:=nzD.2 (.inl b)
     exact n_req rfl (n_req rfl (n_req (h2 y) (n_bool (fun q=>retS_22 z o y q) (fun q=>retS_2e z o y q))))
    ·have y:=nzD.2 (.inr c)
     exact n_req rfl (n_req rfl (n_req (h2 y) (n_bool (fun q=>retS_22 z o y q) (fun q=>retS_2e z o y q))))
    ·exact retS_20 z o (Bool.eq_false_iff.2 fun y=>by have:=nzD.1 y;omega)
   ·have z:nz4 (retC d)=false:=Bool.eq_false_iff.2 fun y=>nzC.1 y a
    have h2:=h2 (backOk_no z)
    rw[backF_no z]at h2
    refine n_req rfl (n_ne (fun b=>?_) (fun b=>n_req rfl (n_ne (fun c=>?_) (fun c=>?_))))
    ·have y:=nzD.2 (.inl b)
     exact n_req rfl (n_req rfl (n_req (h2 y) (n_bool (fun q=>retS_02 z y q) (fun q=>retS_0e z y q))))
    ·have y:=nzD.2 (.inr c)
     exact n_req rfl (n_req rfl (n_req (h2 y) (n_bool (fun q=>retS_02 z y q) (fun q=>retS_0e z y q))))
    ·exact retS_00 z (Bool.eq_false_iff.2 fun y=>by have:=nzD.1 y;omega)) (by kernel_rfl) (by exact retS_data _ _)
def fRet:Fact:=factFw 115 fun f rest=>match rest with
 |[.agg [.int .i64 a,.int .i64 b,.int .i64 c,.int .i64 d]] =>some (.req (retPre f (wsub4 (a,b,c,d) f.pos)) (.node (retOk f (wsub4 (a,b,c,d) f.pos)) (.leaf (.tuple [(retF f (wsub4 (a,b,c,d) f.pos)).sv,I64 0])) (.leaf (.tuple [.agg (nilC fw0),I64 2]))))
 |_=>none
theorem o_ret:fRet.ok Tryz.prog:=factFw_ok fun f rest t ht=>by
 split at ht
 ·rename_i a b c d
  injection ht with ht;subst ht
  intro h
  have k:=s_retR f (a,b,c,d) h
  unfold retS at k
  refine⟨fun o=>?_,fun o=>?_⟩
  ·rw[if_pos o]at k;exact k
  ·rw[if_neg (by rw[o];exact Bool.false_ne_true)]at k;exact k
 ·cases ht
section
variable {f g:Fw} {line:Int} {r:V4}
end
section
variable {f:Fw} {line:Int} {c:Gc.C}
end
section
variable {f:Fw} {line:Int} {c:Gc.C}
end
section
variable {f g:Fw} {line:Int} {c:Gc.C}
end
def pgsB(l:Fl):Bool:=(l.pages.all fun p=>decide ((p.length:Int)≤100))&&decide ((l.pages.length:Int)≤20)
theorem pgsB_iff{l:Fl}:pgsB l=true↔(∀i,i<l.pages.length→((l.pages.getD i []).length:Int)≤100)∧(l.pages.length:Int)≤20:=by
 simp only[pgsB,Bool.and_eq_true,List.all_eq_true,decide_eq_true_eq]
 refine and_congr ⟨fun h i hi=>?_,fun h x hx=>?_⟩ Iff.rfl
 ·rw[List.getD_eq_getElem?_getD,List.getElem?_eq_getElem hi];exact h _ (List.getElem_mem hi)
 ·obtain⟨i,hi,rfl⟩:=List.getElem_of_mem hx
  have:=h i hi
  rw[List.getD_eq_getElem?_getD,List.getElem?_eq_getElem hi]at this;exact this
theorem pg_loop(l:Fl):∀ (k i:Nat),i+k=21→(∀t,t<i→t<l.pages.length→((l.pages.getD t []).length:Int)≤100)→
  RunsR Tryz.prog (fnOf Tryz.prog 39) (.bool (pgsB l)) (loopOf Tryz.prog 39 0) (slotsS 26 [(1,.ptr 0 0),(3,I64 i)]) [some (.cells l.cells)]
 |k,i,hi,hb=>by
  refine runsR_seg k00 (n:=1000) (hint:=.unit) (keep:=keepS 26 [1,3]) (p:=pg1_p) rfl ?_
  erw [pg1 l i]
  unfold pg1_t
  have t0:(i:Int).toNat=i:=by omega
  have fin:(¬(i:Int)<l.pages.length∨¬(i:Int)<21)→SV.bool (decide ((l.pages.length:Int)≤20))=.bool (pgsB l):=fun h=>by
   refine congrArg SV.bool (Bool.eq_iff_iff.2 ?_)
   rw[pgsB_iff,decide_eq_true_eq]
   refine⟨fun a=>⟨fun t ht=>hb t (by omega) ht,a⟩,fun a=>a.2⟩
  rw[t0]
  match k,hi with
  |0,hi=>exact n_dec (fun a=>n_dec (fun b=>absurd b (by omega)) fun b=>fin (.inr b)) fun a=>fin (.inl a)
  |k+1,hi=>
   have w1:i64.wrap ((i:Int)+1)=((i+1:Nat):Int):=by rw[w64 (by omega) (by omega)];omega
   rw[w1]
   refine n_dec (fun a=>n_dec (fun b=>n_req (by simp;omega) (n_dec (fun c=>?_) (fun c=>?_))) fun b=>fin (.inr b)) fun a=>fin (.inl a)
   ·show SV.bool false=_
    refine congrArg SV.bool (Eq.symm (Bool.eq_false_iff.2 fun h=>?_))
    have:=(pgsB_iff.1 h).1 i (by omega)
    have c:((l.pages.getD i []).length:Int)>100:=c
    omega
   ·refine⟨slotsS_len _ _,pg_loop l k (i+1) (by omega) fun t ht hl=>?_⟩
    rcases Nat.lt_or_ge t i with q|q
    ·exact hb t q hl
    ·obtain rfl:t=i:=by omega
     have c:¬((l.pages.getD t []).length:Int)>100:=c
     omega
theorem s_pages(l:Fl):SCall Tryz.prog 39 [l.sv] (.bool (pgsB l)):=by
 refine scallR_loops rfl rfl (by kernel_rfl) (runsR_seg k00 (n:=1000) (hint:=.unit) (keep:=keepS 26 [1,3]) (p:=pg0_p) (boxes:=[]) rfl ?_)
 have q:=pg0 l
 unfold startS codeS at q
 erw [q]
 unfold pg0_t
 exact⟨slotsS_len _ _,pg_loop l 21 0 (by omega) fun t ht=>absurd ht (Nat.not_lt_zero _)⟩
def fPages:Fact:=factFl 39 fun l=>.leaf (.bool (pgsB l))
theorem o_pages:fPages.ok Tryz.prog:=factFl_ok fun l=>s_pages l
def evN(x:EvT):Int:=opN x.1
def fewB(l:List EvT)(m:Int):Bool:=(l.all fun x=>decide (evN x≤40))&&decide ((l.length:Int)≤m)
def lenE(l:List EvT):Bool:=Nat.ble l.length 9223372036854775807
def fFew:Fact:=⟨52,fun args=>match args with
 |[.list (.pair (.pair (.int .i64) (.pair .bool (.pair (.pair (.int .i64) (.pair (.int .i64) (.pair (.int .i64) (.pair (.int .i64) (.pair (.int .i64) (.pair (.int .i64) (.pair (.int .i64) (.int .i64)))))))) (.pair (.int .i64) (.pair (.int .i64) (.int .i64)))))) (.pair (.int .i64) (.int .i64))) l,.int .i64 m] =>some (.req (lenE l) (.leaf (.bool (fewB l m))))
 |_=>none⟩
theorem fs_loop(l:Fl)(hl:l.pages.length≤1000):∀ (k i:Nat),i+k=l.pages.length→
  RunsR Tryz.prog (fnOf Tryz.prog 45) (.bool true) (loopOf Tryz.prog 45 0) (slotsS 52 [(2,.ptr 0 0),(3,.ptr 1 0),(36,I64 l.pages.length),(37,I64 i)]) [some (.cells l.cells),some (.cells l.cells)]
 |k,i,hi=>by
  refine runsR_seg k00 (n:=1000) (hint:=.unit) (keep:=keepS 52 [2,3,36,37]) (p:=fs1_p) rfl ?_
  erw [fs1 l i]
  unfold fs1_t
  have t0:(i:Int).toNat=i:=by omega
  rw[t0]
  match k,hi with
  |0,hi=>exact n_dec (fun a=>absurd a (by omega)) fun a=>rfl
  |k+1,hi=>
   have w1:i64.wrap ((i:Int)+1)=((i+1:Nat):Int):=by rw[w64 (by omega) (by omega)];omega
   rw[w1]
   have an:∀{a b:Bool},a=true→b=true→(a&&b)=true:=fun ha hb=>by rw[ha,hb];rfl
   have bd:(decide (0≤(i:Int))&&decide ((i:Int)<l.pages.length))=true:=an (decide_eq_true (by omega)) (decide_eq_true (by omega))
   exact n_dec (fun _=>n_req bd (n_req bd (n_not (fun q=>absurd q (by simp)) fun _=>⟨slotsS_len _ _,fs_loop l hl k (i+1) (by omega)⟩))) fun a=>absurd (by omega) a
theorem s_sameL(l:Fl)(h:fewP l=true):SCall Tryz.prog 45 [l.sv,l.sv] (.bool true):=by
 have h:=of_decide_eq_true h
 refine scallR_loops rfl rfl (by kernel_rfl) (runsR_seg k00 (n:=1000) (hint:=.unit) (keep:=keepS 52 [2,3,36,37]) (p:=fs0_p) (boxes:=[]) rfl ?_)
 have q:=fs0 l
 unfold startS codeS at q
 erw [q]
 unfold fs0_t
 exact n_ne (fun q=>absurd rfl q) fun _=>n_ne (fun q=>absurd rfl q) fun _=>n_not (fun q=>absurd q (by simp)) fun _=>n_ne (fun q=>absurd rfl q) fun _=>⟨slotsS_len _ _,fs_loop l h l.pages.length 0 (by omega)⟩
noncomputable def eqFl(x y:Fl):Bool:=@decide (x=y) (Classical.propDecidable _)
theorem eqFl_eq{x y:Fl}(h:eqFl x y=true):x=y:=@of_decide_eq_true _ (Classical.propDecidable _) h
noncomputable def fSameL:Fact:=⟨45,fun args=>match args with
 |[.agg [.list .str p,.int .i64 a,.bool d,.int .i64 k],.agg [.list .str p',.int .i64 a',.bool d',.int .i64 k']] =>some (.req (eqFl ⟨p,a,d,k⟩ ⟨p',a',d',k'⟩) (.req (fewP ⟨p,a,d,k⟩) (.leaf (.bool true))))
 |_=>none⟩
theorem o_sameL:fSameL.ok Tryz.prog:=fun args t ht=>by
 simp only[fSameL]at ht
 split at ht
 ·injection ht with ht;subst ht
  intro h k
  have e:=eqFl_eq h
  injection e with e1 e2 e3 e4
  subst e1;subst e2;subst e3;subst e4
  exact s_sameL _ k
 ·cases ht
theorem s_ppls(a b:V4):SCall Tryz.prog 106 [V4.sv a,V4.sv b,I64 1] (V4.sv (wadd4 a b)):=
 scall_v mix [] trivial 1000 (.go (.lit (.go (.lit (.go (.lit (.go (.lit (.go (.lit (.all)))))))))))
  (t:=.req (true) (.req true (.req (true) (.req true (.req (true) (.req true (.req (true) (.req true (.req (true) (.req true (.req (true) (.req true (.leaf (.agg [.int .i64 (i64.wrap (a.1+i64.wrap (1*b.1))),.int .i64 (i64.wrap (a.2.1+i64.wrap (1*b.2.1))),.int .i64 (i64.wrap (a.2.2.1+i64.wrap (1*b.2.2.1))),.int .i64 (i64.wrap (a.2.2.2+i64.wrap (1*b.2.2.2)))]))))))))))))))
  (by kernel_rfl) (by
   have w1:∀x y:Int,i64.wrap (x+i64.wrap (1*y))=i64.wrap (x+y):=fun x y=>by
    rw[IntKind.wrap_i64,IntKind.wrap_i64,IntKind.wrap_i64];omega
   rw[w1,w1,w1,w1]
   refine n_req rfl (n_req rfl (n_req rfl (n_req rfl (n_req rfl (n_req rfl (n_req rfl (n_req rfl (n_req rfl (n_req rfl (n_req rfl (n_req rfl rfl)))))))))))) (by kernel_rfl) (by kernel_rfl)
theorem s_pmns(a b:V4):SCall Tryz.prog 106 [V4.sv a,V4.sv b,I64 (-1)] (V4.sv (wsub4 a b)):=
 scall_v mix [] trivial 1000 (.go (.lit (.go (.lit (.go (.lit (.go (.lit (.go (.lit (.all)))))))))))
  (t:=.req (true) (.req true (.req (true) (.req true (.req (true) (.req true (.req (true) (.req true (.req (true) (.req true (.req (true) (.req true (.leaf (.agg [.int .i64 (i64.wrap (a.1+i64.wrap (-1*b.1))),.int .i64 (i64.wrap (a.2.1+i64.wrap (-1*b.2.1))),.int .i64 (i64.wrap (a.2.2.1+i64.wrap (-1*b.2.2.1))),.int .i64 (i64.wrap (a.2.2.2+i64.wrap (-1*b.2.2.2)))]))))))))))))))
  (by kernel_rfl) (by
   have w1:∀x y:Int,i64.wrap (x+i64.wrap (-1*y))=i64.wrap (x-y):=fun x y=>by
    rw[IntKind.wrap_i64,IntKind.wrap_i64,IntKind.wrap_i64];omega
   rw[w1,w1,w1,w1]
   refine n_req rfl (n_req rfl (n_req rfl (n_req rfl (n_req rfl (n_req rfl (n_req rfl (n_req rfl (n_req rfl (n_req rfl (n_req rfl (n_req rfl rfl)))))))))))) (by kernel_rfl) (by kernel_rfl)
theorem s_psm(c:V4):SCall Tryz.prog 105 [V4.sv c] (.bool (near4 c)):=
 scall_v mix [] trivial 1000 (.go (.lit (.fork (.lit (.lit (.lit .all))) (.lit (.lit (.fork .all (.go (.lit (.fork (.lit (.lit (.lit .all))) (.lit (.lit (.fork .all (.go (.lit (.fork (.lit (.lit (.lit .all))) (.lit (.lit (.fork .all (.go (.lit (.fork (.lit (.lit (.lit .all))) (.lit (.lit (.fork .all (.go (.lit .all))))))))))))))))))))))))))
  (t:=.req (true) (.node (decide (c.1 < -16777216)) (.leaf (.bool false)) (.node (decide (c.1>16777216)) (.leaf (.bool false)) (.req true (.node (decide (c.2.1 < -16777216)) (.leaf (.bool false)) (.node (decide (c.2.1>16777216)) (.leaf (.bool false)) (.req true (.node (decide (c.2.2.1 < -16777216)) (.leaf (.bool false)) (.node (decide (c.2.2.1>16777216)) (.leaf (.bool false)) (.req true (.node (decide (c.2.2.2 < -16777216)) (.leaf (.bool false)) (.node (decide (c.2.2.2>16777216)) (.leaf (.bool false)) (.leaf (.bool true))))))))))))))
  (by kernel_rfl) (by
   have q:∀b:Bool,(b=true↔near4 c=true)→SV.bool b=SV.bool (near4 c):=fun b h=>by rw[Bool.eq_iff_iff.2 h]
   have nf:=@near4_iff c
   refine n_req rfl (n_dec (fun a=>q _ ?_) fun a=>n_dec (fun a2=>q _ ?_) fun a2=>n_req rfl (n_dec (fun b=>q _ ?_) fun b=>n_dec (fun b2=>q _ ?_) fun b2=>n_req rfl (n_dec (fun d=>q _ ?_) fun d=>n_dec (fun d2=>q _ ?_) fun d2=>n_req rfl (n_dec (fun e=>q _ ?_) fun e=>n_dec (fun e2=>q _ ?_) fun e2=>q _ ?_))))
   all_goals(rw[nf];simp only[Bool.false_eq_true,false_iff,true_iff];omega)) (by kernel_rfl) (by kernel_rfl)
abbrev eL:SV:=.list Ty.unit []
def cln_p:Plan:=.fork (.fork (.all) (.all)) (.fork (.all) (.all))
noncomputable def cln_t(f:Fw):Tree Stop:= .node (f.queue.isEmpty) (.node (f.lines.isEmpty) (.leaf (.done (.agg [.int .i64 f.ma.x.num,.int .i64 f.ma.x.den,.int .i64 f.ma.x.speed,.int .i64 f.ma.x.accel,.int .i64 f.ma.x.jerk,.int .i64 f.ma.x.min,.int .i64 f.ma.x.max,.int .i64 f.ma.y.num,.int .i64 f.ma.y.den,.int .i64 f.ma.y.speed,.int .i64 f.ma.y.accel,.int .i64 f.ma.y.jerk,.int .i64 f.ma.y.min,.int .i64 f.ma.y.max,.int .i64 f.ma.z.num,.int .i64 f.ma.z.den,.int .i64 f.ma.z.speed,.int .i64 f.ma.z.accel,.int .i64 f.ma.z.jerk,.int .i64 f.ma.z.min,.int .i64 f.ma.z.max,.int .i64 f.ma.e.num,.int .i64 f.ma.e.den,.int .i64 f.ma.e.speed,.int .i64 f.ma.e.accel,.int .i64 f.ma.e.jerk,.int .i64 f.ma.e.min,.int .i64 f.ma.e.max,.bool f.ma.xy,.int .i64 f.ma.ticks,.int .i64 f.mode,.bool f.homed,.int .i64 f.pos.1,.int .i64 f.pos.2.1,.int .i64 f.pos.2.2.1,.int .i64 f.pos.2.2.2,.int .i64 f.loc.1,.int .i64 f.loc.2.1,.int .i64 f.loc.2.2,.int .i64 f.e,.int .i64 f.feed,eL,eL,.int .i64 f.mo.1.1.1,.int .i64 f.mo.1.1.2.1,.int .i64 f.mo.1.1.2.2.1,.int .i64 f.mo.1.1.2.2.2,.int .i64 f.mo.1.2.1,.int .i64 f.mo.1.2.2.1,.int .i64 f.mo.1.2.2.2.1,.int .i64 f.mo.1.2.2.2.2,.int .i64 f.mo.2.1,.int .i64 f.mo.2.2,.bool f.moving,.int .i64 f.active,.bool f.back,.int .i64 f.ret.1,.int .i64 f.ret.2.1,.int .i64 f.ret.2.2.1,.int .i64 f.ret.2.2.2,.int .i64 f.dwell,.int .i64 f.waits,.int .i64 f.c0.target,.int .i64 f.c0.kp,.int .i64 f.c0.ki,.int .i64 f.c0.scale,.int .i64 f.c0.sum,.int .i64 f.c0.limit,.int .i64 f.c1.target,.int .i64 f.c1.kp,.int .i64 f.c1.ki,.int .i64 f.c1.scale,.int .i64 f.c1.sum,.int .i64 f.c1.limit,.int .i64 f.g0.low,.int .i64 f.g0.high,.int .i64 f.g0.watch,.int .i64 f.g0.rise,.int .i64 f.g0.band,.int .i64 f.g0.base,.int .i64 f.g0.count,.int .i64 f.g0.idle,.int .i64 f.g0.quiet,.int .i64 f.g0.fault,.bool f.g0.door,.int .i64 f.g1.low,.int .i64 f.g1.high,.int .i64 f.g1.watch,.int .i64 f.g1.rise,.int .i64 f.g1.band,.int .i64 f.g1.base,.int .i64 f.g1.count,.int .i64 f.g1.idle,.int .i64 f.g1.quiet,.int .i64 f.g1.fault,.bool f.g1.door,.int .i64 f.fan,.int .i64 f.line,.int .i64 f.ticks,.int .i64 f.cold,.int .i64 f.r0,.int .i64 f.r1]))) (.req (decide ((0+f.lines.length)*8≤140737488355328)) (.leaf (.done (.agg [.int .i64 f.ma.x.num,.int .i64 f.ma.x.den,.int .i64 f.ma.x.speed,.int .i64 f.ma.x.accel,.int .i64 f.ma.x.jerk,.int .i64 f.ma.x.min,.int .i64 f.ma.x.max,.int .i64 f.ma.y.num,.int .i64 f.ma.y.den,.int .i64 f.ma.y.speed,.int .i64 f.ma.y.accel,.int .i64 f.ma.y.jerk,.int .i64 f.ma.y.min,.int .i64 f.ma.y.max,.int .i64 f.ma.z.num,.int .i64 f.ma.z.den,.int .i64 f.ma.z.speed,.int .i64 f.ma.z.accel,.int .i64 f.ma.z.jerk,.int .i64 f.ma.z.min,.int .i64 f.ma.z.max,.int .i64 f.ma.e.num,.int .i64 f.ma.e.den,.int .i64 f.ma.e.speed,.int .i64 f.ma.e.accel,.int .i64 f.ma.e.jerk,.int .i64 f.ma.e.min,.int .i64 f.ma.e.max,.bool f.ma.xy,.int .i64 f.ma.ticks,.int .i64 f.mode,.bool f.homed,.int .i64 f.pos.1,.int .i64 f.pos.2.1,.int .i64 f.pos.2.2.1,.int .i64 f.pos.2.2.2,.int .i64 f.loc.1,.int .i64 f.loc.2.1,.int .i64 f.loc.2.2,.int .i64 f.e,.int .i64 f.feed,eL,.list (Ty.int IntKind.i64) f.lines,.int .i64 f.mo.1.1.1,.int .i64 f.mo.1.1.2.1,.int .i64 f.mo.1.1.2.2.1,.int .i64 f.mo.1.1.2.2.2,.int .i64 f.mo.1.2.1,.int .i64 f.mo.1.2.2.1,.int .i64 f.mo.1.2.2.2.1,.int .i64 f.mo.1.2.2.2.2,.int .i64 f.mo.2.1,.int .i64 f.mo.2.2,.bool f.moving,.int .i64 f.active,.bool f.back,.int .i64 f.ret.1,.int .i64 f.ret.2.1,.int .i64 f.ret.2.2.1,.int .i64 f.ret.2.2.2,.int .i64 f.dwell,.int .i64 f.waits,.int .i64 f.c0.target,.int .i64 f.c0.kp,.int .i64 f.c0.ki,.int .i64 f.c0.scale,.int .i64 f.c0.sum,.int .i64 f.c0.limit,.int .i64 f.c1.target,.int .i64 f.c1.kp,.int .i64 f.c1.ki,.int .i64 f.c1.scale,.int .i64 f.c1.sum,.int .i64 f.c1.limit,.int .i64 f.g0.low,.int .i64 f.g0.high,.int .i64 f.g0.watch,.int .i64 f.g0.rise,.int .i64 f.g0.band,.int .i64 f.g0.base,.int .i64 f.g0.count,.int .i64 f.g0.idle,.int .i64 f.g0.quiet,.int .i64 f.g0.fault,.bool f.g0.door,.int .i64 f.g1.low,.int .i64 f.g1.high,.int .i64 f.g1.watch,.int .i64 f.g1.rise,.int .i64 f.g1.band,.int .i64 f.g1.base,.int .i64 f.g1.count,.int .i64 f.g1.idle,.int .i64 f.g1.quiet,.int .i64 f.g1.fault,.bool f.g1.door,.int .i64 f.fan,.int .i64 f.line,.int .i64 f.ticks,.int .i64 f.cold,.int .i64 f.r0,.int .i64 f.r1]))))) (.req (decide ((0+f.queue.length)*64≤140737488355328)) (.node (f.lines.isEmpty) (.leaf (.done (.agg [.int .i64 f.ma.x.num,.int .i64 f.ma.x.den,.int .i64 f.ma.x.speed,.int .i64 f.ma.x.accel,.int .i64 f.ma.x.jerk,.int .i64 f.ma.x.min,.int .i64 f.ma.x.max,.int .i64 f.ma.y.num,.int .i64 f.ma.y.den,.int .i64 f.ma.y.speed,.int .i64 f.ma.y.accel,.int .i64 f.ma.y.jerk,.int .i64 f.ma.y.min,.int .i64 f.ma.y.max,.int .i64 f.ma.z.num,.int .i64 f.ma.z.den,.int .i64 f.ma.z.speed,.int .i64 f.ma.z.accel,.int .i64 f.ma.z.jerk,.int .i64 f.ma.z.min,.int .i64 f.ma.z.max,.int .i64 f.ma.e.num,.int .i64 f.ma.e.den,.int .i64 f.ma.e.speed,.int .i64 f.ma.e.accel,.int .i64 f.ma.e.jerk,.int .i64 f.ma.e.min,.int .i64 f.ma.e.max,.bool f.ma.xy,.int .i64 f.ma.ticks,.int .i64 f.mode,.bool f.homed,.int .i64 f.pos.1,.int .i64 f.pos.2.1,.int .i64 f.pos.2.2.1,.int .i64 f.pos.2.2.2,.int .i64 f.loc.1,.int .i64 f.loc.2.1,.int .i64 f.loc.2.2,.int .i64 f.e,.int .i64 f.feed,.list tyBk f.queue,eL,.int .i64 f.mo.1.1.1,.int .i64 f.mo.1.1.2.1,.int .i64 f.mo.1.1.2.2.1,.int .i64 f.mo.1.1.2.2.2,.int .i64 f.mo.1.2.1,.int .i64 f.mo.1.2.2.1,.int .i64 f.mo.1.2.2.2.1,.int .i64 f.mo.1.2.2.2.2,.int .i64 f.mo.2.1,.int .i64 f.mo.2.2,.bool f.moving,.int .i64 f.active,.bool f.back,.int .i64 f.ret.1,.int .i64 f.ret.2.1,.int .i64 f.ret.2.2.1,.int .i64 f.ret.2.2.2,.int .i64 f.dwell,.int .i64 f.waits,.int .i64 f.c0.target,.int .i64 f.c0.kp,.int .i64 f.c0.ki,.int .i64 f.c0.scale,.int .i64 f.c0.sum,.int .i64 f.c0.limit,.int .i64 f.c1.target,.int .i64 f.c1.kp,.int .i64 f.c1.ki,.int .i64 f.c1.scale,.int .i64 f.c1.sum,.int .i64 f.c1.limit,.int .i64 f.g0.low,.int .i64 f.g0.high,.int .i64 f.g0.watch,.int .i64 f.g0.rise,.int .i64 f.g0.band,.int .i64 f.g0.base,.int .i64 f.g0.count,.int .i64 f.g0.idle,.int .i64 f.g0.quiet,.int .i64 f.g0.fault,.bool f.g0.door,.int .i64 f.g1.low,.int .i64 f.g1.high,.int .i64 f.g1.watch,.int .i64 f.g1.rise,.int .i64 f.g1.band,.int .i64 f.g1.base,.int .i64 f.g1.count,.int .i64 f.g1.idle,.int .i64 f.g1.quiet,.int .i64 f.g1.fault,.bool f.g1.door,.int .i64 f.fan,.int .i64 f.line,.int .i64 f.ticks,.int .i64 f.cold,.int .i64 f.r0,.int .i64 f.r1]))) (.req (decide ((0+f.lines.length)*8≤140737488355328)) (.leaf (.done (.agg [.int .i64 f.ma.x.num,.int .i64 f.ma.x.den,.int .i64 f.ma.x.speed,.int .i64 f.ma.x.accel,.int .i64 f.ma.x.jerk,.int .i64 f.ma.x.min,.int .i64 f.ma.x.max,.int .i64 f.ma.y.num,.int .i64 f.ma.y.den,.int .i64 f.ma.y.speed,.int .i64 f.ma.y.accel,.int .i64 f.ma.y.jerk,.int .i64 f.ma.y.min,.int .i64 f.ma.y.max,.int .i64 f.ma.z.num,.int .i64 f.ma.z.den,.int .i64 f.ma.z.speed,.int .i64 f.ma.z.accel,.int .i64 f.ma.z.jerk,.int .i64 f.ma.z.min,.int .i64 f.ma.z.max,.int .i64 f.ma.e.num,.int .i64 f.ma.e.den,.int .i64 f.ma.e.speed,.int .i64 f.ma.e.accel,.int .i64 f.ma.e.jerk,.int .i64 f.ma.e.min,.int .i64 f.ma.e.max,.bool f.ma.xy,.int .i64 f.ma.ticks,.int .i64 f.mode,.bool f.homed,.int .i64 f.pos.1,.int .i64 f.pos.2.1,.int .i64 f.pos.2.2.1,.int .i64 f.pos.2.2.2,.int .i64 f.loc.1,.int .i64 f.loc.2.1,.int .i64 f.loc.2.2,.int .i64 f.e,.int .i64 f.feed,.list tyBk f.queue,.list (Ty.int IntKind.i64) f.lines,.int .i64 f.mo.1.1.1,.int .i64 f.mo.1.1.2.1,.int .i64 f.mo.1.1.2.2.1,.int .i64 f.mo.1.1.2.2.2,.int .i64 f.mo.1.2.1,.int .i64 f.mo.1.2.2.1,.int .i64 f.mo.1.2.2.2.1,.int .i64 f.mo.1.2.2.2.2,.int .i64 f.mo.2.1,.int .i64 f.mo.2.2,.bool f.moving,.int .i64 f.active,.bool f.back,.int .i64 f.ret.1,.int .i64 f.ret.2.1,.int .i64 f.ret.2.2.1,.int .i64 f.ret.2.2.2,.int .i64 f.dwell,.int .i64 f.waits,.int .i64 f.c0.target,.int .i64 f.c0.kp,.int .i64 f.c0.ki,.int .i64 f.c0.scale,.int .i64 f.c0.sum,.int .i64 f.c0.limit,.int .i64 f.c1.target,.int .i64 f.c1.kp,.int .i64 f.c1.ki,.int .i64 f.c1.scale,.int .i64 f.c1.sum,.int .i64 f.c1.limit,.int .i64 f.g0.low,.int .i64 f.g0.high,.int .i64 f.g0.watch,.int .i64 f.g0.rise,.int .i64 f.g0.band,.int .i64 f.g0.base,.int .i64 f.g0.count,.int .i64 f.g0.idle,.int .i64 f.g0.quiet,.int .i64 f.g0.fault,.bool f.g0.door,.int .i64 f.g1.low,.int .i64 f.g1.high,.int .i64 f.g1.watch,.int .i64 f.g1.rise,.int .i64 f.g1.band,.int .i64 f.g1.base,.int .i64 f.g1.count,.int .i64 f.g1.idle,.int .i64 f.g1.quiet,.int .i64 f.g1.fault,.bool f.g1.door,.int .i64 f.fan,.int .i64 f.line,.int .i64 f.ticks,.int .i64 f.cold,.int .i64 f.r0,.int .i64 f.r1]))))))
theorem cln(f:Fw):segR (Env.of Tryz.prog (sumOf [])) 1000 (fnOf Tryz.prog 104) .unit (keepS 14 []) (codeS Tryz.prog 104) cln_p (startS Tryz.prog 104 [f.sv]) [] =cln_t f:=by kernel_rfl
inductive EmpL:SV→SV→Prop where
 |same (x:SV):EmpL x x
 |emp (t:Ty):EmpL eL (.list t [])
def EmpLs:List SV→List SV→Prop
 |[],[] =>True
 |x::xs,y::ys=>EmpL x y∧EmpLs xs ys
 |_,_=>False
theorem EmpL.rep{R:Nat→Prop}{ρ:Rho}{n:Nat}{w:World}{x y:SV}{v:Value}(h:EmpL x y)(hr:Rep R ρ n w x v):Rep R ρ n w y v:=by
 cases h with
 |same=>exact hr
 |emp t=>
  obtain⟨A,cap,h1,h2,_⟩:=hr
  exact⟨A,cap,h1,h2,fun h=>absurd h (Nat.lt_irrefl _)⟩
theorem EmpLs.rep{R:Nat→Prop}{ρ:Rho}{n:Nat}{w:World}:∀{xs ys:List SV} {vs:List Value},EmpLs xs ys→RepL R ρ n w xs vs→RepL R ρ n w ys vs
 |[],[],_,_,hr=>hr
 |x::xs,y::ys,_,h,hr=>by
  obtain⟨u,us,rfl,h1,h2⟩:=hr
  exact⟨u,us,rfl,h.1.rep h1,h.2.rep h2⟩
def clnC(f:Fw)(q l:SV):List SV:=f.cells.take 41++(q::l::f.cells.drop 43)
theorem clnC_ok(f:Fw){q l:SV}(hq:EmpL q (LB f.queue))(hl:EmpL l (LI f.lines)):EmpLs (clnC f q l) f.cells:=by
 obtain⟨⟩:=f
 dsimp only at hq hl
 repeat(first|exact trivial|refine⟨.same _,?_⟩|refine⟨hq,?_⟩|refine⟨hl,?_⟩)
theorem s_cln(f:Fw)(h:shF f=true):SCall Tryz.prog 104 [f.sv] f.sv:=by
 have h1:f.queue.length≤1000:=of_decide_eq_true ((Bool.and_eq_true _ _).mp h).1
 have h2:f.lines.length≤1000:=of_decide_eq_true ((Bool.and_eq_true _ _).mp h).2
 have key:∀q l:SV,(clnC f q l).length=102→dataL (clnC f q l)=true→EmpL q (LB f.queue)→EmpL l (LI f.lines)→(cln_t f).holds (fun o=>match o with
   |.done v'=>v'=.agg (clnC f q l)
   |.at items' size slots' boxes'=>slots'.length=size∧RunsR Tryz.prog (fnOf Tryz.prog 104) (.agg (clnC f q l)) items' slots' boxes')→SCall Tryz.prog 104 [f.sv] f.sv:=fun q l _ hd hq hl ht=>by
  refine scall_val (v:=.agg (clnC f q l)) (scallR_loops rfl hd (by kernel_rfl) (runsR_seg k000 (n:=1000) (hint:=.unit) (keep:=keepS 14 []) (p:=cln_p) (boxes:=[]) hd ?_)) fun R ρ n w u hu=>?_
  ·have e:=cln f
   unfold startS codeS at e
   erw [e]
   exact ht
  ·obtain⟨ws,hu1,hu2⟩:=hu
   exact⟨ws,hu1,(clnC_ok f hq hl).rep hu2⟩
 by_cases a:f.queue=[]
 ·have ea:EmpL eL (LB f.queue):=by rw[a];exact .emp _
  by_cases b:f.lines=[]
  ·have eb:EmpL eL (LI f.lines):=by rw[b];exact .emp _
   refine key eL eL rfl rfl ea eb ?_
   unfold cln_t
   exact n_bool (fun _=>n_bool (fun _=>rfl) fun k=>absurd k (by rw[b];simp)) fun k=>absurd k (by rw[a];simp)
  ·refine key eL (LI f.lines) rfl rfl ea (.same _) ?_
   unfold cln_t
   exact n_bool (fun _=>n_bool (fun k=>absurd (List.isEmpty_iff.1 k) b) fun _=>n_req (decide_eq_true (by omega)) rfl) fun k=>absurd k (by rw[a];simp)
 ·by_cases b:f.lines=[]
  ·have eb:EmpL eL (LI f.lines):=by rw[b];exact .emp _
   refine key (LB f.queue) eL rfl rfl (.same _) eb ?_
   unfold cln_t
   exact n_bool (fun k=>absurd (List.isEmpty_iff.1 k) a) fun _=>n_req (decide_eq_true (by omega)) (n_bool (fun _=>rfl) fun k=>absurd k (by rw[b];simp))
  ·refine key (LB f.queue) (LI f.lines) rfl rfl (.same _) (.same _) ?_
   unfold cln_t
   exact n_bool (fun k=>absurd (List.isEmpty_iff.1 k) a) fun _=>n_req (decide_eq_true (by omega)) (n_bool (fun k=>absurd (List.isEmpty_iff.1 k) b) fun _=>n_req (decide_eq_true (by omega)) rfl)
def fCln:Fact:=factF1 104 fun f=>.req (shF f) (.leaf f.sv)
theorem o_cln:fCln.ok Tryz.prog:=factF1_ok fun f h=>s_cln f h
def fPSm:Fact:=factV 105 fun c=>.leaf (.bool (near4 c))
theorem o_pSm:fPSm.ok Tryz.prog:=factV_ok s_psm
def fPP:Fact:=⟨106,fun args=>match args with
 |[.agg [.int .i64 a0,.int .i64 a1,.int .i64 a2,.int .i64 a3],.agg [.int .i64 b0,.int .i64 b1,.int .i64 b2,.int .i64 b3],.int .i64 s] =>match s==1 with
  |true=>some (.leaf (V4.sv (wadd4 (a0,a1,a2,a3) (b0,b1,b2,b3))))
  |false=>match s== -1 with
   |true=>some (.leaf (V4.sv (wsub4 (a0,a1,a2,a3) (b0,b1,b2,b3))))
   |false=>none
 |_=>none⟩
theorem o_pP:fPP.ok Tryz.prog:=fun args t ht=>by
 simp only[fPP]at ht
 split at ht
 ·split at ht
  ·rename_i hs
   have hs:=beq_iff_eq.1 hs
   subst hs
   injection ht with ht;subst ht
   exact s_ppls (_,_,_,_) (_,_,_,_)
  ·split at ht
   ·rename_i hs
    have hs:=beq_iff_eq.1 hs
    subst hs
    injection ht with ht;subst ht
    exact s_pmns (_,_,_,_) (_,_,_,_)
   ·cases ht
 ·cases ht
def decR(s:List UInt8):Rc:=⟨tk s 6 1,tk s 0 6,tk s 7 6,tk s 13 4,(sg (tk s 17 4),sg (tk s 21 4),sg (tk s 25 4),sg (tk s 29 4)),(sg (tk s 33 4),sg (tk s 37 4),sg (tk s 41 4),sg (tk s 45 4))⟩
def rcZ:Rc:=⟨0,0,0,0,(0,0,0,0),(0,0,0,0)⟩
def decB(s:List UInt8):Bool:=rcB (decR s)&&s==enc (decR s)
def decV(s:List UInt8):SV:=match decide (s.length<64)with
 |true=>.tuple [rcZ.sv,I64 6]
 |false=>match decB s with
  |true=>.tuple [(decR s).sv,I64 0]
  |false=>.tuple [rcZ.sv,I64 19]
theorem decV_data(s:List UInt8):(decV s).data=true:=by unfold decV;split<;>(try split)<;>rfl
theorem s_decR(s:List UInt8)(h:s.length≤100000):SCall Tryz.prog 263 [.str s] (decV s):=
 scall_v mix [fNbR,fFourR,fEncR] ⟨o_nbR,o_fourR,o_encR,trivial⟩ 1000 (.fork .all (.fork (.ln 4 (.fork .all .all)) (.ln 4 (.lit .all))))
  (t:=let y0:Tree SV:=.leaf (.tuple [.agg [.int .i64 0,.int .i64 0,.int .i64 0,.int .i64 0,.int .i64 0,.int .i64 0,.int .i64 0,.int .i64 0,.int .i64 0,.int .i64 0,.int .i64 0,.int .i64 0],.int .i64 19]);let y1:=Rc.mk (tk s 6 1) (tk s 0 6) (tk s 7 6) (tk s 13 4) (sg (tk s 17 4),sg (tk s 21 4),sg (tk s 25 4),sg (tk s 29 4)) (sg (tk s 33 4),sg (tk s 37 4),sg (tk s 41 4),sg (tk s 45 4));let y2:=(↑s.length:Int);let y3:=s.length≤100000;.node (decide (y2<64)) (.leaf (.tuple [.agg [.int .i64 0,.int .i64 0,.int .i64 0,.int .i64 0,.int .i64 0,.int .i64 0,.int .i64 0,.int .i64 0,.int .i64 0,.int .i64 0,.int .i64 0,.int .i64 0],.int .i64 6])) (.req (decide (6≤y2)&&decide y3) (.req (decide (7≤y2)&&decide y3) (.req (decide (13≤y2)&&decide y3) (.req (decide (17≤y2)&&decide y3) (.req (decide (33≤y2)&&decide y3) (.req (decide (49≤y2)&&decide y3) (.node (rcB y1) (.node (!s==enc y1) y0 (.leaf (.tuple [.agg [.int .i64 (tk s 6 1),.int .i64 (tk s 0 6),.int .i64 (tk s 7 6),.int .i64 (tk s 13 4),.int .i64 (sg (tk s 17 4)),.int .i64 (sg (tk s 21 4)),.int .i64 (sg (tk s 25 4)),.int .i64 (sg (tk s 29 4)),.int .i64 (sg (tk s 33 4)),.int .i64 (sg (tk s 37 4)),.int .i64 (sg (tk s 41 4)),.int .i64 (sg (tk s 45 4))],.int .i64 0]))) y0))))))))
  (by kernel_rfl) (by
   have qq:∀x:Int,x≤49→64≤s.length→(decide (x≤(s.length:Int))&&decide (s.length≤100000))=true:=fun x a b=>by simp;omega
   unfold decV
   refine n_dec (fun a=>?_) (fun a=>?_)
   ·rw[decide_eq_true (show s.length<64 by omega)];rfl
   ·rw[decide_eq_false (show ¬s.length<64 by omega)]
    have b:64≤s.length:=by omega
    have e:decB s=(rcB (decR s)&&s==enc (decR s)):=rfl
    refine n_req (qq _ (by decide) b) (n_req (qq _ (by decide) b) (n_req (qq _ (by decide) b) (n_req (qq _ (by decide) b) (n_req (qq _ (by decide) b) (n_req (qq _ (by decide) b) (n_bool (fun v=>?_) fun v=>?_))))))
    ·have v:rcB (decR s)=true:=v
     refine n_not (fun w=>?_) fun w=>?_
     ·have w:(s==enc (decR s))=false:=w
      rw[e,v,w];rfl
     ·have w:(s==enc (decR s))=true:=w
      rw[e,v,w];rfl
    ·have v:rcB (decR s)=false:=v
     rw[e,v];rfl) (by kernel_rfl) (by exact decV_data s)
theorem decB_iff{s:List UInt8}:decB s=true↔rcB (decR s)=true∧s=enc (decR s):=by
 simp only[decB,Bool.and_eq_true,beq_iff_eq]
def recAt(n:Int)(i:Nat)(s:List UInt8):Option Rc:=match decB s&& (decR s).seq.tmod n==(i:Int)with
 |true=>some (decR s)
 |false=>none
theorem recAt_iff{n:Int}{i:Nat}{s:List UInt8}{r:Rc}:recAt n i s=some r↔decB s=true∧(decR s).seq.tmod n=(i:Int)∧decR s=r:=by
 unfold recAt
 split
 ·rename_i h;rw[Bool.and_eq_true,beq_iff_eq]at h;simp[h]
 ·rename_i h
  rw[Bool.and_eq_false_iff]at h
  simp only[reduceCtorEq,false_iff,not_and]
  intro h1 h2
  rcases h with h|h
  ·rw[h1]at h;cases h
  ·rw[h2]at h;simp at h
def recsFrom(n:Int):Nat→List (List UInt8)→List Rc
 |_,[] =>[]
 |i,s::l=>match recAt n i s with
  |some r=>r::recsFrom n (i+1) l
  |none=>recsFrom n (i+1) l
theorem recs_cons{n:Int}{i:Nat}{s:List UInt8}{l:List (List UInt8)}:recsFrom n i (s::l)=match recAt n i s with
  |some r=>r::recsFrom n (i+1) l
  |none=>recsFrom n (i+1) l:=rfl
theorem mem_recs{n:Int}{r:Rc}:∀{l:List (List UInt8)} {i:Nat},r∈recsFrom n i l↔∃j,j<l.length∧recAt n (i+j) (l.getD j [])=some r
 |[],i=>by simp[recsFrom]
 |s::l,i=>by
  have ih:=@mem_recs n r l (i+1)
  have key:(∃j,j< (s::l).length∧recAt n (i+j) ((s::l).getD j [])=some r)↔recAt n i s=some r∨∃j,j<l.length∧recAt n (i+1+j) (l.getD j [])=some r:=by
   constructor
   ·rintro ⟨j,hj,h⟩
    cases j with
    |zero=>exact .inl h
    |succ j=>exact .inr ⟨j,by simpa using hj,by rw[show i+1+j=i+(j+1) by omega];simpa using h⟩
   ·rintro (h|⟨j,hj,h⟩)
    ·exact⟨0,by simp,h⟩
    ·exact⟨j+1,by simpa using hj,by rw[show i+(j+1)=i+1+j by omega];simpa using h⟩
  rw[key,←ih,recs_cons]
  split
  ·rename_i r' h;rw[h,List.mem_cons];simp[eq_comm]
  ·rename_i h;rw[h];simp
def distinct:List Rc→Prop
 |[] =>True
 |r::l=>(∀x∈l,x.seq≠r.seq)∧distinct l
theorem recs_distinct{n:Int}:∀{l:List (List UInt8)} {i:Nat},distinct (recsFrom n i l)
 |[],i=>trivial
 |s::l,i=>by
  unfold recsFrom
  split
  ·rename_i r h
   refine⟨fun x hx e=>?_,recs_distinct⟩
   obtain⟨j,_,hj⟩:=mem_recs.1 hx
   obtain⟨_,h1,rfl⟩:=recAt_iff.1 hj
   obtain⟨_,h2,rfl⟩:=recAt_iff.1 h
   rw[e]at h1;omega
  ·exact recs_distinct
def insR(r:Rc):List Rc→List Rc
 |[] =>[r]
 |x::l=>match decide (r.seq<x.seq)with
  |true=>r::x::l
  |false=>x::insR r l
def sortR(l:List Rc):List Rc:=l.foldl (fun acc r=>insR r acc) []
def ascR:List Rc→Prop
 |[] =>True
 |r::l=>(∀x∈l,r.seq≤x.seq)∧ascR l
theorem insR_perm(r:Rc):∀l:List Rc,(insR r l).Perm (r::l)
 |[] =>.refl _
 |x::l=>by
  unfold insR
  split
  ·exact .refl _
  ·exact((insR_perm r l).cons x).trans (List.Perm.swap r x l)
theorem insR_asc(r:Rc):∀l:List Rc,ascR l→ascR (insR r l)
 |[],_=>⟨fun x hx=>(by cases hx),trivial⟩
 |x::l,h=>by
  unfold insR
  split
  ·rename_i hd
   have hd:=of_decide_eq_true hd
   refine⟨fun y hy=>?_,h⟩
   rcases List.mem_cons.1 hy with rfl|hy
   ·omega
   ·have:=h.1 y hy;omega
  ·rename_i hd
   have hd:=of_decide_eq_false hd
   refine⟨fun y hy=>?_,insR_asc r l h.2⟩
   rcases List.mem_cons.1 ((insR_perm r l).mem_iff.1 hy)with rfl|hy
   ·omega
   ·exact h.1 y hy
theorem sort_perm(l:List Rc):(sortR l).Perm l:=by
 have:∀ (l acc:List Rc),(l.foldl (fun acc r=>insR r acc) acc).Perm (l.reverse++acc):=by
  intro l
  induction l with
  |nil=>intro acc;exact .refl _
  |cons x l ih=>
   intro acc
   rw[List.foldl_cons,List.reverse_cons,List.append_assoc]
   exact(ih (insR x acc)).trans ((insR_perm x acc).append_left l.reverse)
 have h:=this l []
 rw[List.append_nil]at h
 exact h.trans (List.reverse_perm l)
theorem sort_asc(l:List Rc):ascR (sortR l):=by
 have:∀ (l acc:List Rc),ascR acc→ascR (l.foldl (fun acc r=>insR r acc) acc):=by
  intro l
  induction l with
  |nil=>intro acc h;exact h
  |cons x l ih=>intro acc h;exact ih _ (insR_asc x acc h)
 exact this l [] trivial
theorem distinct_iff:∀{l:List Rc},distinct l↔(l.map (·.seq)).Nodup
 |[] =>by simp[distinct]
 |r::l=>by
  simp only[distinct,List.map_cons,List.nodup_cons,distinct_iff (l:=l),List.mem_map,not_exists,not_and]
theorem distinct_perm{a b:List Rc}(h:a.Perm b)(d:distinct a):distinct b:=distinct_iff.2 ((h.map _).nodup_iff.1 (distinct_iff.1 d))
theorem sorted_unique:∀{a b:List Rc},a.Perm b→ascR a→ascR b→distinct a→a=b
 |[],b,h,_,_,_=>(List.Perm.nil_eq h)
 |x::a,[],h,_,_,_=>absurd h.symm (by simp)
 |x::a,y::b,h,ha,hb,d=>by
  have hx:x∈y::b:=h.mem_iff.1 List.mem_cons_self
  have hy:y∈x::a:=h.mem_iff.2 List.mem_cons_self
  have e:x=y:=by
   rcases List.mem_cons.1 hx with e|hx
   ·exact e
   ·rcases List.mem_cons.1 hy with e|hy
    ·exact e.symm
    ·have h1:=ha.1 y hy
     have h2:=hb.1 x hx
     exact absurd (by omega) (d.1 y hy)
  subst e
  rw[sorted_unique h.cons_inv ha.2 hb.2 d.2]
theorem sort_of{l l':List Rc}(d:distinct l)(p:l'.Perm l)(h:ascR l'):l'=sortR l:=
 sorted_unique (p.trans (sort_perm l).symm) h (sort_asc l) (distinct_perm p.symm d)
theorem insR_at{r:Rc}:∀{a b:List Rc},ascR (a++b)→(∀x∈a,x.seq≤r.seq)→(∀x∈b,r.seq<x.seq)→insR r (a++b)=a++r::b
 |[],[],_,_,_=>rfl
 |[],y::b,_,_,h=>by
  show insR r (y::b)=_
  unfold insR
  rw[decide_eq_true (h y List.mem_cons_self)];rfl
 |x::a,b,h,h1,h2=>by
  show insR r (x::(a++b))=_
  unfold insR
  have:=h1 x List.mem_cons_self
  rw[decide_eq_false (by omega)]
  show x::insR r (a++b)=_
  rw[insR_at h.2 (fun y hy=>h1 y (List.mem_cons_of_mem _ hy)) h2];rfl
def wrE(f:Fl)(i:Int)(data:List UInt8):Int:=match hasB f i&&decide (data.length=64)with
 |false=>1
 |true=>match f.dead||f.fuse==1 with
  |true=>17
  |false=>0
def wrF(f:Fl)(i:Int)(data:List UInt8):Fl:=match hasB f i&&decide (data.length=64)&&!f.dead with
 |false=>f
 |true=>match f.fuse==1 with
  |true=>⟨f.pages.set i.toNat (data.take f.keep.toNat++(f.pages.getD i.toNat []).drop f.keep.toNat),0,true,0⟩
  |false=>⟨f.pages.set i.toNat data,if f.fuse-1>0 then f.fuse-1 else 0,f.dead,f.keep⟩
def allL(f:Fl):List Rc:=match flB f&&!f.dead with
 |true=>sortR (recsFrom f.pages.length 0 f.pages)
 |false=>[]
def lastO(f:Fl):Option Rc:=(allL f).getLast?
def lastSeq(f:Fl):Int:=match lastO f with
 |some r=>r.seq
 |none=>0
def apE(f:Fl)(r:Rc):Int:=match rcB r&&flB f with
 |false=>1
 |true=>match f.dead with
  |true=>17
  |false=>match r.seq==lastSeq f+1 with
   |false=>11
   |true=>wrE f (r.seq.tmod f.pages.length) (enc r)
def apF(f:Fl)(r:Rc):Fl:=match rcB r&&flB f&&!f.dead&&r.seq==lastSeq f+1 with
 |true=>wrF f (r.seq.tmod f.pages.length) (enc r)
 |false=>f
def nextR(f:Fl)(r:Rc):Rc:={r with seq:=lastSeq f+1}
def recE(f:Fl)(r:Rc):Int:=apE f (nextR f r)
def recF(f:Fl)(r:Rc):Fl:=apF f (nextR f r)
end Go.Proofs.YtnkaepnblikcdaaGreat
namespace Go.Sx
open Go.RowKit
theorem scall_lib {P : Program} {f : FuncId} {fn : Func} {args : List SV} {v : SV} (hd : dataL args = true) (hv : v.data = true) (hf : P.funcs[f]? = some fn) (hb : fn.body.isSome = true) (hn : (fn.name == "runtime.NumGoroutine") = false)
  (h:∀ (R:Nat→Prop) (w:World) (vs:List Value),(∀b,R b→b<w.heap.size)→Gnd w→RepL R (fun _=>(0,0,0)) 0 w args vs→
    Calls P f vs.toArray w fun e w'=>∃u,e=.returned u∧Below w.heap.size w w'∧Rep (fun b=>R b∨(w.heap.size≤b∧b<w'.heap.size)) (fun _=>(0,0,0)) 0 w' v u):SCall P f args v:=by
 intro m w0 R0 ρ w vs hm hvs
 obtain⟨body,hb⟩:=Option.isSome_iff_exists.1 hb
 rw[callFunc_enter hf hb hn]
 obtain⟨o1,o2⟩:=own_mem hm ρ
 have hvs':=RepL.data (R':=RO w0 R0 ρ w m) (ρ':=fun _=>(0,0,0)) (n':=0) (fun b hb=>hb) args vs hd hvs
 refine Calls.mono (h (RO w0 R0 ρ w m) w vs (fun b hb=>hm.ro_lt hb) hm.gnd hvs') fun e w' ⟨u,he,g1,g3⟩=>⟨u,he,?_⟩
 have g:MRel w (RS w0 R0 ρ w m) ρ w' ⟨0,.e⟩:=⟨⟨g1,hm.gnd⟩,fun id B h=>(by cases h),fun id B h=>(by cases h),fun id B h=>(by cases h),fun id id' B B' h=>(by cases h),fun id B h=>(by cases h),fun b hb=>⟨Nat.lt_of_lt_of_le (hm.ro_lt hb) g1.size,g1.block b (hm.ro_lt hb)⟩,fun id B h=>(by cases h)⟩
 have hst:=Hand.start hm g
 obtain⟨k1,k2⟩:=hst.finish hm g
 refine⟨ρ,k1,k2,Rep.data (fun b hb=>?_) v u hv g3⟩
 rcases hb with hb|hb
 ·exact hst.ro b (.inr (.inl ⟨hb,hm.ro_lt hb⟩))
 ·exact hst.ro b (.inr (.inr ⟨hb.1,hb.2,(fun id B h=>by cases h),fun hr=>by have:=hm.ro_lt hr;omega⟩))
end Go.Sx
namespace Go.Proofs.YtnkaepnblikcdaaGreat
open Go.Sx Go.RowKit Go.Lib
theorem t5_bytes:Tryz.t5.bytes=1:=by kernel_rfl
def padCells(w:World)(s:List UInt8)(k:Nat):Array Value:=
 ⟨s.map fun b=>Value.int .u8 b.toNat⟩++(Builtin.zeroCells #[Value.int .u8 0] k++Builtin.zeroCells #[Value.int .u8 0] (grownCap (bytesWorld w 5 ⟨⟨s⟩⟩) (s.length+k) s.length 5-(s.length+k)))
def padWorld(w:World)(s:List UInt8)(k:Nat):World:=((bytesWorld w 5 ⟨⟨s⟩⟩).alloc (.cells (padCells w s k) 5)).drew
theorem zeroCells_eq(k:Nat):Builtin.zeroCells #[Value.int .u8 0] k=⟨List.replicate k (.int .u8 0)⟩:=by
 unfold Builtin.zeroCells
 apply Array.ext
 ·simp
 ·intro i h1 h2
  simp[Nat.mod_one]
theorem pad_load(w:World)(s:List UInt8):(loadCellsFrom ⟨w.heap.size,0,none⟩ 0 s.length #[]).run Tryz.prog (bytesWorld w 5 ⟨⟨s⟩⟩).drew=.ok ⟨s.map fun b=>Value.int .u8 b.toNat⟩ (bytesWorld w 5 ⟨⟨s⟩⟩).drew:=by
 have h:=run_loadCells_list (P:=Tryz.prog) (bytesWorld w 5 ⟨⟨s⟩⟩).drew ⟨w.heap.size,0,none⟩ (s.map fun b=>Value.int .u8 b.toNat) (fun j v hj=>by
  have hj':j<s.length:=by
   have:=(List.getElem?_eq_some_iff.1 hj).1
   simpa using this
  have h1:(bytesWorld w 5 ⟨⟨s⟩⟩).drew.cell? ((⟨w.heap.size,0,none⟩:Addr).add j)=(bytesWorld w 5 ⟨⟨s⟩⟩).cell? ⟨w.heap.size,j,none⟩:=by rw[Addr.add_lit,Nat.zero_add];rfl
  rw[h1,bytesWorld_cell w 5 ⟨⟨s⟩⟩ j hj']
  rw[List.getElem?_map,List.getElem?_eq_getElem hj']at hj
  simp only[Option.map_some,Option.some.injEq]at hj
  rw[←hj]
  simp[List.getD_eq_getElem?_getD,List.getElem?_eq_getElem hj'])
 rw[List.length_map]at h
 exact h
theorem pad_conv(w:World)(s:List UInt8)(k:Nat)(cap:Nat):(convert 154 9 (.slice (some ⟨(bytesWorld w 5 ⟨⟨s⟩⟩).heap.size,0,none⟩) (s.length+k) cap)).run Tryz.prog (padWorld w s k)=.ok (.string ⟨⟨s++List.replicate k 0⟩⟩) (padWorld w s k):=by
 have h:=run_convert_bytes_back (P:=Tryz.prog) (padWorld w s k) 154 9 5 ⟨(bytesWorld w 5 ⟨⟨s⟩⟩).heap.size,0,none⟩ cap (s++List.replicate k 0) Tryz.underlying154 Tryz.underlying5 Tryz.underlying9 (fun j hj=>by
  rw[Addr.add_lit,Nat.zero_add]
  show((bytesWorld w 5 ⟨⟨s⟩⟩).alloc (.cells (padCells w s k) 5)).cell? _=_
  rw[World.cell?_alloc_mark]
  unfold padCells
  rw[zeroCells_eq,zeroCells_eq]
  by_cases h:j<s.length
  ·rw[Array.getElem?_append_left (by simpa using h),List.getElem_append_left h,←Array.getElem?_toList]
   simp[List.getElem?_eq_getElem h]
  ·rw[List.length_append,List.length_replicate]at hj
   rw[Array.getElem?_append_right (by simpa using h),Array.getElem?_append_left (by simp;omega),List.getElem_append_right (by omega),←Array.getElem?_toList]
   simp[List.getElem?_replicate];omega)
 rw[List.length_append,List.length_replicate]at h
 exact h
theorem pad_below(w:World)(s:List UInt8)(k:Nat):Below w.heap.size w (padWorld w s k):=by
 refine⟨rfl,rfl,rfl,?_,fun j hj=>?_⟩
 ·show w.heap.size≤((bytesWorld w 5 ⟨⟨s⟩⟩).heap.push _).size
  rw[Array.size_push,bytesWorld_size];omega
 ·show((bytesWorld w 5 ⟨⟨s⟩⟩).heap.push _)[j]? =_
  rw[Array.getElem?_push,if_neg (by rw[bytesWorld_size];omega)]
  exact bytesWorld_at_old w 5 _ j hj
set_option maxHeartbeats 4000000 in
theorem pad_walk(s:List UInt8)(k:Nat)(w:World)(h0:0<s.length)(hk:0<k)(hn:s.length+k≤65536):
  Calls Tryz.prog 301 #[.string ⟨⟨s⟩⟩,.int .i64 ((s.length+k:Nat):Int)] w fun e w'=>e=.returned (.tuple #[.string ⟨⟨s++List.replicate k 0⟩⟩,.int .i64 0])∧w'=padWorld w s k:=by
 obtain⟨n,hnn⟩:∃n,n=s.length+k:=⟨_,rfl⟩
 rw[←hnn]
 have h1:s.length<n:=by omega
 have h2:n≤65536:=by omega
 have hsub:(n:Int)-(s.length:Int)=(k:Int):=by omega
 have hN:Hid (n=s.length+k):=hnn
 have hk2:Hid (s.length+k≤65536):=hn
 clear hnn hn
 have hC2:Hid (s.length≤grownCap w s.length 0 5):=grownCap_ge _ _ _ _
 have hL:=pad_load w s
 have hV:=pad_conv w s k
 have hq:Hid (¬(281474976710656<Builtin.nextslicecap (s.length+k) s.length)):=by
  have:Builtin.nextslicecap (s.length+k) s.length*1≤281474976710656:=growslice_fits (by omega) (by have:=hk2.out;omega)
  show ¬_
  omega
 go_enter Tryz.func301,Tryz.ntmps301
 go_wp2
 rw[Lib.run_convert_string_bytes w 9 154 5 ⟨⟨s⟩⟩ Tryz.underlying9 Tryz.underlying154 Tryz.underlying5]
 simp only[Result.andThen]
 rw[Oper.upon_value]
 go_wp2
 ·rename_i h1 h2;exfalso;rw[t5_bytes]at h1;have:=hk2.out;omega
 ·rename_i h1 h2;exfalso;rw[t5_bytes]at h1;have:=hk2.out;omega
 ·rename_i h1 h2 h3 h4;exfalso;rw[t5_bytes]at h1;have:=hq.out;omega
 ·erw [hV]
  simp only[Result.andThen]
  rw[Oper.upon_value]
  go_wp2
  go_ret2
  exact⟨rfl,rfl⟩
theorem s_pad(s:List UInt8)(n:Int)(h0:0<s.length)(h:(s.length:Int)<n)(hn:n≤65536):SCall Tryz.prog 301 [.str s,I64 n] (.tuple [.str (padS s n),I64 0]):=by
 refine scall_lib (fn:=Tryz.f301) rfl rfl Tryz.func301 (by kernel_rfl) (by kernel_rfl) fun R w vs hR hg hvs=>?_
 obtain⟨u,us,rfl,h1,u2,us2,rfl,h2,h3⟩:=hvs
 rw[show us2=[]from h3,show u=_ from h1,show u2=_ from h2]
 obtain⟨k,hk⟩:∃k:Nat,n=((s.length+k:Nat):Int):=⟨(n-s.length).toNat,by omega⟩
 subst hk
 refine(pad_walk s k w h0 (by omega) (by omega)).mono fun e w' ⟨he,hw⟩=>⟨_,he,by rw[hw];exact pad_below w s k,?_⟩
 refine⟨_,rfl,_,_,rfl,?_,_,_,rfl,rfl,rfl⟩
 show Value.string _=Value.string _
 have:(((s.length+k:Nat):Int)-(s.length:Int)).toNat=k:=by omega
 simp only[padS,this]
def fPad:Fact:=⟨301,fun args=>match args with
 |[.str s,.int .i64 n] =>some (.req (decide (0<s.length)&& (decide ((s.length:Int)<n)&&decide (n≤65536))) (.leaf (.tuple [.str (padS s n),I64 0])))
 |_=>none⟩
theorem o_pad:fPad.ok Tryz.prog:=fun args t ht=>by
 simp only[fPad]at ht
 split at ht
 ·injection ht with ht;subst ht
  intro h
  simp only[Bool.and_eq_true,decide_eq_true_eq]at h
  exact s_pad _ _ h.1 h.2.1 h.2.2
 ·cases ht
open Go.Sx
def wrp_p:Plan:=.fork (.fork (.ln 3 (.lit .all)) (.ln 3 (.fork .all (.fork .all (.fork .all .all))))) (.fork (.ln 3 (.lit .all)) (.ln 3 (.fork .all (.fork .all (.fork .all .all)))))
noncomputable def wrp_t(f:Fl)(i:Int)(d:List UInt8):Tree Stop:= .node (f.pages.isEmpty) (.req (fewP f) (.node (!hasB f i) (.leaf (.done (.tuple [.agg [.list Ty.str [],.int .i64 f.fuse,.bool f.dead,.int .i64 f.keep],.int .i64 1]))) (.node ((↑d.length:Int) != 64) (.leaf (.done (.tuple [.agg [.list Ty.str [],.int .i64 f.fuse,.bool f.dead,.int .i64 f.keep],.int .i64 1]))) (.node (f.dead) (.leaf (.done (.tuple [.agg [.list Ty.str [],.int .i64 f.fuse,.bool f.dead,.int .i64 f.keep],.int .i64 17]))) (.req (decide (0≤i)&&decide (i< (↑f.pages.length:Int))) (.node (f.fuse==1) (.req (decide (0≤f.keep)&&decide (f.keep≤(↑d.length:Int))) (.req (decide ((List.map (fun b=>(↑b.toNat:Int)) (List.take f.keep.toNat d)).length≤(List.map (fun b=>(↑b.toNat:Int)) (f.pages.getD i.toNat ([] :List UInt8))).length)&&!(List.map (fun b=>(↑b.toNat:Int)) (f.pages.getD i.toNat ([] :List UInt8))).isEmpty) (.req (decide (0≤i)&&decide (i<0)) (.fail 6)))) (.req (decide ((List.map (fun b=>(↑b.toNat:Int)) d).length≤(List.map (fun b=>(↑b.toNat:Int)) (f.pages.getD i.toNat ([] :List UInt8))).length)&&!(List.map (fun b=>(↑b.toNat:Int)) (f.pages.getD i.toNat ([] :List UInt8))).isEmpty) (.req (decide (0≤i)&&decide (i<0)) (.fail 6))))))))) (.req (decide ((0+f.pages.length)*16≤140737488355328)) (.req (fewP f) (.node (!hasB f i) (.leaf (.done (.tuple [.agg [.list Ty.str f.pages,.int .i64 f.fuse,.bool f.dead,.int .i64 f.keep],.int .i64 1]))) (.node ((↑d.length:Int) != 64) (.leaf (.done (.tuple [.agg [.list Ty.str f.pages,.int .i64 f.fuse,.bool f.dead,.int .i64 f.keep],.int .i64 1]))) (.node (f.dead) (.leaf (.done (.tuple [.agg [.list Ty.str f.pages,.int .i64 f.fuse,.bool f.dead,.int .i64 f.keep],.int .i64 17]))) (.req (decide (0≤i)&&decide (i< (↑f.pages.length:Int))) (.node (f.fuse==1) (.req (decide (0≤f.keep)&&decide (f.keep≤(↑d.length:Int))) (.req (decide ((List.map (fun b=>(↑b.toNat:Int)) (List.take f.keep.toNat d)).length≤(List.map (fun b=>(↑b.toNat:Int)) (f.pages.getD i.toNat ([] :List UInt8))).length)&&!(List.map (fun b=>(↑b.toNat:Int)) (f.pages.getD i.toNat ([] :List UInt8))).isEmpty) (.req (decide (0≤i)&&decide (i< (↑f.pages.length:Int))) (.req (decide (i.toNat<f.pages.length)) (.leaf (.done (.tuple [.agg [.list Ty.str (f.pages.set i.toNat (List.map (fun n=>UInt8.ofNat (Int.toNat n)) (List.map (fun b=>(↑b.toNat:Int)) (List.take f.keep.toNat d)++List.drop (List.map (fun b=>(↑b.toNat:Int)) (List.take f.keep.toNat d)).length (List.map (fun b=>(↑b.toNat:Int)) (f.pages.getD i.toNat ([] :List UInt8)))))),.int .i64 0,.bool true,.int .i64 0],.int .i64 17]))))))) (.req (decide ((List.map (fun b=>(↑b.toNat:Int)) d).length≤(List.map (fun b=>(↑b.toNat:Int)) (f.pages.getD i.toNat ([] :List UInt8))).length)&&!(List.map (fun b=>(↑b.toNat:Int)) (f.pages.getD i.toNat ([] :List UInt8))).isEmpty) (.req (decide (0≤i)&&decide (i< (↑f.pages.length:Int))) (.req (decide (i.toNat<f.pages.length)) (.leaf (.done (.tuple [.agg [.list Ty.str (f.pages.set i.toNat (List.map (fun n=>UInt8.ofNat (Int.toNat n)) (List.map (fun b=>(↑b.toNat:Int)) d++List.drop (List.map (fun b=>(↑b.toNat:Int)) d).length (List.map (fun b=>(↑b.toNat:Int)) (f.pages.getD i.toNat ([] :List UInt8)))))),.int .i64 (if i64.wrap (f.fuse-1)>0 then i64.wrap (f.fuse-1)else 0),.bool f.dead,.int .i64 f.keep],.int .i64 0])))))))))))))
theorem wrp(f:Fl)(i:Int)(d:List UInt8):segR (Env.ofB Tryz.prog (sumOf [fHas]) (wrOf []) (pnOf []) (bxOf []) (rdOf []) (rdOf [130]) (rdOf []) (rdOf [])) 1000 (fnOf Tryz.prog 267) .str (keepS 65 []) (codeS Tryz.prog 267) wrp_p (startS Tryz.prog 267 [f.sv,I64 i,.str d]) [] =wrp_t f i d:=by kernel_rfl
def wrr_p:Plan:=.fork (.fork (.ln 12 (.lit .all)) (.lit (.lit (.fork (.ln 9 (.lit .all)) (.ln 5 (.fork (.ln 3 (.lit .all)) (.ln 3 (.fork .all (.fork .all (.fork .all .all)))))))))) (.fork (.ln 12 (.lit .all)) (.lit (.lit (.fork (.ln 9 (.lit .all)) (.ln 5 (.fork (.ln 3 (.lit .all)) (.ln 3 (.fork .all (.fork .all (.fork .all .all))))))))))
noncomputable def wrr_t(f:Fl)(i:Int)(d:List UInt8):Tree Stop:= .node (f.pages.isEmpty) (.req (fewP f) (.node (!flB f) (.leaf (.done (.tuple [.agg [.list Ty.str [],.int .i64 f.fuse,.bool f.dead,.int .i64 f.keep],.int .i64 1]))) (.node (decide (i<0)) (.leaf (.done (.tuple [.agg [.list Ty.str [],.int .i64 f.fuse,.bool f.dead,.int .i64 f.keep],.int .i64 1]))) (.node (decide (i≥(↑f.pages.length:Int))) (.leaf (.done (.tuple [.agg [.list Ty.str [],.int .i64 f.fuse,.bool f.dead,.int .i64 f.keep],.int .i64 1]))) (.node ((↑d.length:Int) != 64) (.leaf (.done (.tuple [.agg [.list Ty.str [],.int .i64 f.fuse,.bool f.dead,.int .i64 f.keep],.int .i64 1]))) (.node (f.dead) (.leaf (.done (.tuple [.agg [.list Ty.str [],.int .i64 f.fuse,.bool f.dead,.int .i64 f.keep],.int .i64 17]))) (.node (f.fuse==1) (.req (decide (0≤f.keep)&&decide (f.keep≤(↑d.length:Int))) (.req (decide (0≤i)&&decide (i< (↑f.pages.length:Int))) (.req (decide (0≤f.keep)&&decide (f.keep≤((List.length (f.pages.getD i.toNat ([] :List UInt8)):Nat):Int))) (.req (decide ((((List.take f.keep.toNat d).length+(List.drop f.keep.toNat (f.pages.getD i.toNat ([] :List UInt8))).length:Nat):Int)≤(9223372036854775807:Int))) (.req (decide (0≤i)&&decide (i<0)) (.fail 6)))))) (.req (decide (0≤i)&&decide (i<0)) (.fail 6))))))))) (.req (decide ((0+f.pages.length)*16≤140737488355328)) (.req (fewP f) (.node (!flB f) (.leaf (.done (.tuple [.agg [.list Ty.str f.pages,.int .i64 f.fuse,.bool f.dead,.int .i64 f.keep],.int .i64 1]))) (.node (decide (i<0)) (.leaf (.done (.tuple [.agg [.list Ty.str f.pages,.int .i64 f.fuse,.bool f.dead,.int .i64 f.keep],.int .i64 1]))) (.node (decide (i≥(↑f.pages.length:Int))) (.leaf (.done (.tuple [.agg [.list Ty.str f.pages,.int .i64 f.fuse,.bool f.dead,.int .i64 f.keep],.int .i64 1]))) (.node ((↑d.length:Int) != 64) (.leaf (.done (.tuple [.agg [.list Ty.str f.pages,.int .i64 f.fuse,.bool f.dead,.int .i64 f.keep],.int .i64 1]))) (.node (f.dead) (.leaf (.done (.tuple [.agg [.list Ty.str f.pages,.int .i64 f.fuse,.bool f.dead,.int .i64 f.keep],.int .i64 17]))) (.node (f.fuse==1) (.req (decide (0≤f.keep)&&decide (f.keep≤(↑d.length:Int))) (.req (decide (0≤i)&&decide (i< (↑f.pages.length:Int))) (.req (decide (0≤f.keep)&&decide (f.keep≤((List.length (f.pages.getD i.toNat ([] :List UInt8)):Nat):Int))) (.req (decide ((((List.take f.keep.toNat d).length+(List.drop f.keep.toNat (f.pages.getD i.toNat ([] :List UInt8))).length:Nat):Int)≤(9223372036854775807:Int))) (.req (decide (0≤i)&&decide (i< (↑f.pages.length:Int))) (.req (decide (i.toNat<f.pages.length)) (.leaf (.done (.tuple [.agg [.list Ty.str (f.pages.set i.toNat (List.take f.keep.toNat d++List.drop f.keep.toNat (f.pages.getD i.toNat ([] :List UInt8)))),.int .i64 0,.bool true,.int .i64 0],.int .i64 17]))))))))) (.req (decide (0≤i)&&decide (i< (↑f.pages.length:Int))) (.req (decide (i.toNat<f.pages.length)) (.leaf (.done (.tuple [.agg [.list Ty.str (f.pages.set i.toNat d),.int .i64 (if i64.wrap (f.fuse-1)>0 then i64.wrap (f.fuse-1)else 0),.bool f.dead,.int .i64 f.keep],.int .i64 0])))))))))))))
theorem wrr(f:Fl)(i:Int)(d:List UInt8):segR (Env.ofB Tryz.prog (sumOf [fFlBR]) (wrOf []) (pnOf []) (bxOf []) (rdOf []) (rdOf [131]) (rdOf []) (rdOf [])) 1000 (fnOf Tryz.prog 190) .str (keepS 69 []) (codeS Tryz.prog 190) wrr_p (startS Tryz.prog 190 [f.sv,I64 i,.str d]) [] =wrr_t f i d:=by kernel_rfl
open Go.Sx
def encP(r:Rc):List UInt8:=beN r.seq 6++beN r.kind 1++beN r.line 6++beN r.done 4++beN r.src.fst 4++beN r.src.snd.fst 4++beN r.src.snd.snd.fst 4++beN r.src.snd.snd.snd 4++beN r.dst.fst 4++beN r.dst.snd.fst 4++beN r.dst.snd.snd.fst 4++beN r.dst.snd.snd.snd 4
theorem encP_eq(r:Rc):encP r=encS r:=by simp only[encP,encS,List.append_assoc]
theorem s_enc(r:Rc):SCall Tryz.prog 266 [r.sv] (encV r):=
 scall_v mix [fRcB,fUi,fIi,fCrc,fPad] ⟨o_rcB,o_ui,o_ii,o_crc,o_pad,trivial⟩ 1000 (.fork (.all) (.go (.lit (.go (.lit (.go (.lit (.go (.lit (.go (.lit (.go (.lit (.go (.lit (.go (.lit (.go (.lit (.go (.lit (.go (.lit (.go (.lit (.go (.lit (.all))))))))))))))))))))))))))))
  (t:=let y0:=(9223372036854775807:Int);let y1:=encP r++beN ((crc (encP r):Nat):Int) 2;.node (!rcB r) (.leaf (.tuple [SV.str [],.int .i64 1])) (.req (inR r.seq 0 281474976710655) (.req (decide (((0+(beN r.seq 6).length:Nat):Int)≤y0)) (.req (inR r.kind 0 255) (.req (decide ((((beN r.seq 6).length+(beN r.kind 1).length:Nat):Int)≤y0)) (.req (inR r.line 0 281474976710655) (.req (decide ((((beN r.seq 6++beN r.kind 1).length+(beN r.line 6).length:Nat):Int)≤y0)) (.req (inR r.done 0 4294967295) (.req (decide ((((beN r.seq 6++beN r.kind 1++beN r.line 6).length+(beN r.done 4).length:Nat):Int)≤y0)) (.req true (.req (true) (.req (inR r.src.1 (-2147483648) 2147483647) (.req (decide ((((beN r.seq 6++beN r.kind 1++beN r.line 6++beN r.done 4).length+(beN r.src.1 4).length:Nat):Int)≤y0)) (.req true (.req (inR r.src.2.1 (-2147483648) 2147483647) (.req (decide ((((beN r.seq 6++beN r.kind 1++beN r.line 6++beN r.done 4++beN r.src.1 4).length+(beN r.src.2.1 4).length:Nat):Int)≤y0)) (.req true (.req (inR r.src.2.2.1 (-2147483648) 2147483647) (.req (decide ((((beN r.seq 6++beN r.kind 1++beN r.line 6++beN r.done 4++beN r.src.1 4++beN r.src.2.1 4).length+(beN r.src.2.2.1 4).length:Nat):Int)≤y0)) (.req true (.req (inR r.src.2.2.2 (-2147483648) 2147483647) (.req (decide ((((beN r.seq 6++beN r.kind 1++beN r.line 6++beN r.done 4++beN r.src.1 4++beN r.src.2.1 4++beN r.src.2.2.1 4).length+(beN r.src.2.2.2 4).length:Nat):Int)≤y0)) (.req true (.req (true) (.req (inR r.dst.1 (-2147483648) 2147483647) (.req (decide ((((beN r.seq 6++beN r.kind 1++beN r.line 6++beN r.done 4++beN r.src.1 4++beN r.src.2.1 4++beN r.src.2.2.1 4++beN r.src.2.2.2 4).length+(beN r.dst.1 4).length:Nat):Int)≤y0)) (.req true (.req (inR r.dst.2.1 (-2147483648) 2147483647) (.req (decide ((((beN r.seq 6++beN r.kind 1++beN r.line 6++beN r.done 4++beN r.src.1 4++beN r.src.2.1 4++beN r.src.2.2.1 4++beN r.src.2.2.2 4++beN r.dst.1 4).length+(beN r.dst.2.1 4).length:Nat):Int)≤y0)) (.req true (.req (inR r.dst.2.2.1 (-2147483648) 2147483647) (.req (decide ((((beN r.seq 6++beN r.kind 1++beN r.line 6++beN r.done 4++beN r.src.1 4++beN r.src.2.1 4++beN r.src.2.2.1 4++beN r.src.2.2.2 4++beN r.dst.1 4++beN r.dst.2.1 4).length+(beN r.dst.2.2.1 4).length:Nat):Int)≤y0)) (.req true (.req (inR r.dst.2.2.2 (-2147483648) 2147483647) (.req (decide ((((beN r.seq 6++beN r.kind 1++beN r.line 6++beN r.done 4++beN r.src.1 4++beN r.src.2.1 4++beN r.src.2.2.1 4++beN r.src.2.2.2 4++beN r.dst.1 4++beN r.dst.2.1 4++beN r.dst.2.2.1 4).length+(beN r.dst.2.2.2 4).length:Nat):Int)≤y0)) (.req (decide ((encP r).length≤100000)) (.req (inR ((crc (encP r):Nat):Int) 0 65535) (.req (decide ((((encP r).length+(beN ((crc (encP r):Nat):Int) 2).length:Nat):Int)≤y0)) (.req (decide (0<y1.length)&& (decide ((↑y1.length:Int)<58)&&true)) (.req (inR r.seq 0 281474976710655) (.req (decide ((((padS y1 58).length+(beN r.seq 6).length:Nat):Int)≤y0)) (.leaf (.tuple [SV.str (padS y1 58++beN r.seq 6),.int .i64 0])))))))))))))))))))))))))))))))))))))))))))
  (by kernel_rfl) (by
   unfold encV
   refine n_not (fun v=>by rw[v];rfl) fun v=>?_
   rw[v]
   have q:=rcB_iff.1 v
   have c:=crc_lt (encS r)
   have l:=encS_len r
   rw[encP_eq]
   have R:∀{x lo hi:Int},lo≤x→x≤hi→inR x lo hi=true:=fun a b=>inR_iff.2 ⟨a,b⟩
   have D:∀{x:Nat},x≤100000→decide (((x:Nat):Int)≤(9223372036854775807:Int))=true:=fun h=>decide_eq_true (by omega)
   have hl:∀n w,(beN n w).length=w:=beN_len
   have p58:(padS (encS r++beN ((crc (encS r):Nat):Int) 2) 58).length=58:=by
    simp only[padS,List.length_append,hl,l,List.length_replicate];omega
   refine n_req (R (by omega) (by omega)) ?_
   refine n_req (D (by simp only[List.length_append,hl,List.length_nil];omega)) ?_
   refine n_req (R (by omega) (by omega)) ?_
   refine n_req (D (by simp only[List.length_append,hl,List.length_nil];omega)) ?_
   refine n_req (R (by omega) (by omega)) ?_
   refine n_req (D (by simp only[List.length_append,hl,List.length_nil];omega)) ?_
   refine n_req (R (by omega) (by omega)) ?_
   refine n_req (D (by simp only[List.length_append,hl,List.length_nil];omega)) ?_
   refine n_req rfl ?_
   refine n_req rfl ?_
   refine n_req (R (by omega) (by omega)) ?_
   refine n_req (D (by simp only[List.length_append,hl,List.length_nil];omega)) ?_
   refine n_req rfl ?_
   refine n_req (R (by omega) (by omega)) ?_
   refine n_req (D (by simp only[List.length_append,hl,List.length_nil];omega)) ?_
   refine n_req rfl ?_
   refine n_req (R (by omega) (by omega)) ?_
   refine n_req (D (by simp only[List.length_append,hl,List.length_nil];omega)) ?_
   refine n_req rfl ?_
   refine n_req (R (by omega) (by omega)) ?_
   refine n_req (D (by simp only[List.length_append,hl,List.length_nil];omega)) ?_
   refine n_req rfl ?_
   refine n_req rfl ?_
   refine n_req (R (by omega) (by omega)) ?_
   refine n_req (D (by simp only[List.length_append,hl,List.length_nil];omega)) ?_
   refine n_req rfl ?_
   refine n_req (R (by omega) (by omega)) ?_
   refine n_req (D (by simp only[List.length_append,hl,List.length_nil];omega)) ?_
   refine n_req rfl ?_
   refine n_req (R (by omega) (by omega)) ?_
   refine n_req (D (by simp only[List.length_append,hl,List.length_nil];omega)) ?_
   refine n_req rfl ?_
   refine n_req (R (by omega) (by omega)) ?_
   refine n_req (D (by simp only[List.length_append,hl,List.length_nil];omega)) ?_
   refine n_req (decide_eq_true (by rw[l];omega)) ?_
   refine n_req (R (by omega) (by omega)) ?_
   refine n_req (D (by rw[l,hl];omega)) ?_
   refine n_req (by
    have e:(encS r++beN ((crc (encS r):Nat):Int) 2).length=51:=by rw[List.length_append,hl,l]
    rw[e];rfl) ?_
   refine n_req (R (by omega) (by omega)) ?_
   refine n_req (D (by rw[p58,hl];omega)) ?_
   rfl) (by kernel_rfl) (by exact encV_data r)
open Go.Sx
def nxu6_p:Plan:=.lit (.all)
noncomputable def nxu6_t(s:List UInt8)(a:Int):Tree StopX:= .req (decide (0≤a)&& (decide (a+6≤(↑s.length:Int))&&decide (s.length≤100000))) (.leaf (.fin (.ret (.int .i64 (tk s a.toNat 6)) [some (.cells [SV.str s,.int .i64 (a+6),.int .i64 6,SV.fn 282 [] []])])))
theorem nxu6(s:List UInt8)(a:Int):segX (Env.ofB Tryz.prog (sumOf [fTu,fTi]) (wrOf []) (pnOf []) (bxOf []) (rdOf []) (rdOf []) (rdOf []) (rdOf [])) 1000 (fnOf Tryz.prog 283) 1 (keepS 34 []) (codeS Tryz.prog 283) nxu6_p (startS Tryz.prog 283 [.ptr 0 0]) [some (.cells [.str s,I64 a,I64 6,.fn 282 [] []])] =nxu6_t s a:=by kernel_rfl
theorem b_nxu6(s:List UInt8)(a:Int)(h0:0≤a)(h1:a+6≤(s.length:Int))(h2:s.length≤100000):BCall Tryz.prog 283 [] (.cells [.str s,I64 a,I64 6,.fn 282 [] []]) (false,I64 (tk s a.toNat 6),.cells [.str s,I64 (a+6),I64 6,.fn 282 [] []]):=by
 refine bcall_one (r:=.ret (I64 (tk s a.toNat 6)) [some (.cells [.str s,I64 (a+6),I64 6,.fn 282 [] []])]) (by kernel_rfl) (runsX_seg (hB (l:=[fTu,fTi]) (k:=[]) (j:=[]) (i:=[]) ([] :List Nat) ([] :List Nat) ([] :List Nat) ([] :List Nat) (⟨o_tu,o_ti,trivial⟩) noneOk noneOk noneOk) (n:=1000) (keep:=(keepS 34 [])) (p:=nxu6_p) (Nat.le_refl _) ?_) rfl rfl rfl rfl rfl
 erw [nxu6 s a]
 unfold nxu6_t
 exact⟨by simp only[Bool.and_eq_true,decide_eq_true_eq];exact⟨h0,h1,h2⟩,rfl⟩
def nxu1_p:Plan:=.lit (.all)
noncomputable def nxu1_t(s:List UInt8)(a:Int):Tree StopX:= .req (decide (0≤a)&& (decide (a+1≤(↑s.length:Int))&&decide (s.length≤100000))) (.leaf (.fin (.ret (.int .i64 (tk s a.toNat 1)) [some (.cells [SV.str s,.int .i64 (a+1),.int .i64 1,SV.fn 282 [] []])])))
theorem nxu1(s:List UInt8)(a:Int):segX (Env.ofB Tryz.prog (sumOf [fTu,fTi]) (wrOf []) (pnOf []) (bxOf []) (rdOf []) (rdOf []) (rdOf []) (rdOf [])) 1000 (fnOf Tryz.prog 283) 1 (keepS 34 []) (codeS Tryz.prog 283) nxu1_p (startS Tryz.prog 283 [.ptr 0 0]) [some (.cells [.str s,I64 a,I64 1,.fn 282 [] []])] =nxu1_t s a:=by kernel_rfl
theorem b_nxu1(s:List UInt8)(a:Int)(h0:0≤a)(h1:a+1≤(s.length:Int))(h2:s.length≤100000):BCall Tryz.prog 283 [] (.cells [.str s,I64 a,I64 1,.fn 282 [] []]) (false,I64 (tk s a.toNat 1),.cells [.str s,I64 (a+1),I64 1,.fn 282 [] []]):=by
 refine bcall_one (r:=.ret (I64 (tk s a.toNat 1)) [some (.cells [.str s,I64 (a+1),I64 1,.fn 282 [] []])]) (by kernel_rfl) (runsX_seg (hB (l:=[fTu,fTi]) (k:=[]) (j:=[]) (i:=[]) ([] :List Nat) ([] :List Nat) ([] :List Nat) ([] :List Nat) (⟨o_tu,o_ti,trivial⟩) noneOk noneOk noneOk) (n:=1000) (keep:=(keepS 34 [])) (p:=nxu1_p) (Nat.le_refl _) ?_) rfl rfl rfl rfl rfl
 erw [nxu1 s a]
 unfold nxu1_t
 exact⟨by simp only[Bool.and_eq_true,decide_eq_true_eq];exact⟨h0,h1,h2⟩,rfl⟩
def nxu4_p:Plan:=.lit (.all)
noncomputable def nxu4_t(s:List UInt8)(a:Int):Tree StopX:= .req (decide (0≤a)&& (decide (a+4≤(↑s.length:Int))&&decide (s.length≤100000))) (.leaf (.fin (.ret (.int .i64 (tk s a.toNat 4)) [some (.cells [SV.str s,.int .i64 (a+4),.int .i64 4,SV.fn 282 [] []])])))
theorem nxu4(s:List UInt8)(a:Int):segX (Env.ofB Tryz.prog (sumOf [fTu,fTi]) (wrOf []) (pnOf []) (bxOf []) (rdOf []) (rdOf []) (rdOf []) (rdOf [])) 1000 (fnOf Tryz.prog 283) 1 (keepS 34 []) (codeS Tryz.prog 283) nxu4_p (startS Tryz.prog 283 [.ptr 0 0]) [some (.cells [.str s,I64 a,I64 4,.fn 282 [] []])] =nxu4_t s a:=by kernel_rfl
theorem b_nxu4(s:List UInt8)(a:Int)(h0:0≤a)(h1:a+4≤(s.length:Int))(h2:s.length≤100000):BCall Tryz.prog 283 [] (.cells [.str s,I64 a,I64 4,.fn 282 [] []]) (false,I64 (tk s a.toNat 4),.cells [.str s,I64 (a+4),I64 4,.fn 282 [] []]):=by
 refine bcall_one (r:=.ret (I64 (tk s a.toNat 4)) [some (.cells [.str s,I64 (a+4),I64 4,.fn 282 [] []])]) (by kernel_rfl) (runsX_seg (hB (l:=[fTu,fTi]) (k:=[]) (j:=[]) (i:=[]) ([] :List Nat) ([] :List Nat) ([] :List Nat) ([] :List Nat) (⟨o_tu,o_ti,trivial⟩) noneOk noneOk noneOk) (n:=1000) (keep:=(keepS 34 [])) (p:=nxu4_p) (Nat.le_refl _) ?_) rfl rfl rfl rfl rfl
 erw [nxu4 s a]
 unfold nxu4_t
 exact⟨by simp only[Bool.and_eq_true,decide_eq_true_eq];exact⟨h0,h1,h2⟩,rfl⟩
def nxi4_p:Plan:=.lit (.all)
noncomputable def nxi4_t(s:List UInt8)(a:Int):Tree StopX:= .req (decide (0≤a)&& (decide (a+4≤(↑s.length:Int))&&decide (s.length≤100000))) (.leaf (.fin (.ret (.int .i64 (sg (tk s a.toNat 4))) [some (.cells [SV.str s,.int .i64 (a+4),.int .i64 4,SV.fn 284 [] []])])))
theorem nxi4(s:List UInt8)(a:Int):segX (Env.ofB Tryz.prog (sumOf [fTu,fTi]) (wrOf []) (pnOf []) (bxOf []) (rdOf []) (rdOf []) (rdOf []) (rdOf [])) 1000 (fnOf Tryz.prog 283) 1 (keepS 34 []) (codeS Tryz.prog 283) nxi4_p (startS Tryz.prog 283 [.ptr 0 0]) [some (.cells [.str s,I64 a,I64 4,.fn 284 [] []])] =nxi4_t s a:=by kernel_rfl
theorem b_nxi4(s:List UInt8)(a:Int)(h0:0≤a)(h1:a+4≤(s.length:Int))(h2:s.length≤100000):BCall Tryz.prog 283 [] (.cells [.str s,I64 a,I64 4,.fn 284 [] []]) (false,I64 (sg (tk s a.toNat 4)),.cells [.str s,I64 (a+4),I64 4,.fn 284 [] []]):=by
 refine bcall_one (r:=.ret (I64 (sg (tk s a.toNat 4))) [some (.cells [.str s,I64 (a+4),I64 4,.fn 284 [] []])]) (by kernel_rfl) (runsX_seg (hB (l:=[fTu,fTi]) (k:=[]) (j:=[]) (i:=[]) ([] :List Nat) ([] :List Nat) ([] :List Nat) ([] :List Nat) (⟨o_tu,o_ti,trivial⟩) noneOk noneOk noneOk) (n:=1000) (keep:=(keepS 34 [])) (p:=nxi4_p) (Nat.le_refl _) ?_) rfl rfl rfl rfl rfl
 erw [nxi4 s a]
 unfold nxi4_t
 exact⟨by simp only[Bool.and_eq_true,decide_eq_true_eq];exact⟨h0,h1,h2⟩,rfl⟩
def bNext:BFact:=⟨283,fun args B=>match args with
 |[] =>match B with
  |.cells [.str s,.int .i64 a,.int .i64 w,.fn g [] []] =>match Nat.beq g 282 with
   |true=>match w==6 with
    |true=>some (.req (decide (0≤a)&& (decide (a+6≤(s.length:Int))&&decide (s.length≤100000))) (.leaf (false,I64 (tk s a.toNat 6),.cells [.str s,I64 (a+6),I64 6,.fn 282 [] []])))
    |false=>match w==1 with
     |true=>some (.req (decide (0≤a)&& (decide (a+1≤(s.length:Int))&&decide (s.length≤100000))) (.leaf (false,I64 (tk s a.toNat 1),.cells [.str s,I64 (a+1),I64 1,.fn 282 [] []])))
     |false=>match w==4 with
      |true=>some (.req (decide (0≤a)&& (decide (a+4≤(s.length:Int))&&decide (s.length≤100000))) (.leaf (false,I64 (tk s a.toNat 4),.cells [.str s,I64 (a+4),I64 4,.fn 282 [] []])))
      |false=>none
   |false=>match Nat.beq g 284 with
    |true=>match w==4 with
     |true=>some (.req (decide (0≤a)&& (decide (a+4≤(s.length:Int))&&decide (s.length≤100000))) (.leaf (false,I64 (sg (tk s a.toNat 4)),.cells [.str s,I64 (a+4),I64 4,.fn 284 [] []])))
     |false=>none
    |false=>none
  |_=>none
 |_=>none⟩
theorem o_next:bNext.ok Tryz.prog:=fun args B t ht=>by
 simp only[bNext]at ht
 split at ht
 ·split at ht
  ·rename_i s a w g
   have sp:∀{x:Int} {k:Nat},(decide (0≤a)&& (decide (a+x≤(s.length:Int))&&decide (s.length≤100000)))=true→0≤a∧a+x≤(s.length:Int)∧s.length≤100000:=fun h=>by simpa using h
   split at ht
   ·rename_i hg
    have hg:=Nat.eq_of_beq_eq_true hg
    subst hg
    split at ht
    ·rename_i hw
     have hw:=beq_iff_eq.1 hw
     subst hw
     injection ht with ht;subst ht
     intro h;obtain⟨h0,h1,h2⟩:=sp (k:=0) h;exact b_nxu6 s a h0 h1 h2
    ·split at ht
     ·rename_i hw
      have hw:=beq_iff_eq.1 hw
      subst hw
      injection ht with ht;subst ht
      intro h;obtain⟨h0,h1,h2⟩:=sp (k:=0) h;exact b_nxu1 s a h0 h1 h2
     ·split at ht
      ·rename_i hw
       have hw:=beq_iff_eq.1 hw
       subst hw
       injection ht with ht;subst ht
       intro h;obtain⟨h0,h1,h2⟩:=sp (k:=0) h;exact b_nxu4 s a h0 h1 h2
      ·cases ht
   ·split at ht
    ·rename_i hg
     have hg:=Nat.eq_of_beq_eq_true hg
     subst hg
     split at ht
     ·rename_i hw
      have hw:=beq_iff_eq.1 hw
      subst hw
      injection ht with ht;subst ht
      intro h;obtain⟨h0,h1,h2⟩:=sp (k:=0) h;exact b_nxi4 s a h0 h1 h2
     ·cases ht
    ·cases ht
  ·cases ht
 ·cases ht
def fEnc:Fact:=factRc 266 fun r=>.node (rcB r) (.leaf (.tuple [.str (enc r),I64 0])) (.leaf (.tuple [.str [],I64 1]))
theorem o_enc:fEnc.ok Tryz.prog:=factRc_ok fun r=>by
 have q:=s_enc r
 unfold encV at q
 exact⟨fun v=>by rw[v]at q;exact q,fun v=>by rw[v]at q;exact q⟩
open Go.Sx
theorem s_dec(s:List UInt8)(h:s.length≤100000):SCall Tryz.prog 255 [.str s] (decV s):=
 scall_vE (hB (l:=[fEnc]) (k:=[]) (j:=[BFact.toP bNext]) (i:=[bNext]) ([] :List Nat) ([] :List Nat) ([] :List Nat) ([] :List Nat) (⟨o_enc,trivial⟩) noneOk (allQ.all (p:=PFact.ok Tryz.prog) (l:=[BFact.toP bNext]) ⟨BFact.toP_ok o_next,trivial⟩) (allQ.all (p:=BFact.ok Tryz.prog) (l:=[bNext]) ⟨o_next,trivial⟩)) 1000 (.fork .all (.go (.lit (.go (.lit (.go (.lit (.go (.lit (.go (.lit (.go (.lit (.go (.lit (.go (.lit (.go (.lit (.go (.lit (.go (.lit (.go (.lit (.go (.lit (.fork (.ln 4 (.fork .all .all)) (.ln 4 (.lit .all))))))))))))))))))))))))))))))
  (t:=let y0:=s.length≤100000;let y1:=(↑s.length:Int);let y2:Tree SV:=.leaf (.tuple [.agg [.int .i64 0,.int .i64 0,.int .i64 0,.int .i64 0,.int .i64 0,.int .i64 0,.int .i64 0,.int .i64 0,.int .i64 0,.int .i64 0,.int .i64 0,.int .i64 0],.int .i64 19]);let y3:=Rc.mk (tk s 6 1) (tk s 0 6) (tk s 7 6) (tk s 13 4) (sg (tk s 17 4),sg (tk s 21 4),sg (tk s 25 4),sg (tk s 29 4)) (sg (tk s 33 4),sg (tk s 37 4),sg (tk s 41 4),sg (tk s 45 4));.node (decide (y1<64)) (.leaf (.tuple [.agg [.int .i64 0,.int .i64 0,.int .i64 0,.int .i64 0,.int .i64 0,.int .i64 0,.int .i64 0,.int .i64 0,.int .i64 0,.int .i64 0,.int .i64 0,.int .i64 0],.int .i64 6])) (.req (decide (6≤y1)&&decide y0) (.req (decide (7≤y1)&&decide y0) (.req (decide (13≤y1)&&decide y0) (.req (decide (17≤y1)&&decide y0) (.req true (.req (decide (21≤y1)&&decide y0) (.req (decide (21≤y1)&&decide y0) (.req true (.req (decide (25≤y1)&&decide y0) (.req (decide (25≤y1)&&decide y0) (.req true (.req (decide (29≤y1)&&decide y0) (.req (decide (29≤y1)&&decide y0) (.req true (.req (decide (33≤y1)&&decide y0) (.req (decide (33≤y1)&&decide y0) (.req true (.req (true) (.req (decide (37≤y1)&&decide y0) (.req (decide (37≤y1)&&decide y0) (.req true (.req (decide (41≤y1)&&decide y0) (.req (decide (41≤y1)&&decide y0) (.req true (.req (decide (45≤y1)&&decide y0) (.req (decide (45≤y1)&&decide y0) (.req true (.req (decide (49≤y1)&&decide y0) (.req (decide (49≤y1)&&decide y0) (.req true (.node (rcB y3) (.node (!enc y3==s) y2 (.leaf (.tuple [.agg [.int .i64 (tk s 6 1),.int .i64 (tk s 0 6),.int .i64 (tk s 7 6),.int .i64 (tk s 13 4),.int .i64 (sg (tk s 17 4)),.int .i64 (sg (tk s 21 4)),.int .i64 (sg (tk s 25 4)),.int .i64 (sg (tk s 29 4)),.int .i64 (sg (tk s 33 4)),.int .i64 (sg (tk s 37 4)),.int .i64 (sg (tk s 41 4)),.int .i64 (sg (tk s 45 4))],.int .i64 0]))) y2))))))))))))))))))))))))))))))))
  (by kernel_rfl) (by
   have qq:∀x:Int,x≤49→64≤s.length→(decide (x≤(s.length:Int))&&decide (s.length≤100000))=true:=fun x a b=>by simp;omega
   unfold decV
   refine n_dec (fun a=>?_) (fun a=>?_)
   ·rw[decide_eq_true (show s.length<64 by omega)];rfl
   ·rw[decide_eq_false (show ¬s.length<64 by omega)]
    have b:64≤s.length:=by omega
    have e:decB s=(rcB (decR s)&&s==enc (decR s)):=rfl
    refine n_req (qq _ (by decide) b) ?_
    refine n_req (qq _ (by decide) b) ?_
    refine n_req (qq _ (by decide) b) ?_
    refine n_req (qq _ (by decide) b) ?_
    refine n_req rfl ?_
    refine n_req (qq _ (by decide) b) ?_
    refine n_req (qq _ (by decide) b) ?_
    refine n_req rfl ?_
    refine n_req (qq _ (by decide) b) ?_
    refine n_req (qq _ (by decide) b) ?_
    refine n_req rfl ?_
    refine n_req (qq _ (by decide) b) ?_
    refine n_req (qq _ (by decide) b) ?_
    refine n_req rfl ?_
    refine n_req (qq _ (by decide) b) ?_
    refine n_req (qq _ (by decide) b) ?_
    refine n_req rfl ?_
    refine n_req rfl ?_
    refine n_req (qq _ (by decide) b) ?_
    refine n_req (qq _ (by decide) b) ?_
    refine n_req rfl ?_
    refine n_req (qq _ (by decide) b) ?_
    refine n_req (qq _ (by decide) b) ?_
    refine n_req rfl ?_
    refine n_req (qq _ (by decide) b) ?_
    refine n_req (qq _ (by decide) b) ?_
    refine n_req rfl ?_
    refine n_req (qq _ (by decide) b) ?_
    refine n_req (qq _ (by decide) b) ?_
    refine n_req rfl ?_
    refine n_bool (fun v=>?_) fun v=>?_
    ·have v:rcB (decR s)=true:=v
     refine n_not (fun w=>?_) fun w=>?_
     ·have w:(enc (decR s)==s)=false:=w
      have w:(s==enc (decR s))=false:=by
       rw[beq_eq_false_iff_ne]at w ⊢;exact fun h=>w h.symm
      rw[e,v,w];rfl
     ·have w:(enc (decR s)==s)=true:=w
      have w:(s==enc (decR s))=true:=by
       rw[beq_iff_eq]at w ⊢;exact w.symm
      rw[e,v,w];rfl
    ·have v:rcB (decR s)=false:=v
     rw[e,v];rfl) (by kernel_rfl) (by exact decV_data s)
open Go.Sx
def wrV(f:Fl)(i:Int)(d:List UInt8):SV:=.tuple [(wrF f i d).sv,I64 (wrE f i d)]
theorem wr_bad{f:Fl}{i:Int}{d:List UInt8}(h:hasB f i=false∨¬d.length=64):wrV f i d=.tuple [f.sv,I64 1] :=by
 have e:(hasB f i&&decide (d.length=64))=false:=by rcases h with h|h<;>simp[h]
 unfold wrV wrF wrE;rw[e];rfl
theorem wr_dead{f:Fl}{i:Int}{d:List UInt8}(h:hasB f i=true)(hd:d.length=64)(hf:f.dead=true):wrV f i d=.tuple [f.sv,I64 17] :=by
 unfold wrV wrF wrE;rw[h,hd,hf];rfl
theorem wr_torn{f:Fl}{i:Int}{d:List UInt8}(h:hasB f i=true)(hd:d.length=64)(hf:f.dead=false)(hu:f.fuse=1):wrV f i d=.tuple [.agg [.list .str (f.pages.set i.toNat (d.take f.keep.toNat++(f.pages.getD i.toNat []).drop f.keep.toNat)),I64 0,.bool true,I64 0],I64 17] :=by
 have e:(f.fuse==1)=true:=by simpa using hu
 unfold wrV wrF wrE;rw[h,hd,hf,e];rfl
theorem wr_ok{f:Fl}{i:Int}{d:List UInt8}(h:hasB f i=true)(hd:d.length=64)(hf:f.dead=false)(hu:¬f.fuse=1):wrV f i d=.tuple [.agg [.list .str (f.pages.set i.toNat d),I64 (if f.fuse-1>0 then f.fuse-1 else 0),.bool f.dead,I64 f.keep],I64 0] :=by
 have e:(f.fuse==1)=false:=by simpa using hu
 unfold wrV wrF wrE;rw[h,hd,hf,e];rfl
theorem u8_back(x:List UInt8):(x.map fun b=>(b.toNat:Int)).map (fun n=>UInt8.ofNat (Int.toNat n))=x:=by
 rw[List.map_map]
 exact(List.map_congr_left fun b _=>by simp).trans (List.map_id x)
theorem hasB_iff{f:Fl}{i:Int}:hasB f i=true↔flB f=true∧0≤i∧i≤(f.pages.length:Int)-1:=by simp only[hasB,Bool.and_eq_true,inR_iff]
theorem page_len{f:Fl}{i:Int}(h:hasB f i=true):(f.pages.getD i.toNat []).length=64∧0≤i∧i< (f.pages.length:Int)∧i.toNat<f.pages.length∧(0≤f.keep∧f.keep≤64)∧0≤f.fuse∧f.fuse≤1048576:=by
 obtain⟨h1,h2,h3⟩:=hasB_iff.1 h
 have fb:=flB_iff.1 h1
 have hi:i.toNat<f.pages.length:=by omega
 refine⟨?_,h2,by omega,hi,fb.2.2.2.2,fb.2.2.2.1⟩
 rw[List.getD_eq_getElem?_getD,List.getElem?_eq_getElem hi]
 exact fb.1 _ (List.getElem_mem hi)
theorem wrV_data(f:Fl)(i:Int)(d:List UInt8):(wrV f i d).data=true:=rfl
theorem kWr:Known Tryz.prog (Env.ofB Tryz.prog (sumOf [fHas]) (wrOf []) (pnOf []) (bxOf []) (rdOf []) (rdOf [130]) (rdOf []) (rdOf [])):=hB (l:=[fHas]) (k:=[]) (j:=[]) (i:=[]) [] [130] [] [] ⟨o_has,trivial⟩ noneOk noneOk noneOk
theorem kWrR:Known Tryz.prog (Env.ofB Tryz.prog (sumOf [fFlBR]) (wrOf []) (pnOf []) (bxOf []) (rdOf []) (rdOf [131]) (rdOf []) (rdOf [])):=hB (l:=[fFlBR]) (k:=[]) (j:=[]) (i:=[]) [] [131] [] [] ⟨o_flBR,trivial⟩ noneOk noneOk noneOk
theorem len64{d:List UInt8}:((d.length:Int)=64)↔d.length=64:=by omega
theorem none_has{f:Fl}{i:Int}(e:f.pages.isEmpty=true):hasB f i=false:=by
 have e:=List.isEmpty_iff.1 e
 rw[Bool.eq_false_iff]
 intro h
 have:=(page_len h).2.1
 have:=(page_len h).2.2.1
 rw[e]at this;simp at this;omega
theorem empty_sv{f:Fl}(e:f.pages.isEmpty=true):f.sv=.agg [.list .str [],I64 f.fuse,.bool f.dead,I64 f.keep] :=by
 have e:=List.isEmpty_iff.1 e
 show SV.agg f.cells=_
 unfold Fl.cells;rw[e];rfl
theorem s_wr(f:Fl)(i:Int)(d:List UInt8)(h:fewP f=true):SCall Tryz.prog 267 [f.sv,I64 i,.str d] (wrV f i d):=by
 have hl:f.pages.length≤1000:=of_decide_eq_true h
 refine scallR_loops rfl (wrV_data f i d) (by kernel_rfl) (runsR_seg kWr (n:=1000) (hint:=.str) (keep:=keepS 65 []) (p:=wrp_p) (boxes:=[]) (wrV_data f i d) ?_)
 have q:=wrp f i d
 unfold startS codeS at q
 erw [q]
 unfold wrp_t
 refine n_bool (fun e=>n_req h (n_not (fun b=>?_) fun b=>?_)) fun e=>n_req (decide_eq_true (by omega)) (n_req h (n_not (fun b=>?_) fun b=>n_ne (fun k=>?_) fun k=>n_bool (fun dd=>?_) fun dd=>n_req ?_ (n_eq (fun u=>n_req ?_ (n_req ?_ (n_req ?_ (n_req ?_ ?_)))) fun u=>n_req ?_ (n_req ?_ (n_req ?_ ?_)))))
 ·exact((wr_bad (.inl b)).trans (by rw[empty_sv e];rfl)).symm
 ·rw[none_has e]at b;cases b
 ·exact(wr_bad (.inl b)).symm
 ·exact(wr_bad (.inr fun k'=>k (len64.2 k'))).symm
 ·exact(wr_dead b (len64.1 k) dd).symm
 all_goals
  obtain⟨p1,p2,p3,p4,p5,p6⟩:=page_len b
  have k:=len64.1 k
 ·simp;omega
 ·simp[k];omega
 ·rw[List.length_map,List.length_map,List.length_take,p1]
  cases hp:f.pages.getD i.toNat ([] :List UInt8)with
  |nil=>rw[hp]at p1;simp at p1
  |cons x l=>simp;omega
 ·simp;omega
 ·exact decide_eq_true p4
 ·rw[←List.map_drop,←List.map_append,u8_back,List.length_map,List.length_take,k,show min f.keep.toNat 64=f.keep.toNat by omega]
  exact(wr_torn b k dd u).symm
 ·rw[List.length_map,List.length_map,p1,k]
  cases hp:f.pages.getD i.toNat ([] :List UInt8)with
  |nil=>rw[hp]at p1;simp at p1
  |cons x l=>simp
 ·simp;omega
 ·exact decide_eq_true p4
 ·rw[←List.map_drop,←List.map_append,u8_back,List.length_map,k,List.drop_eq_nil_of_le (Nat.le_of_eq p1),List.append_nil,w64 (by omega) (by omega)]
  exact(wr_ok b k dd u).symm
theorem s_wrR(f:Fl)(i:Int)(d:List UInt8)(h:fewP f=true)(hd:d.length≤100000):SCall Tryz.prog 190 [f.sv,I64 i,.str d] (wrV f i d):=by
 have hl:f.pages.length≤1000:=of_decide_eq_true h
 refine scallR_loops rfl (wrV_data f i d) (by kernel_rfl) (runsR_seg kWrR (n:=1000) (hint:=.str) (keep:=keepS 69 []) (p:=wrr_p) (boxes:=[]) (wrV_data f i d) ?_)
 have q:=wrr f i d
 unfold startS codeS at q
 erw [q]
 unfold wrr_t
 have nb:∀{x:Bool},flB f=x→(x=false∨i<0∨i≥(f.pages.length:Int))→hasB f i=false:=fun hx hy=>by
  rw[Bool.eq_false_iff]
  intro hh
  obtain⟨h1,h2,h3⟩:=hasB_iff.1 hh
  rw[h1]at hx;subst hx
  rcases hy with hy|hy|hy
  ·cases hy
  ·omega
  ·omega
 have yb:flB f=true→¬i<0→¬i≥(f.pages.length:Int)→hasB f i=true:=fun h1 h2 h3=>hasB_iff.2 ⟨h1,by omega,by omega⟩
 refine n_bool (fun e=>n_req h (n_not (fun b=>?_) fun b=>n_dec (fun b1=>?_) fun b1=>n_dec (fun b2=>?_) fun b2=>?_)) fun e=>n_req (decide_eq_true (by omega)) (n_req h (n_not (fun b=>?_) fun b=>n_dec (fun b1=>?_) fun b1=>n_dec (fun b2=>?_) fun b2=>n_ne (fun k=>?_) fun k=>n_bool (fun dd=>?_) fun dd=>(n_eq (fun u=>n_req ?_ (n_req ?_ (n_req ?_ (n_req ?_ (n_req ?_ (n_req ?_ ?_)))))) fun u=>n_req ?_ (n_req ?_ ?_))))
 ·exact((wr_bad (.inl (nb b (.inl rfl)))).trans (by rw[empty_sv e];rfl)).symm
 ·exact((wr_bad (.inl (nb b (.inr (.inl b1))))).trans (by rw[empty_sv e];rfl)).symm
 ·exact((wr_bad (.inl (nb b (.inr (.inr b2))))).trans (by rw[empty_sv e];rfl)).symm
 ·have:=none_has (i:=i) e
  rw[yb b b1 b2]at this;cases this
 ·exact(wr_bad (.inl (nb b (.inl rfl)))).symm
 ·exact(wr_bad (.inl (nb b (.inr (.inl b1))))).symm
 ·exact(wr_bad (.inl (nb b (.inr (.inr b2))))).symm
 ·exact(wr_bad (.inr fun k'=>k (len64.2 k'))).symm
 ·exact(wr_dead (yb b b1 b2) (len64.1 k) dd).symm
 all_goals
  have hb:=yb b b1 b2
  obtain⟨p1,p2,p3,p4,p5,p6⟩:=page_len hb
  have k:=len64.1 k
 ·simp[k];omega
 ·simp;omega
 ·rw[p1];simp;omega
 ·refine decide_eq_true ?_
  rw[List.length_take,List.length_drop,p1,k];omega
 ·simp;omega
 ·exact decide_eq_true p4
 ·exact(wr_torn hb k dd u).symm
 ·simp;omega
 ·exact decide_eq_true p4
 ·rw[w64 (by omega) (by omega)]
  exact(wr_ok hb k dd u).symm
def factFlIS(f:FuncId)(h:Fl→Int→List UInt8→Tree SV):Fact:=⟨f,fun args=>match args with
 |[.agg [.list .str p,.int .i64 a,.bool d,.int .i64 k],.int .i64 i,.str s] =>some (h ⟨p,a,d,k⟩ i s)
 |_=>none⟩
theorem factFlIS_ok{P:Program}{f:FuncId}{h:Fl→Int→List UInt8→Tree SV}(k:∀c i s,(h c i s).says (SCall P f [c.sv,I64 i,.str s])):(factFlIS f h).ok P:=fun args t ht=>by
 simp only[factFlIS]at ht
 split at ht
 ·injection ht with ht;subst ht;exact k ⟨_,_,_,_⟩ _ _
 ·cases ht
def fWrR:Fact:=factFlIS 190 fun f i s=>.req (fewP f) (.req (decide (s.length≤100000)) (.leaf (wrV f i s)))
theorem o_wrR:fWrR.ok Tryz.prog:=factFlIS_ok fun f i s h hd=>s_wrR f i s h (of_decide_eq_true hd)
def decT(s:List UInt8):Tree SV:=.req (decide (s.length≤100000)) (.node (decide (s.length<64)) (.leaf (.tuple [rcZ.sv,I64 6])) (.node (decB s) (.leaf (.tuple [(decR s).sv,I64 0])) (.leaf (.tuple [rcZ.sv,I64 19]))))
theorem decT_says{P:Program}{g:FuncId}{s:List UInt8}(k:s.length≤100000→SCall P g [.str s] (decV s)):(decT s).says (SCall P g [.str s]):=fun h=>by
 have q:=k (of_decide_eq_true h)
 unfold decV at q
 exact⟨fun a=>by rw[a]at q;exact q,fun a=>⟨fun b=>by rw[a,b]at q;exact q,fun b=>by rw[a,b]at q;exact q⟩⟩
def fDec:Fact:=factS 255 decT
theorem o_dec:fDec.ok Tryz.prog:=factS_ok fun s=>decT_says (s_dec s)
def fDecR:Fact:=factS 263 decT
theorem o_decR:fDecR.ok Tryz.prog:=factS_ok fun s=>decT_says (s_decR s)
open Go.Sx
abbrev tyRc:Ty:=.pair (.int .i64) (.pair (.int .i64) (.pair (.int .i64) (.pair (.int .i64) (.pair (.pair (.int .i64) (.pair (.int .i64) (.pair (.int .i64) (.int .i64)))) (.pair (.int .i64) (.pair (.int .i64) (.pair (.int .i64) (.int .i64))))))))
abbrev RT:=Int×Int×Int×Int×V4×V4
def Rc.t(r:Rc):RT:=(r.kind,r.seq,r.line,r.done,r.src,r.dst)
def rcOf(x:RT):Rc:=⟨x.1,x.2.1,x.2.2.1,x.2.2.2.1,x.2.2.2.2.1,x.2.2.2.2.2⟩
theorem rcOf_t(r:Rc):rcOf r.t=r:=rfl
theorem t_rcOf(x:RT):(rcOf x).t=x:=rfl
theorem rcs_t(l:List Rc):(l.map Rc.t).map rcOf=l:=by rw[List.map_map];exact(List.map_congr_left fun x _=>rcOf_t x).trans (List.map_id l)
theorem t_rcs(l:List RT):(l.map rcOf).map Rc.t=l:=by rw[List.map_map];exact(List.map_congr_left fun x _=>t_rcOf x).trans (List.map_id l)
abbrev LR(l:List Rc):SV:=.list tyRc (l.map Rc.t)
def distB:List Rc→Bool
 |[] =>true
 |r::l=>(l.all fun x=>!(x.seq==r.seq))&&distB l
theorem distB_iff:∀{l:List Rc},distB l=true↔distinct l
 |[] =>by simp[distB,distinct]
 |r::l=>by simp[distB,distinct,distB_iff (l:=l)]
open Go.Sx
def ra0_p:Plan:=.fork (.lit (.lit (.lit .all))) (.lit (.lit (.fork .all .all)))
noncomputable def ra0_t(f:Fl):Tree Stop:= .req (fewP f) (.node (!flB f) (.leaf (.done (.list tyRc []))) (.node (f.dead) (.leaf (.done (.list tyRc []))) (.leaf (.at (loopOf Tryz.prog 196 0) 88 (slotsS 88 [(1,.ptr 0 0),(3,SV.nilS),(4,.int .i64 0),(7,SV.undef)]) [some (.cells f.cells)]))))
theorem ra0(f:Fl):segR (Env.of Tryz.prog (sumOf [fFlBR])) 1000 (fnOf Tryz.prog 196) tyRc (keepS 88 [1,3,4,7]) (codeS Tryz.prog 196) ra0_p (startS Tryz.prog 196 [f.sv]) [] =ra0_t f:=by kernel_rfl
def ra1_p:Plan:=.fork (.fork (.ln 9 (.lit .all)) (.fork (.ln 9 (.fork .all .all)) (.ln 9 (.lit .all)))) .all
noncomputable def ra1_t(f:Fl)(l:List RT)(i:Int):Tree Stop:= .node (decide (i< (↑f.pages.length:Int))) (.req (decide (0≤i)&&decide (i< (↑f.pages.length:Int))) (.req (decide (List.length (f.pages.getD i.toNat ([] :List UInt8))≤100000)) (.node (decide (List.length (f.pages.getD i.toNat ([] :List UInt8))<64)) (.leaf (.at (loopOf Tryz.prog 196 0) 88 (slotsS 88 [(1,.ptr 0 0),(3,SV.row 1),(4,.int .i64 (i64.wrap (i+1)))]) [some (.cells f.cells),some (.rows tyRc l)])) (.node (decB (f.pages.getD i.toNat ([] :List UInt8))) (.req (!(↑f.pages.length:Int)==0) (.node ((decR (f.pages.getD i.toNat ([] :List UInt8))).seq.tmod (↑f.pages.length:Int) != i) (.leaf (.at (loopOf Tryz.prog 196 0) 88 (slotsS 88 [(1,.ptr 0 0),(3,SV.row 1),(4,.int .i64 (i64.wrap (i+1)))]) [some (.cells f.cells),some (.rows tyRc l)])) (.req (decide ((l.length+ [(decR (f.pages.getD i.toNat ([] :List UInt8))).t].length)*96≤140737488355328)) (.leaf (.at (loopOf Tryz.prog 196 1) 88 (slotsS 88 [(1,.ptr 0 0),(3,SV.row 1),(4,.int .i64 i),(7,.int .i64 (i64.wrap ((↑(l++[(decR (f.pages.getD i.toNat ([] :List UInt8))).t]).length:Int)-1)))]) [some (.cells f.cells),some (.rows tyRc (l++[(decR (f.pages.getD i.toNat ([] :List UInt8))).t]))]))))) (.leaf (.at (loopOf Tryz.prog 196 0) 88 (slotsS 88 [(1,.ptr 0 0),(3,SV.row 1),(4,.int .i64 (i64.wrap (i+1)))]) [some (.cells f.cells),some (.rows tyRc l)])))))) (.leaf (.done (.list tyRc l)))
theorem ra1(f:Fl)(l:List RT)(i:Int):segR (Env.of Tryz.prog (sumOf [fDecR])) 1000 (fnOf Tryz.prog 196) tyRc (keepS 88 [1,3,4,7]) (loopOf Tryz.prog 196 0) ra1_p (slotsS 88 [(1,.ptr 0 0),(3,.row 1),(4,I64 i)]) [some (.cells f.cells),some (.rows tyRc l)] =ra1_t f l i:=by kernel_rfl
def ra2_p:Plan:=.fork (.ln 12 (.fork .all .all)) (.ln 12 (.lit .all))
noncomputable def ra2_t(f:Fl)(l:List RT)(i k:Int):Tree Stop:= .node (decide (k>0)) (.req (decide (0≤k)&&decide (k< (↑l.length:Int))) (.req (decide (k.toNat<l.length)) (.req (decide (0≤i64.wrap (k-1))&&decide (i64.wrap (k-1)< (↑l.length:Int))) (.req (decide ((i64.wrap (k-1)).toNat<l.length)) (.node (decide ((l.getD k.toNat rcZ.t).2.1< (l.getD (i64.wrap (k-1)).toNat rcZ.t).2.1)) (.req (decide (0≤k)&&decide (k< (↑l.length:Int))) (.req (decide (k.toNat<l.length)) (.req (decide (0≤i64.wrap (k-1))&&decide (i64.wrap (k-1)< (↑l.length:Int))) (.req (decide ((i64.wrap (k-1)).toNat<l.length)) (.req (decide (0≤k)&&decide (k< (↑l.length:Int))) (.req (decide (k.toNat<l.length)) (.req (decide (0≤i64.wrap (k-1))&&decide (i64.wrap (k-1)< (↑(l.set k.toNat (l.getD (i64.wrap (k-1)).toNat rcZ.t)).length:Int))) (.req (decide ((i64.wrap (k-1)).toNat< (l.set k.toNat (l.getD (i64.wrap (k-1)).toNat rcZ.t)).length)) (.leaf (.at (loopOf Tryz.prog 196 1) 88 (slotsS 88 [(1,.ptr 0 0),(3,SV.row 1),(4,.int .i64 i),(7,.int .i64 (i64.wrap (k-1)))]) [some (.cells f.cells),some (.rows tyRc ((l.set k.toNat (l.getD (i64.wrap (k-1)).toNat rcZ.t)).set (i64.wrap (k-1)).toNat (l.getD k.toNat rcZ.t)))])))))))))) (.leaf (.at (loopOf Tryz.prog 196 0) 88 (slotsS 88 [(1,.ptr 0 0),(3,SV.row 1),(4,.int .i64 (i64.wrap (i+1))),(7,.int .i64 k)]) [some (.cells f.cells),some (.rows tyRc l)]))))))) (.leaf (.at (loopOf Tryz.prog 196 0) 88 (slotsS 88 [(1,.ptr 0 0),(3,SV.row 1),(4,.int .i64 (i64.wrap (i+1))),(7,.int .i64 k)]) [some (.cells f.cells),some (.rows tyRc l)]))
theorem ra2(f:Fl)(l:List RT)(i k:Int):segR (Env.of Tryz.prog (sumOf [])) 1000 (fnOf Tryz.prog 196) tyRc (keepS 88 [1,3,4,7]) (loopOf Tryz.prog 196 1) ra2_p (slotsS 88 [(1,.ptr 0 0),(3,.row 1),(4,I64 i),(7,I64 k)]) [some (.cells f.cells),some (.rows tyRc l)] =ra2_t f l i k:=by kernel_rfl
open Go.Sx
theorem kDecR:Known Tryz.prog (Env.of Tryz.prog (sumOf [fDecR])):=kW (l:=[fDecR]) ⟨o_decR,trivial⟩
theorem kFlBR:Known Tryz.prog (Env.of Tryz.prog (sumOf [fFlBR])):=kW (l:=[fFlBR]) ⟨o_flBR,trivial⟩
abbrev slA(i:Int):List SV:=slotsS 88 [(1,.ptr 0 0),(3,.row 1),(4,I64 i)]
abbrev bxA(f:Fl)(l:List Rc):List (Option Box):=[some (.cells f.cells),some (.rows tyRc (l.map Rc.t))]
theorem map_getD{l:List Rc}{i:Nat}(h:i<l.length):(l.map Rc.t).getD i rcZ.t=(l.getD i rcZ).t:=by
 rw[List.getD_eq_getElem?_getD,List.getElem?_map,List.getD_eq_getElem?_getD,List.getElem?_eq_getElem h];rfl
theorem set_at{α:Type}:∀ (A:List α) (x y:α) (B:List α),(A++x::B).set A.length y=A++y::B
 |[],_,_,_=>rfl
 |a::A,x,y,B=>congrArg (a::·) (set_at A x y B)
theorem forget7{f:Fl}{v:SV}{l:List Rc}{i k:Int}(h:RunsR Tryz.prog (fnOf Tryz.prog 196) v (loopOf Tryz.prog 196 0) (slA i) (bxA f l)):RunsR Tryz.prog (fnOf Tryz.prog 196) v (loopOf Tryz.prog 196 0) (slotsS 88 [(1,.ptr 0 0),(3,.row 1),(4,I64 i),(7,I64 k)]) (bxA f l):=by
 have e:slotsS 88 [(1,.ptr 0 0),(3,.row 1),(4,I64 i),(7,.top)] =slA i:=rfl
 rw[←e]at h
 exact runsR_weak false [] (slots':=slotsS 88 [(1,.ptr 0 0),(3,.row 1),(4,I64 i),(7,.top)]) (boxes':=bxA f l) (slotsS_wk ⟨rfl,.same _,rfl,.same _,rfl,.same _,rfl,.top _,trivial⟩) ⟨by simp,.same _,by simp,.same _,rfl⟩ h
theorem ra_inner(f:Fl)(v:SV)(hv:v.data=true)(r:Rc)(i:Int)(hi:0≤i∧i≤1000):∀ (n:Nat) (A B:List Rc),A.length=n→n≤1000→ascR (A++B)→(∀x∈B,r.seq<x.seq)→
  RunsR Tryz.prog (fnOf Tryz.prog 196) v (loopOf Tryz.prog 196 0) (slA (i+1)) (bxA f (insR r (A++B)))→
  RunsR Tryz.prog (fnOf Tryz.prog 196) v (loopOf Tryz.prog 196 1) (slotsS 88 [(1,.ptr 0 0),(3,.row 1),(4,I64 i),(7,I64 n)]) (bxA f (A++r::B))
 |n,A,B,hn,hl,ha,hb,h=>by
  have w1:i64.wrap (i+1)=i+1:=w64 (by omega) (by omega)
  refine runsR_seg k000 (n:=1000) (hint:=tyRc) (keep:=keepS 88 [1,3,4,7]) (p:=ra2_p) hv ?_
  erw [ra2 f ((A++r::B).map Rc.t) i n]
  unfold ra2_t
  rw[w1]
  match n,hn with
  |0,hn=>
   have:A=[] :=List.length_eq_zero_iff.1 hn
   subst this
   refine n_dec (fun k=>absurd k (by omega)) fun _=>⟨slotsS_len _ _,forget7 ?_⟩
   have e:insR r ([] ++B)=[] ++r::B:=insR_at (a:=[]) (b:=B) ha (fun x hx=>by cases hx) hb
   rw[e]at h;exact h
  |m+1,hn=>
   obtain⟨A',x,rfl⟩:∃A' x,A=A'++[x] :=⟨A.dropLast,A.getLast (by intro e;rw[e]at hn;cases hn),(List.dropLast_concat_getLast _).symm⟩
   have hA:A'.length=m:=by simpa using hn
   have w2:i64.wrap (((m+1:Nat):Int)-1)=(m:Int):=by rw[w64 (by omega) (by omega)];omega
   have t1:(((m+1:Nat):Int)).toNat=m+1:=by omega
   have t2:((m:Int)).toNat=m:=by omega
   have len:(A'++[x] ++r::B).length=m+1+1+B.length:=by simp[hA];omega
   have g1:(A'++[x] ++r::B).getD (m+1) rcZ=r:=by
    rw[List.getD_eq_getElem?_getD,List.getElem?_append_right (by simp;omega)];simp[hA]
   have g2:(A'++[x] ++r::B).getD m rcZ=x:=by
    rw[List.append_assoc,List.getD_eq_getElem?_getD,List.getElem?_append_right (by omega)];simp[hA]
   have G:∀j,j< (A'++[x] ++r::B).length→((A'++[x] ++r::B).map Rc.t).getD j rcZ.t=((A'++[x] ++r::B).getD j rcZ).t:=fun j hj=>map_getD hj
   have L:((A'++[x] ++r::B).map Rc.t).length=m+1+1+B.length:=by rw[List.length_map,len]
   rw[w2,t1,t2,G _ (by omega),G _ (by omega),g1,g2]
   have sets:(((A'++[x] ++r::B).map Rc.t).set (m+1) x.t).set m r.t=(A'++r::(x::B)).map Rc.t:=by
    rw[←List.map_set,←List.map_set]
    congr 1
    have e1:=set_at (A'++[x]) r x B
    rw[show(A'++[x]).length=m+1 by simp[hA]]at e1
    have e2:=set_at A' x r (x::B)
    rw[hA]at e2
    rw[e1,show A'++[x] ++x::B=A'++x::x::B by simp,e2]
   have q:∀b:Nat,b<m+1+1+B.length→(decide (0≤((b:Nat):Int))&&decide (((b:Nat):Int)< (((A'++[x] ++r::B).map Rc.t).length:Int)))=true:=fun b hb=>by rw[L];simp;omega
   have q2:∀b:Nat,b<m+1+1+B.length→decide (b< ((A'++[x] ++r::B).map Rc.t).length)=true:=fun b hb=>decide_eq_true (by rw[L];exact hb)
   refine n_dec (fun _=>n_req (q _ (by omega)) (n_req (q2 _ (by omega)) (n_req (q _ (by omega)) (n_req (q2 _ (by omega)) (n_dec (fun c=>?_) fun c=>?_))))) fun k=>absurd (by omega) k
   ·refine n_req (q _ (by omega)) (n_req (q2 _ (by omega)) (n_req (q _ (by omega)) (n_req (q2 _ (by omega)) (n_req (q _ (by omega)) (n_req (q2 _ (by omega)) (n_req ?_ (n_req ?_ ⟨slotsS_len _ _,?_⟩)))))))
    ·rw[List.length_set];exact q _ (by omega)
    ·rw[List.length_set];exact q2 _ (by omega)
    ·rw[sets]
     refine ra_inner f v hv r i hi m A' (x::B) hA (by omega) (by simpa using ha) (fun y hy=>?_) (by simpa using h)
     rcases List.mem_cons.1 hy with rfl|hy
     ·exact c
     ·exact hb y hy
   ·refine⟨slotsS_len _ _,forget7 ?_⟩
    have le:∀y∈A'++[x],y.seq≤r.seq:=fun y hy=>by
     have c':¬r.seq<x.seq:=c
     have asc:∀ (a b:List Rc),ascR (a++b)→∀y∈a,∀z∈b,y.seq≤z.seq:=by
      intro a b
      induction a with
      |nil=>intro _ y hy;cases hy
      |cons w a ih=>
       intro h y hy z hz
       rcases List.mem_cons.1 hy with rfl|hy
       ·exact h.1 z (List.mem_append_right _ hz)
       ·exact ih h.2 y hy z hz
     rcases List.mem_append.1 hy with hy|hy
     ·have:=asc A' ([x] ++B) (by simpa using ha) y hy x (by simp)
      omega
     ·rcases List.mem_cons.1 hy with rfl|hy
      ·omega
      ·cases hy
    rw[insR_at ha le hb]at h
    exact h
def allFrom(n:Int)(acc:List Rc)(i:Nat)(l:List (List UInt8)):List Rc:=(recsFrom n i l).foldl (fun acc r=>insR r acc) acc
theorem allFrom_none{n:Int}{acc:List Rc}{i:Nat}{s:List UInt8}{l:List (List UInt8)}(h:recAt n i s=none):allFrom n acc i (s::l)=allFrom n acc (i+1) l:=by
 unfold allFrom;rw[recs_cons,h]
theorem allFrom_some{n:Int}{acc:List Rc}{i:Nat}{s:List UInt8}{l:List (List UInt8)}{r:Rc}(h:recAt n i s=some r):allFrom n acc i (s::l)=allFrom n (insR r acc) (i+1) l:=by
 unfold allFrom;rw[recs_cons,h];rfl
theorem ra_outer(f:Fl)(hl:f.pages.length≤1000)(hp:∀p∈f.pages,p.length=64):∀ (k i:Nat) (acc L:List Rc),i+k=f.pages.length→ascR acc→acc.length≤i→L=allFrom f.pages.length acc i (f.pages.drop i)→
  RunsR Tryz.prog (fnOf Tryz.prog 196) (LR L) (loopOf Tryz.prog 196 0) (slA i) (bxA f acc)
 |k,i,acc,L,hi,ha,hn,hL=>by
  have w1:i64.wrap ((i:Int)+1)=(i:Int)+1:=w64 (by omega) (by omega)
  have t0:(i:Int).toNat=i:=by omega
  refine runsR_seg kDecR (n:=1000) (hint:=tyRc) (keep:=keepS 88 [1,3,4,7]) (p:=ra1_p) rfl ?_
  erw [ra1 f (acc.map Rc.t) i]
  unfold ra1_t
  rw[w1,t0]
  match k,hi with
  |0,hi=>
   refine n_dec (fun a=>absurd a (by omega)) fun _=>?_
   have z:f.pages.drop i=[] :=List.drop_eq_nil_of_le (by omega)
   rw[z]at hL
   have hL:L=acc:=hL
   subst hL
   rfl
  |k+1,hi=>
   have hip:i<f.pages.length:=by omega
   have p64:(f.pages.getD i ([] :List UInt8)).length=64:=by
    rw[List.getD_eq_getElem?_getD,List.getElem?_eq_getElem hip];exact hp _ (List.getElem_mem hip)
   rw[drop_getD (d:=([] :List UInt8)) hip]at hL
   have nx:((i:Int)+1)=((i+1:Nat):Int):=by omega
   have skip:recAt f.pages.length i (f.pages.getD i ([] :List UInt8))=none→RunsR Tryz.prog (fnOf Tryz.prog 196) (LR L) (loopOf Tryz.prog 196 0) (slA ((i:Int)+1)) (bxA f acc):=fun e=>by
    rw[allFrom_none e]at hL
    rw[nx]
    exact ra_outer f hl hp k (i+1) acc L (by omega) ha (by omega) hL
   have nz:(!(((f.pages.length:Nat):Int)==0))=true:=by
    rw[Bool.not_eq_true',beq_eq_false_iff_ne];omega
   refine n_dec (fun _=>n_req (by simp;omega) (n_req (decide_eq_true (by rw[p64];omega)) (n_dec (fun c=>absurd c (by rw[p64];omega)) fun _=>n_bool (fun b=>n_req nz (n_ne (fun c=>?_) fun c=>n_req (decide_eq_true ?_) ?_)) fun b=>?_))) fun a=>absurd (by omega) a
   ·refine⟨slotsS_len _ _,skip ?_⟩
    cases e:recAt f.pages.length i (f.pages.getD i ([] :List UInt8))with
    |none=>rfl
    |some r=>exact absurd (recAt_iff.1 e).2.1 c
   ·rw[List.length_map]
    show(acc.length+1)*96≤_
    omega
   ·have e:recAt f.pages.length i (f.pages.getD i ([] :List UInt8))=some (decR (f.pages.getD i ([] :List UInt8))):=recAt_iff.2 ⟨b,c,rfl⟩
    rw[allFrom_some e]at hL
    have el:(acc.map Rc.t)++[(decR (f.pages.getD i ([] :List UInt8))).t] =(acc++decR (f.pages.getD i ([] :List UInt8))::[]).map Rc.t:=by rw[List.map_append];rfl
    have len:(((acc.map Rc.t++[(decR (f.pages.getD i ([] :List UInt8))).t]).length:Nat):Int)-1=(acc.length:Int):=by
     rw[List.length_append,List.length_map];show(((acc.length+1:Nat)):Int)-1=_;omega
    rw[len,w64 (by omega) (by omega),el]
    refine⟨slotsS_len _ _,?_⟩
    refine ra_inner f (LR L) rfl (decR (f.pages.getD i ([] :List UInt8))) i (by omega) acc.length acc [] rfl (by omega) (by rw[List.append_nil];exact ha) (fun x hx=>by cases hx) ?_
    rw[List.append_nil,nx]
    refine ra_outer f hl hp k (i+1) (insR (decR (f.pages.getD i ([] :List UInt8))) acc) L (by omega) (insR_asc _ _ ha) ?_ hL
    rw[(insR_perm _ acc).length_eq,List.length_cons];omega
   ·refine⟨slotsS_len _ _,skip ?_⟩
    cases e:recAt f.pages.length i (f.pages.getD i ([] :List UInt8))with
    |none=>rfl
    |some r=>have:=(recAt_iff.1 e).1;rw[this]at b;cases b
theorem s_allR(f:Fl)(h:fewP f=true):SCall Tryz.prog 196 [f.sv] (LR (allL f)):=by
 have hl:f.pages.length≤1000:=of_decide_eq_true h
 refine scallR_loops rfl rfl (by kernel_rfl) (runsR_seg kFlBR (n:=1000) (hint:=tyRc) (keep:=keepS 88 [1,3,4,7]) (p:=ra0_p) (boxes:=[]) rfl ?_)
 have q:=ra0 f
 unfold startS codeS at q
 erw [q]
 unfold ra0_t
 refine n_req h (n_not (fun b=>?_) fun b=>n_bool (fun d=>?_) fun d=>⟨slotsS_len _ _,?_⟩)
 ·have:allL f=[] :=by unfold allL;rw[b];rfl
  rw[this];rfl
 ·have:allL f=[] :=by unfold allL;rw[b,d];rfl
  rw[this];rfl
 ·have e:allL f=allFrom f.pages.length [] 0 (f.pages.drop 0):=by unfold allL;rw[b,d];rfl
  have r:=ra_outer f hl (flB_iff.1 b).1 f.pages.length 0 [] (allL f) (by omega) trivial (Nat.le_refl _) e
  exact runsR_weak true [] (slots':=slotsS 88 [(1,.ptr 0 0),(3,.row 1),(4,I64 0),(7,.top)]) (boxes':=bxA f []) (slotsS_wk ⟨rfl,.same _,rfl,.nil rfl,rfl,.same _,rfl,.top _,trivial⟩) ⟨by simp,.same _,trivial⟩ r
def fAllR:Fact:=factFl 196 fun f=>.req (fewP f) (.leaf (LR (allL f)))
theorem o_allR:fAllR.ok Tryz.prog:=factFl_ok fun f h=>s_allR f h
open Go.Sx
def lastR(f:Fl):Rc:=(lastO f).getD rcZ
def lastV(f:Fl):SV:=.tuple [(lastR f).sv,.bool (lastO f).isSome]
def apV(f:Fl)(r:Rc):SV:=.tuple [(apF f r).sv,I64 (apE f r)]
theorem lastSeq_R(f:Fl):lastSeq f=(lastR f).seq:=by unfold lastSeq lastR;cases lastO f<;>rfl
def factFlRc(g:FuncId)(h:Fl→Rc→Tree SV):Fact:=⟨g,fun args=>match args with
 |[.agg [.list .str p,.int .i64 a,.bool d,.int .i64 k],.agg [.int .i64 r0,.int .i64 r1,.int .i64 r2,.int .i64 r3,.int .i64 p0,.int .i64 p1,.int .i64 p2,.int .i64 p3,.int .i64 q0,.int .i64 q1,.int .i64 q2,.int .i64 q3]] =>some (h ⟨p,a,d,k⟩ ⟨r0,r1,r2,r3,(p0,p1,p2,p3),(q0,q1,q2,q3)⟩)
 |_=>none⟩
theorem factFlRc_ok{P:Program}{g:FuncId}{h:Fl→Rc→Tree SV}(k:∀c r,(h c r).says (SCall P g [c.sv,r.sv])):(factFlRc g h).ok P:=fun args t ht=>by
 simp only[factFlRc]at ht
 split at ht
 ·injection ht with ht;subst ht;exact k ⟨_,_,_,_⟩ ⟨_,_,_,_,(_,_,_,_),(_,_,_,_)⟩
 ·cases ht
def fLast:Fact:=factFl 103 fun f=>.req (fewP f) (.leaf (lastV f))
def fLastR:Fact:=factFl 110 fun f=>.req (fewP f) (.leaf (lastV f))
def fApR:Fact:=factFlRc 101 fun f r=>.req (fewP f) (.leaf (apV f r))
theorem recs_len{n:Int}:∀{l:List (List UInt8)} {i:Nat},(recsFrom n i l).length≤l.length
 |[],i=>Nat.le_refl _
 |s::l,i=>by
  have:=@recs_len n l (i+1)
  rw[recs_cons]
  split<;>simp<;>omega
theorem allL_len(f:Fl):(allL f).length≤f.pages.length:=by
 unfold allL
 split
 ·rw[(sort_perm _).length_eq];exact recs_len
 ·simp
theorem allL_mem{f:Fl}{r:Rc}(h:r∈allL f):rcB r=true:=by
 unfold allL at h
 split at h
 ·obtain⟨j,_,hj⟩:=mem_recs.1 ((sort_perm _).mem_iff.1 h)
  obtain⟨h1,_,rfl⟩:=recAt_iff.1 hj
  exact(decB_iff.1 h1).1
 ·cases h
theorem lastR_rng(f:Fl):0≤(lastR f).seq∧(lastR f).seq≤1099511627776:=by
 unfold lastR
 cases h:lastO f with
 |none=>exact⟨Int.le_refl _,by decide⟩
 |some r=>
  have:=rcB_iff.1 (allL_mem (List.mem_of_getLast? h))
  exact⟨by show 0≤r.seq;omega,this.2.1.2⟩
theorem lastV_none{f:Fl}(h:allL f=[]):lastV f=.tuple [rcZ.sv,.bool false] :=by
 unfold lastV lastR lastO;rw[h];rfl
theorem lastV_some{f:Fl}{A:List Rc}{x:Rc}(h:allL f=A++[x]):lastV f=.tuple [x.sv,.bool true] :=by
 unfold lastV lastR lastO;rw[h,List.getLast?_concat];rfl
theorem apV_arg{f:Fl}{r:Rc}(h:rcB r=false∨flB f=false):apV f r=.tuple [f.sv,I64 1] :=by
 have e:(rcB r&&flB f)=false:=by rcases h with h|h<;>simp[h]
 unfold apV apF apE;rw[e];rfl
theorem apV_dead{f:Fl}{r:Rc}(h:rcB r=true)(k:flB f=true)(d:f.dead=true):apV f r=.tuple [f.sv,I64 17] :=by
 unfold apV apF apE;rw[h,k,d];rfl
theorem apV_order{f:Fl}{r:Rc}(h:rcB r=true)(k:flB f=true)(d:f.dead=false)(s:¬r.seq=lastSeq f+1):apV f r=.tuple [f.sv,I64 11] :=by
 have e:(r.seq==lastSeq f+1)=false:=by simpa using s
 unfold apV apF apE;rw[h,k,d,e];rfl
theorem apV_ok{f:Fl}{r:Rc}(h:rcB r=true)(k:flB f=true)(d:f.dead=false)(s:r.seq=lastSeq f+1):apV f r=wrV f (r.seq.tmod f.pages.length) (enc r):=by
 have e:(r.seq==lastSeq f+1)=true:=by simpa using s
 unfold apV apF apE wrV;rw[h,k,d,e];rfl
theorem s_lastR(f:Fl)(h:fewP f=true):SCall Tryz.prog 110 [f.sv] (lastV f):=
 scall_v mix [fAllR] ⟨o_allR,trivial⟩ 1000 (.fork (.all) (.all))
  (t:=let y1:=(↑(List.map Rc.t (allL f)).length:Int);let y0:=(List.map Rc.t (allL f)).getD (i64.wrap (y1-1)).toNat rcZ.t;.req (fewP f) (.node (y1==0) (.leaf (.tuple [.agg [.int .i64 0,.int .i64 0,.int .i64 0,.int .i64 0,.int .i64 0,.int .i64 0,.int .i64 0,.int .i64 0,.int .i64 0,.int .i64 0,.int .i64 0,.int .i64 0],.bool false])) (.req (decide (0≤i64.wrap (y1-1))&&decide (i64.wrap (y1-1)<y1)) (.leaf (.tuple [.agg [.int .i64 y0.1,.int .i64 y0.2.1,.int .i64 y0.2.2.1,.int .i64 y0.2.2.2.1,.int .i64 y0.2.2.2.2.1.1,.int .i64 y0.2.2.2.2.1.2.1,.int .i64 y0.2.2.2.2.1.2.2.1,.int .i64 y0.2.2.2.2.1.2.2.2,.int .i64 y0.2.2.2.2.2.1,.int .i64 y0.2.2.2.2.2.2.1,.int .i64 y0.2.2.2.2.2.2.2.1,.int .i64 y0.2.2.2.2.2.2.2.2],.bool true])))))
  (by kernel_rfl) (by
   refine n_req h (n_eq (fun e=>?_) fun e=>?_)
   ·have e:allL f=[] :=by
     rw[List.length_map]at e
     exact List.eq_nil_of_length_eq_zero (by omega)
    rw[lastV_none e];rfl
   ·have hl:f.pages.length≤1000:=of_decide_eq_true h
    have len:=allL_len f
    rw[List.length_map]at e ⊢
    have w:i64.wrap (((allL f).length:Int)-1)=((allL f).length:Int)-1:=w64 (by omega) (by omega)
    rw[w]
    obtain⟨A,x,hA⟩:∃A x,allL f=A++[x] :=⟨(allL f).dropLast,(allL f).getLast (by intro k;rw[k]at e;exact e rfl),(List.dropLast_concat_getLast _).symm⟩
    have g:((allL f).map Rc.t).getD (((allL f).length:Int)-1).toNat rcZ.t=x.t:=by
     rw[map_getD (by omega),hA]
     have:((((A++[x]).length:Nat):Int)-1).toNat=A.length:=by simp
     rw[this,List.getD_eq_getElem?_getD,List.getElem?_append_right (Nat.le_refl _)];simp
    rw[g,lastV_some hA]
    exact n_req (by simp;omega) rfl) (by kernel_rfl) (by kernel_rfl)
theorem o_lastR:fLastR.ok Tryz.prog:=factFl_ok fun f h=>s_lastR f h
theorem s_apR(f:Fl)(r:Rc)(h:fewP f=true):SCall Tryz.prog 101 [f.sv,r.sv] (apV f r):=
 scall_v mix [fEncR,fFlBR,fLastR,fWrR] ⟨o_encR,o_flBR,o_lastR,o_wrR,trivial⟩ 1000 (.fork (.ln 4 (.fork .all (.fork .all (.fork .all .all)))) (.ln 4 (.lit .all)))
  (t:=.node (rcB r) (.req (fewP f) (.node (!flB f) (.leaf (.tuple [.agg f.cells,.int .i64 1])) (.node (f.dead) (.leaf (.tuple [.agg f.cells,.int .i64 17])) (.req (fewP f) (.node (r.seq != i64.wrap ((lastR f).seq+1)) (.leaf (.tuple [.agg f.cells,.int .i64 11])) (.req (!(↑f.pages.length:Int)==0) (.req (fewP f) (.req (decide ((enc r).length≤100000)) (.leaf (.tuple [.agg [.list Ty.str (wrF f (r.seq.tmod (↑f.pages.length:Int)) (enc r)).pages,.int .i64 (wrF f (r.seq.tmod (↑f.pages.length:Int)) (enc r)).fuse,.bool (wrF f (r.seq.tmod (↑f.pages.length:Int)) (enc r)).dead,.int .i64 (wrF f (r.seq.tmod (↑f.pages.length:Int)) (enc r)).keep],.int .i64 (wrE f (r.seq.tmod (↑f.pages.length:Int)) (enc r))])))))))))) (.leaf (.tuple [.agg f.cells,.int .i64 1])))
  (by kernel_rfl) (by
   have w:i64.wrap ((lastR f).seq+1)=lastSeq f+1:=by rw[lastSeq_R,w64 (by have:=lastR_rng f;omega) (by have:=lastR_rng f;omega)]
   rw[w]
   refine n_bool (fun a=>n_req h (n_not (fun b=>(apV_arg (.inr b)).symm) fun b=>n_bool (fun d=>(apV_dead a b d).symm) fun d=>n_req h (n_ne (fun s=>(apV_order a b d s).symm) fun s=>n_req ?_ (n_req h (n_req (by rw[enc_len];rfl) ?_))))) fun a=>(apV_arg (.inl a)).symm
   ·have:=(flB_iff.1 b).2.1
    rw[Bool.not_eq_true',beq_eq_false_iff_ne];omega
   ·rw[apV_ok a b d s];rfl) (by kernel_rfl) (by kernel_rfl)
theorem o_apR:fApR.ok Tryz.prog:=factFlRc_ok fun f r h=>s_apR f r h
open Go.Sx
end Go.Proofs.YtnkaepnblikcdaaGreat
namespace Go.Sx
open Go.RowKit
section
variable {α:Type}
end
end Go.Sx
namespace Go.Proofs
open Go.Shelf Go.RowKit Go.Lib Go.Sort
def Tryz.sortRc_ren:Ren:=⟨fun|6=>256|15=>286|14=>285|28=>317|29=>318|20=>309|21=>310|22=>311|23=>312|24=>313|25=>314|26=>315|27=>316|46=>326|47=>327|48=>328|49=>329|50=>330|57=>336|n=>n,fun|22=>190|24=>134|25=>239|3=>3|39=>170|0=>0|53=>281|55=>225|4=>4|46=>274|45=>273|50=>278|5=>5|9=>9|66=>287|70=>161|76=>295|77=>164|n=>n,fun|n=>n⟩
theorem Tryz.sortRc:SlLaysF0.n6 Tryz.prog Tryz.sortRc_ren:={
 mixed:=by kernel_rfl
 f6:=⟨Tryz.f256.name,by decide,Tryz.func256.trans (congrArg some (by kernel_rfl))⟩
 f14:=⟨Tryz.f285.name,by decide,Tryz.func285.trans (congrArg some (by kernel_rfl))⟩
 f15:=Tryz.func286.trans (congrArg some (by kernel_rfl))
 f20:=⟨Tryz.f309.name,by decide,Tryz.func309.trans (congrArg some (by kernel_rfl))⟩
 f21:=⟨Tryz.f310.name,by decide,Tryz.func310.trans (congrArg some (by kernel_rfl))⟩
 f22:=⟨Tryz.f311.name,by decide,Tryz.func311.trans (congrArg some (by kernel_rfl))⟩
 f23:=⟨Tryz.f312.name,by decide,Tryz.func312.trans (congrArg some (by kernel_rfl))⟩
 f24:=⟨Tryz.f313.name,by decide,Tryz.func313.trans (congrArg some (by kernel_rfl))⟩
 f25:=⟨Tryz.f314.name,by decide,Tryz.func314.trans (congrArg some (by kernel_rfl))⟩
 f26:=⟨Tryz.f315.name,by decide,Tryz.func315.trans (congrArg some (by kernel_rfl))⟩
 f27:=⟨Tryz.f316.name,by decide,Tryz.func316.trans (congrArg some (by kernel_rfl))⟩
 f28:=Tryz.func317.trans (congrArg some (by kernel_rfl))
 f29:=Tryz.func318.trans (congrArg some (by kernel_rfl))
 f46:=⟨Tryz.f326.name,by decide,Tryz.func326.trans (congrArg some (by kernel_rfl))⟩
 f47:=Tryz.func327.trans (congrArg some (by kernel_rfl))
 f48:=Tryz.func328.trans (congrArg some (by kernel_rfl))
 f49:=⟨Tryz.f329.name,by decide,Tryz.func329.trans (congrArg some (by kernel_rfl))⟩
 f50:=⟨Tryz.f330.name,by decide,Tryz.func330.trans (congrArg some (by kernel_rfl))⟩
 f57:=⟨Tryz.f336.name,by decide,Tryz.func336.trans (congrArg some (by kernel_rfl))⟩
 t0:=Tryz.underlying0
 a0:=Tryz.isAgg0
 z0:=Tryz.sizeOf0
 v0:=Tryz.zeroValue0
 t3:=Tryz.underlying3
 a3:=Tryz.isAgg3
 z3:=Tryz.sizeOf3
 v3:=Tryz.zeroValue3
 t4:=Tryz.underlying4
 a4:=Tryz.isAgg4
 z4:=Tryz.sizeOf4
 v4:=Tryz.zeroValue4
 t5:=Tryz.underlying5
 a5:=Tryz.isAgg5
 z5:=Tryz.sizeOf5
 v5:=Tryz.zeroValue5
 t9:=Tryz.underlying9
 a9:=Tryz.isAgg9
 z9:=Tryz.sizeOf9
 v9:=Tryz.zeroValue9
 t22:=Tryz.underlying190
 a22:=Tryz.isAgg190
 z22:=Tryz.sizeOf190
 v22:=Tryz.zeroValue190
 t25:=Tryz.underlying239
 a25:=Tryz.isAgg239
 z25:=Tryz.sizeOf239
 v25:=Tryz.zeroValue239
 t39:=Tryz.underlying170
 a39:=Tryz.isAgg170
 z39:=Tryz.sizeOf170
 v39:=Tryz.zeroValue170
 t45:=Tryz.underlying273
 a45:=Tryz.isAgg273
 z45:=Tryz.sizeOf273
 v45:=Tryz.zeroValue273
 t46:=Tryz.underlying274
 a46:=Tryz.isAgg274
 z46:=Tryz.sizeOf274
 v46:=Tryz.zeroValue274
 t50:=Tryz.underlying278
 a50:=Tryz.isAgg278
 z50:=Tryz.sizeOf278
 v50:=Tryz.zeroValue278
 t53:=Tryz.underlying281
 a53:=Tryz.isAgg281
 z53:=Tryz.sizeOf281
 v53:=Tryz.zeroValue281
 t55:=Tryz.underlying225
 a55:=Tryz.isAgg225
 z55:=Tryz.sizeOf225
 v55:=Tryz.zeroValue225
 t66:=Tryz.underlying287
 a66:=Tryz.isAgg287
 z66:=Tryz.sizeOf287
 v66:=Tryz.zeroValue287
 t70:=Tryz.underlying161
 a70:=Tryz.isAgg161
 z70:=Tryz.sizeOf161
 v70:=Tryz.zeroValue161
 t76:=Tryz.underlying295
 a76:=Tryz.isAgg295
 z76:=Tryz.sizeOf295
 v76:=Tryz.zeroValue295
 t77:=Tryz.underlying164
 a77:=Tryz.isAgg164
 z77:=Tryz.sizeOf164
 v77:=Tryz.zeroValue164 }
def Tryz.cmpInt_ren:Ren:=⟨fun|5=>258|7=>287|n=>n,fun|22=>3|3=>3|4=>4|n=>n,fun|n=>n⟩
theorem Tryz.cmpInt:SlLaysC2.n5 Tryz.prog Tryz.cmpInt_ren:={
 mixed:=by kernel_rfl
 f5:=⟨Tryz.f258.name,by decide,Tryz.func258.trans (congrArg some (by kernel_rfl))⟩
 f7:=⟨Tryz.f287.name,by decide,Tryz.func287.trans (congrArg some (by kernel_rfl))⟩
 t3:=Tryz.underlying3
 a3:=Tryz.isAgg3
 z3:=Tryz.sizeOf3
 v3:=Tryz.zeroValue3
 t4:=Tryz.underlying4
 a4:=Tryz.isAgg4
 z4:=Tryz.sizeOf4
 v4:=Tryz.zeroValue4
 t22:=Tryz.underlying3
 a22:=Tryz.isAgg3
 z22:=Tryz.sizeOf3
 v22:=Tryz.zeroValue3 }
end Go.Proofs
namespace Go.Proofs.YtnkaepnblikcdaaGreat
open Go.Sx Go.RowKit Go.Lib Go.Sort
def encT(x:RT):List Value:=[.int .i64 x.1,.int .i64 x.2.1,.int .i64 x.2.2.1,.int .i64 x.2.2.2.1,.int .i64 x.2.2.2.2.1.1,.int .i64 x.2.2.2.2.1.2.1,.int .i64 x.2.2.2.2.1.2.2.1,.int .i64 x.2.2.2.2.1.2.2.2,.int .i64 x.2.2.2.2.2.1,.int .i64 x.2.2.2.2.2.2.1,.int .i64 x.2.2.2.2.2.2.2.1,.int .i64 x.2.2.2.2.2.2.2.2]
theorem encT_one(x:RT):∀v∈encT x,v.oneCell'=true:=by
 intro v hv
 simp only[encT,List.mem_cons,List.not_mem_nil,or_false]at hv
 rcases hv with rfl|rfl|rfl|rfl|rfl|rfl|rfl|rfl|rfl|rfl|rfl|rfl<;>rfl
set_option maxHeartbeats 1000000 in
theorem all_closure(x y:RT)(W:World):Calls Tryz.prog 257 #[.agg (encT x).toArray,.agg (encT y).toArray] W fun e w'=>e=.returned (.int .i64 (Lib.compareInt x.2.1 y.2.1))∧∃q os',w'=grow (W.drewN q) os':=by
 have hcon:=fun W'=>AnyG.cmp_Compare_int Tryz.cmpInt x.2.1 y.2.1 W'
 change ∀W',Calls Tryz.prog 258 _ _ _ at hcon
 generalize Lib.compareInt x.2.1 y.2.1=r at hcon ⊢
 unfold encT
 go_enter Tryz.func257,Tryz.ntmps257
 go_wp2_with (go_at_call 258;refine(hcon _).mono ?_;rintro e w' ⟨rfl,rfl⟩)
 go_ret
 exact⟨rfl,0,_,by rw[alloc_eq_grow,alloc_eq_grow,grow_grow];rfl⟩
theorem ltSeq(x y:RT):ltOf (fun x y:RT=>Lib.compareInt x.2.1 y.2.1) x y=decide (x.2.1<y.2.1):=by
 unfold ltOf Lib.compareInt
 by_cases h1:x.2.1<y.2.1
 ·simp[h1]
 ·by_cases h2:y.2.1<x.2.1<;>simp[h1,h2]
theorem swoSeq:SWO (ltOf fun x y:RT=>Lib.compareInt x.2.1 y.2.1) where
 irrefl x:=by rw[ltSeq];simp
 trans x y z h1 h2:=by rw[ltSeq]at *;simp at *;omega
 ntrans x y z h1 h2:=by rw[ltSeq]at *;simp at *;omega
theorem isAggRc(w:World):(isAgg 134).run Tryz.prog w=.ok true w:=by
 simp[isAgg,run_underlying Tryz.underlying134]
theorem infoRc:(Tryz.prog.info? 134).map (fun i=>(i.zero,i.size,i.bytes))=some (some (.agg #[.int .i64 0,.int .i64 0,.int .i64 0,.int .i64 0,.int .i64 0,.int .i64 0,.int .i64 0,.int .i64 0,.int .i64 0,.int .i64 0,.int .i64 0,.int .i64 0]),12,96):=by kernel_rfl
theorem sizeRc(w:World):(Go.sizeOf 134).run Tryz.prog w=.ok 12 w:=by
 obtain⟨i0,hi0,hz0,hz1,hz2⟩:=info_parts infoRc
 simp[Go.sizeOf,typeInfo,hi0,hz1]
theorem sort_walk(blk cap:Nat)(d:Array RT)(w:World)(hH:HoldsK encT 12 w blk 0 d)(hblk:blk<w.heap.size)(hsz:d.size<4611686018427387904):
  Calls Tryz.prog 256 #[.slice (some ⟨blk,0,none⟩) d.size cap,.func (.func 257) #[] #[]] w fun e w'=>e=.returned (.tuple #[])∧∃d' n os,PermIn 0 d.size d d'∧SortedIn (ltOf fun x y:RT=>Lib.compareInt x.2.1 y.2.1) 0 d.size d'∧w'=sortWorldK encT 12 w blk 0 n d' os:=by
 have eg:∀args w,(Go.callFunc 257 args).run Tryz.prog w=.ok (.enter 257 args) w:=enters_of Tryz.func257 (by kernel_rfl) rfl
 have hcon:=AnyQ.slices_SortFunc Tryz.sortRc 12 isAggRc sizeRc encT (fun _=>rfl) encT_one (fun x y=>Lib.compareInt x.2.1 y.2.1) swoSeq 257 #[] blk 0 cap d w eg (fun _ _ _ _ x y=>all_closure x y _) hH hblk hsz
 exact hcon
open Go.Sx
theorem s_sort0 :SCall Tryz.prog 256 [.list tyRc [],.fn 257 [] []] (.tuple []):=
 scall_v mix [] trivial 2000 (.auto)
  (t:=.req (true) (.leaf (SV.tuple [])))
  (by kernel_rfl) (by exact⟨rfl,rfl⟩) (by kernel_rfl) (by kernel_rfl)
theorem MRel.grown{w0:World}{R0:RSet}{ρ:Rho}{w w':World}{m:Mem}(h:MRel w0 R0 ρ w m)(hos:w'.os=w.os)(ht:w'.tape=w.tape)(hp:w'.output=w.output)(hsz:w.heap.size≤w'.heap.size)(hold:∀k,k<w.heap.size→w'.heap[k]? =w.heap[k]?):MRel w0 R0 ρ w' m∧MExt w0 R0 ρ w m ρ w' m:=by
 have hro:∀b,RO w0 R0 ρ w m b→RO w0 R0 ρ w' m b:=fun b hb=>by
  rcases hb with hb|⟨h1,h2,h3⟩
  ·exact .inl hb
  ·exact .inr ⟨h1,by omega,h3⟩
 have e:MExt w0 R0 ρ w m ρ w' m:=⟨Nat.le_refl _,fun _ _=>rfl,fun b hb=>⟨hro b hb,hold b (h.ro_lt hb)⟩⟩
 have hs0:=h.size_le
 exact⟨⟨h.below.trans ⟨hos,ht,hp,hsz,fun k hk=>hold k (by omega)⟩,h.lt,h.lo,fun k C hk hs=>Nat.lt_of_lt_of_le (h.hi k C hk hs) hsz,h.inj,fun k C hk=>BoxRel.mono e C (fun hs=>hold _ (h.hi k C hk hs)) (h.box k C hk),fun b hb=>⟨by have:=(h.hid.1 b hb).1;omega,(hold b (h.hid.1 b hb).1).trans (h.hid.1 b hb).2⟩,h.hid.2⟩,e⟩
theorem repD_enc{R:Nat→Prop}{w:World}{x:RT}{v:List Value}:RepD R w tyRc x v↔v=encT x:=by
 constructor
 ·intro h
  simp only[tyRc,RepD]at h
  obtain⟨_,_,rfl,rfl,_,_,rfl,rfl,_,_,rfl,rfl,_,_,rfl,rfl,_,_,rfl,⟨_,_,rfl,rfl,_,_,rfl,rfl,_,_,rfl,rfl,rfl⟩,_,_,rfl,rfl,_,_,rfl,rfl,_,_,rfl,rfl,rfl⟩:=h
  rfl
 ·rintro rfl
  simp only[tyRc,RepD]
  exact⟨[_],_,rfl,rfl,[_],_,rfl,rfl,[_],_,rfl,rfl,[_],_,rfl,rfl,[_,_,_,_],_,rfl,⟨[_],_,rfl,rfl,[_],_,rfl,rfl,[_],_,rfl,rfl,rfl⟩,[_],_,rfl,rfl,[_],_,rfl,rfl,[_],_,rfl,rfl,rfl⟩
theorem sorted_list{l:List RT}{d':Array RT}(hd:distinct (l.map rcOf))(hp:PermIn 0 l.toArray.size l.toArray d')(hs:SortedIn (ltOf fun x y:RT=>Lib.compareInt x.2.1 y.2.1) 0 l.toArray.size d'):d'.toList=(sortR (l.map rcOf)).map Rc.t:=by
 obtain⟨p1,p2,p3⟩:=hp
 have e1:(d'.extract 0 l.toArray.size).toList=d'.toList:=by rw[←p1];simp
 have e2:(l.toArray.extract 0 l.toArray.size).toList=l:=by simp
 rw[e1,e2]at p3
 have asc:∀ (k:List RT),(∀i j,i<j→j<k.length→¬(k.getD j default).2.1< (k.getD i default).2.1)→ascR (k.map rcOf):=by
  intro k
  induction k with
  |nil=>intro _;trivial
  |cons x k ih=>
   intro h
   refine⟨fun y hy=>?_,ih fun i j hij hj=>?_⟩
   ·obtain⟨z,hz,rfl⟩:=List.mem_map.1 hy
    obtain⟨j,hj,rfl⟩:=List.getElem_of_mem hz
    have:=h 0 (j+1) (by omega) (by simpa using hj)
    simp only[List.getD_cons_zero,List.getD_cons_succ]at this
    rw[List.getD_eq_getElem?_getD,List.getElem?_eq_getElem hj]at this
    show x.2.1≤k[j].2.1
    simp only[Option.getD_some]at this
    omega
   ·have:=h (i+1) (j+1) (by omega) (by simpa using hj)
    simpa using this
 have key:=sort_of hd (p3.map rcOf) (asc d'.toList fun i j hij hj=>by
  have hj':j<l.toArray.size:=by rw[←p1];simpa using hj
  have:=hs i j (Nat.zero_le _) hij hj'
  rw[ltSeq]at this
  have:=of_decide_eq_false this
  have g:∀t,t<d'.size→d'.toList.getD t default=d'[t]! :=fun t ht=>by
   rw[List.getD_eq_getElem?_getD,Array.getElem?_toList,Array.getElem?_eq_getElem ht,getElem!_pos d' t ht];rfl
  have hjs:j<d'.size:=by simpa using hj
  rw[g j hjs,g i (by omega)]
  exact this)
 rw[←key,t_rcs]
theorem flat_get(d:Array RT)(t:Nat)(h:t<d.size*12):(flatK encT 12 d)[t]? =(encT d[t / 12]!)[t % 12]? :=by
 have h1:t< (flatK encT 12 d).size:=by rw[size_flatK];exact h
 have h2:t % 12< (encT d[t / 12]!).length:=by show t % 12<12;omega
 rw[Array.getElem?_eq_getElem h1,List.getElem?_eq_getElem h2]
 have:=get_flatK encT 12 d t h
 rw[getElem!_pos (flatK encT 12 d) t h1,getElem!_pos (encT d[t / 12]!) (t % 12) h2]at this
 rw[this]
noncomputable def wSort:WFact:=⟨256,fun args m=>match args with
 |[x,y] =>match x with
  |.row id=>match y with
   |.fn g first cap=>match Nat.beq g 257&& (first.isEmpty&&cap.isEmpty)with
    |true=>match m.get id with
     |some B=>match B with
      |.rows t l=>if h:t=tyRc then some (.req (decide (l.length≤1000)&&distB ((h▸l:List tyRc.T).map rcOf)) (m.set id (some (.rows tyRc ((sortR ((h▸l:List tyRc.T).map rcOf)).map Rc.t))) fun m=>.leaf (.tuple [],m)))else none
      |_=>none
     |none=>none
    |false=>none
   |_=>none
  |_=>none
 |_=>none⟩
theorem sort_sem{m m':Mem}{id:Nat}{l:List RT}(hg:m.get id=some (.rows tyRc l))(hl:l.length≤1000)(hd:distinct (l.map rcOf))(hm':MSet m id (some (.rows tyRc ((sortR (l.map rcOf)).map Rc.t))) m'):WCall Tryz.prog 256 [.row id,.fn 257 [] []] m (.tuple [],m'):=by
 intro w0 R0 ρ w vs hm hvs
 obtain⟨a,us,rfl,hra,b,us2,rfl,hrb,hnil⟩:=hvs
 rw[show us2=[]from hnil]
 obtain⟨hid,ad,rfl,had⟩:=hra
 obtain⟨fv,fu,rfl,h5,h6⟩:=hrb
 rw[show fv=[]from h5,show fu=[]from h6]
 obtain⟨b1,b2,b3⟩:=hm.box id _ hg
 have b1:l.length=(ρ id).2.1:=b1
 have b2:l.length≤(ρ id).2.2:=b2
 by_cases h0:l=[]
 ·subst h0
  have q:=s_sort0 m w0 R0 ρ w [.slice ad (ρ id).2.1 (ρ id).2.2,.func (.func 257) #[] #[]] hm ⟨_,_,rfl,⟨ad,(ρ id).2.2,by rw[←b1];rfl,Nat.zero_le _,fun hp=>absurd hp (Nat.lt_irrefl 0)⟩,_,_,rfl,⟨[],[],rfl,rfl,rfl⟩,rfl⟩
  have eg:∀k,m'.get k=m.get k:=fun k=>by
   rw[hm'.1 k]
   split
   ·rename_i e;rw[e,hg];rfl
   ·rfl
  refine OpPost.mono (fun u w' hu=>?_) q
  obtain⟨ρ',g1,g2,g3⟩:=hu
  refine⟨ρ',g1.congr eg hm'.2,⟨by rw[hm'.2];exact g2.le,g2.same,fun b hb=>?_⟩,g3⟩
  obtain⟨k1,k2⟩:=g2.keep b hb
  exact⟨by rw[RO.congr eg];exact k1,k2⟩
 ·have hpos:0<l.length:=List.length_pos_iff.2 h0
  have hc0:0< (ρ id).2.2:=by omega
  obtain⟨arr,e,fr,q1,q2,q3,q4⟩:=b3 hc0
  have q3:arr.size=(ρ id).2.2*12:=q3
  have blk:=hm.hi id _ hg hc0
  rw[had hc0,←b1]
  have cells:∀i (hi:i<l.length) j,j<12→arr[i*12+j]? =(encT l[i])[j]? :=fun i hi j hj=>by
   obtain⟨cs,k1,k2,k3⟩:=q4 i hi
   rw[show cs=encT l[i]from repD_enc.1 k3]at k2
   exact k2 j hj
  have hH:HoldsK encT 12 w (ρ id).1 0 l.toArray:=by
   intro j hj
   rw[size_flatK]at hj
   have hj:j<l.length*12:=by simpa using hj
   have hi:j / 12<l.length:=by omega
   have hlt:j<arr.size:=by rw[q3];have:=Nat.mul_le_mul_right 12 b2;omega
   rw[Nat.zero_add]
   refine⟨?_,not_frozen q1 q2.1 (by omega)⟩
   rw[cell_of_row w _ _ arr e fr q1]
   have c:=cells (j / 12) hi (j % 12) (by omega)
   rw[show j / 12*12+j % 12=j by omega]at c
   rw[c]
   have f:=flat_get l.toArray j (by simpa using hj)
   have hsz:j< (flatK encT 12 l.toArray).size:=by rw[size_flatK];simpa using hj
   rw[Array.getElem?_eq_getElem hsz]at f
   rw[getElem!_pos (flatK encT 12 l.toArray) j hsz]
   show _=some (_root_.id (flatK encT 12 l.toArray)[j])
   rw[show(l.toArray[j / 12]! :RT)=l[j / 12] by simp[hi]]at f
   exact f.symm
  have hrun:=sort_walk (ρ id).1 (ρ id).2.2 l.toArray w hH blk (by simp;omega)
  dsimp only
  rw[callFunc_enter (P:=Tryz.prog) Tryz.func256 (body:=_) rfl (by kernel_rfl)]
  refine Calls.mono hrun fun ex w' ⟨he,d',n,os,hp,hs,hw⟩=>⟨_,he,?_⟩
  have hd':=sorted_list hd hp hs
  have hsz':d'.size=l.length:=by have:=hp.1;simpa using this
  -- the world grown
  have gw:(grow (Sort.ahead w n) os).heap.size=w.heap.size+os.size:=by simp[grow,Sort.ahead]
  obtain⟨m1,m2⟩:=MRel.grown (w':=grow (Sort.ahead w n) os) hm rfl rfl rfl (by rw[gw];omega) (fun k hk=>heap_grow_old (Sort.ahead w n) os hk)
  have hw2:w'=putRowK encT 12 (grow (Sort.ahead w n) os) (ρ id).1 0 d':=by
   rw[hw];unfold sortWorldK
   exact(putRowK_grow encT 12 (Sort.ahead w n) os (ρ id).1 0 d' blk).symm
  have hq1:(grow (Sort.ahead w n) os).heap[(ρ id).1]? =some (.cells arr e fr):=(heap_grow_old (Sort.ahead w n) os blk).trans q1
  have hheap:w'.heap[(ρ id).1]? =some (.cells (putCells _root_.id 0 (flatK encT 12 d') arr) e fr):=by
   rw[hw2]
   show((grow (Sort.ahead w n) os).heap.modify (ρ id).1 _)[(ρ id).1]? =_
   rw[Array.getElem?_modify,if_pos rfl,hq1];rfl
  have hoth:∀k,k≠(ρ id).1→w'.heap[k]? =(grow (Sort.ahead w n) os).heap[k]? :=fun k hk=>by
   rw[hw2]
   show((grow (Sort.ahead w n) os).heap.modify (ρ id).1 _)[k]? =_
   rw[Array.getElem?_modify,if_neg (Ne.symm hk)]
  have hs1:w'.heap.size=(grow (Sort.ahead w n) os).heap.size:=by
   rw[hw2]
   show((grow (Sort.ahead w n) os).heap.modify (ρ id).1 _).size=_
   rw[Array.size_modify]
  have ho:w'.os=(grow (Sort.ahead w n) os).os:=by rw[hw2];rfl
  have ht:w'.tape=(grow (Sort.ahead w n) os).tape:=by rw[hw2];rfl
  have hpt:w'.output=(grow (Sort.ahead w n) os).output:=by rw[hw2];rfl
  have lenS:((sortR (l.map rcOf)).map Rc.t).length=l.length:=by rw[List.length_map,(sort_perm _).length_eq,List.length_map]
  obtain⟨g1,g2⟩:=m1.setBox (B':=.rows tyRc ((sortR (l.map rcOf)).map Rc.t)) hg hc0 hm' ho ht hpt hs1 hoth fun R e'=>by
   refine⟨lenS.trans b1,Nat.le_trans (Nat.le_of_eq lenS) b2,fun _=>⟨_,_,_,hheap,⟨fun i hi=>q2.1 i (by simpa[putCells]using hi),q2.2⟩,(show(putCells _root_.id 0 (flatK encT 12 d') arr).size=arr.size by simp[putCells]).trans q3,fun i hi=>⟨encT ((sortR (l.map rcOf)).map Rc.t)[i],rfl,fun j hj=>?_,repD_enc.2 rfl⟩⟩⟩
   have hi:i<l.length:=Nat.lt_of_lt_of_eq hi lenS
   have hj:j<12:=hj
   have hlt:i*12+j<arr.size:=by rw[q3];have:=Nat.mul_le_mul_right 12 b2;omega
   have hk:i*12+j< (flatK encT 12 d').size:=by rw[size_flatK,hsz'];omega
   show(putCells _root_.id 0 (flatK encT 12 d') arr)[i*12+j]? =_
   unfold putCells
   rw[Array.getElem?_mapIdx,Array.getElem?_eq_getElem hlt]
   simp only[Option.map_some]
   rw[if_pos (by omega),Nat.sub_zero]
   have f:=flat_get d' (i*12+j) (by rw[hsz'];omega)
   rw[show(i*12+j) / 12=i by omega,show(i*12+j) % 12=j by omega,Array.getElem?_eq_getElem hk]at f
   rw[getElem!_pos (flatK encT 12 d') (i*12+j) hk]
   show some (flatK encT 12 d')[i*12+j] =_
   rw[f]
   have:(d'[i]! :RT)=((sortR (l.map rcOf)).map Rc.t)[i] :=by
    have hi':i<d'.size:=by omega
    rw[getElem!_pos d' i hi']
    simp only[←hd',Array.getElem_toList]
   rw[this]
  exact⟨ρ,g1,m2.trans g2,[],rfl,rfl⟩
theorem o_wsort:wSort.ok Tryz.prog:=by
 intro args m t ht
 simp only[wSort]at ht
 split at ht
 ·split at ht
  ·rename_i id
   split at ht
   ·rename_i g first cap
    split at ht
    ·rename_i hb
     rw[Bool.and_eq_true,Bool.and_eq_true]at hb
     have e1:=Nat.eq_of_beq_eq_true hb.1
     have e2:first=[] :=by simpa using hb.2.1
     have e3:cap=[] :=by simpa using hb.2.2
     subst e1 e2 e3
     split at ht
     ·rename_i B hB
      split at ht
      ·rename_i ty l
       split at ht
       ·rename_i hty
        subst hty
        injection ht with ht
        subst ht
        intro h
        rw[Bool.and_eq_true]at h
        exact Mem.set_says fun m' hm'=>sort_sem hB (of_decide_eq_true h.1) (distB_iff.1 h.2) hm'
       ·cases ht
      ·cases ht
     ·cases ht
    ·cases ht
   ·cases ht
  ·cases ht
 ·cases ht
open Go.Sx
def aa0_p:Plan:=.fork (.lit (.lit (.lit .all))) (.lit (.lit (.fork .all .all)))
noncomputable def aa0_t(f:Fl):Tree Stop:= .req (fewP f) (.node (!flB f) (.leaf (.done (.list tyRc []))) (.node (f.dead) (.leaf (.done (.list tyRc []))) (.leaf (.at (loopOf Tryz.prog 191 0) 48 (slotsS 48 [(1,.ptr 0 0),(3,SV.nilS),(16,.list Ty.str f.pages),(17,.int .i64 (↑f.pages.length:Int)),(18,.int .i64 0)]) [some (.cells f.cells)]))))
theorem aa0(f:Fl):segR (Env.of Tryz.prog (sumOf [fFlB])) 1000 (fnOf Tryz.prog 191) tyRc (keepS 48 [1,3,16,17,18]) (codeS Tryz.prog 191) aa0_p (startS Tryz.prog 191 [f.sv]) [] =aa0_t f:=by kernel_rfl
def aa1_p:Plan:=.fork (.fork (.ln 9 (.lit .all)) (.fork (.ln 9 (.fork .all .all)) (.ln 9 (.lit .all)))) .all
noncomputable def aa1_t(f:Fl)(l:List RT)(i:Int):Tree Stop:= .node (decide (i< (↑f.pages.length:Int))) (.req (decide (0≤i)&&decide (i< (↑f.pages.length:Int))) (.req (decide (List.length (f.pages.getD i.toNat ([] :List UInt8))≤100000)) (.node (decide (List.length (f.pages.getD i.toNat ([] :List UInt8))<64)) (.leaf (.at (loopOf Tryz.prog 191 0) 48 (slotsS 48 [(1,.ptr 0 0),(3,SV.row 1),(16,.list Ty.str f.pages),(17,.int .i64 (↑f.pages.length:Int)),(18,.int .i64 (i64.wrap (i+1)))]) [some (.cells f.cells),some (.rows tyRc l)])) (.node (decB (f.pages.getD i.toNat ([] :List UInt8))) (.req (!(↑f.pages.length:Int)==0) (.node ((decR (f.pages.getD i.toNat ([] :List UInt8))).seq.tmod (↑f.pages.length:Int)==i) (.req (decide ((l.length+ [(decR (f.pages.getD i.toNat ([] :List UInt8))).t].length)*96≤140737488355328)) (.leaf (.at (loopOf Tryz.prog 191 0) 48 (slotsS 48 [(1,.ptr 0 0),(3,SV.row 1),(16,.list Ty.str f.pages),(17,.int .i64 (↑f.pages.length:Int)),(18,.int .i64 (i64.wrap (i+1)))]) [some (.cells f.cells),some (.rows tyRc (l++[(decR (f.pages.getD i.toNat ([] :List UInt8))).t]))]))) (.leaf (.at (loopOf Tryz.prog 191 0) 48 (slotsS 48 [(1,.ptr 0 0),(3,SV.row 1),(16,.list Ty.str f.pages),(17,.int .i64 (↑f.pages.length:Int)),(18,.int .i64 (i64.wrap (i+1)))]) [some (.cells f.cells),some (.rows tyRc l)])))) (.leaf (.at (loopOf Tryz.prog 191 0) 48 (slotsS 48 [(1,.ptr 0 0),(3,SV.row 1),(16,.list Ty.str f.pages),(17,.int .i64 (↑f.pages.length:Int)),(18,.int .i64 (i64.wrap (i+1)))]) [some (.cells f.cells),some (.rows tyRc l)])))))) (.req (decide (l.length≤1000)&&distB (List.map rcOf l)) (.leaf (.done (.list tyRc (List.map Rc.t (sortR (List.map rcOf l)))))))
theorem aa1(f:Fl)(l:List RT)(i:Int):segR (Env.ofW Tryz.prog (sumOf [fDec]) (wrOf [wSort])) 1000 (fnOf Tryz.prog 191) tyRc (keepS 48 [1,3,16,17,18]) (loopOf Tryz.prog 191 0) aa1_p (slotsS 48 [(1,.ptr 0 0),(3,.row 1),(16,.list .str f.pages),(17,I64 f.pages.length),(18,I64 i)]) [some (.cells f.cells),some (.rows tyRc l)] =aa1_t f l i:=by kernel_rfl
open Go.Sx
theorem kFlB:Known Tryz.prog (Env.of Tryz.prog (sumOf [fFlB])):=kW (l:=[fFlB]) ⟨o_flB,trivial⟩
theorem kAll:Known Tryz.prog (Env.ofW Tryz.prog (sumOf [fDec]) (wrOf [wSort])):=known_ofW mix (l:=[fDec]) (k:=[wSort]) (by intro x hx;rcases List.mem_cons.1 hx with rfl|hx;exact o_dec;cases hx) (by intro x hx;rcases List.mem_cons.1 hx with rfl|hx;exact o_wsort;cases hx)
abbrev slP(f:Fl)(i:Int):List SV:=slotsS 48 [(1,.ptr 0 0),(3,.row 1),(16,.list .str f.pages),(17,I64 f.pages.length),(18,I64 i)]
abbrev bxP(f:Fl)(l:List Rc):List (Option Box):=[some (.cells f.cells),some (.rows tyRc (l.map Rc.t))]
theorem aa_loop(f:Fl)(hl:f.pages.length≤1000)(hp:∀p∈f.pages,p.length=64)(R:List Rc)(hR:distinct R):∀ (k i:Nat) (acc:List Rc),i+k=f.pages.length→acc.length≤i→R=acc++recsFrom f.pages.length i (f.pages.drop i)→
  RunsR Tryz.prog (fnOf Tryz.prog 191) (LR (sortR R)) (loopOf Tryz.prog 191 0) (slP f i) (bxP f acc)
 |k,i,acc,hi,hn,hL=>by
  have w1:i64.wrap ((i:Int)+1)=(i:Int)+1:=w64 (by omega) (by omega)
  have t0:(i:Int).toNat=i:=by omega
  refine runsR_seg kAll (n:=1000) (hint:=tyRc) (keep:=keepS 48 [1,3,16,17,18]) (p:=aa1_p) rfl ?_
  erw [aa1 f (acc.map Rc.t) i]
  unfold aa1_t
  rw[w1,t0]
  match k,hi with
  |0,hi=>
   refine n_dec (fun a=>absurd a (by omega)) fun _=>?_
   have z:f.pages.drop i=[] :=List.drop_eq_nil_of_le (by omega)
   rw[z,show recsFrom f.pages.length i [] =[]from rfl,List.append_nil]at hL
   subst hL
   rw[rcs_t,List.length_map]
   exact n_req (by rw[Bool.and_eq_true];exact⟨decide_eq_true (by omega),distB_iff.2 hR⟩) rfl
  |k+1,hi=>
   have hip:i<f.pages.length:=by omega
   have p64:(f.pages.getD i ([] :List UInt8)).length=64:=by
    rw[List.getD_eq_getElem?_getD,List.getElem?_eq_getElem hip];exact hp _ (List.getElem_mem hip)
   rw[drop_getD (d:=([] :List UInt8)) hip,recs_cons]at hL
   have nx:((i:Int)+1)=((i+1:Nat):Int):=by omega
   have skip:recAt f.pages.length i (f.pages.getD i ([] :List UInt8))=none→RunsR Tryz.prog (fnOf Tryz.prog 191) (LR (sortR R)) (loopOf Tryz.prog 191 0) (slP f ((i:Int)+1)) (bxP f acc):=fun e=>by
    rw[e]at hL
    rw[nx]
    exact aa_loop f hl hp R hR k (i+1) acc (by omega) (by omega) hL
   have nz:(!(((f.pages.length:Nat):Int)==0))=true:=by
    rw[Bool.not_eq_true',beq_eq_false_iff_ne];omega
   refine n_dec (fun _=>n_req (by simp;omega) (n_req (decide_eq_true (by rw[p64];omega)) (n_dec (fun c=>absurd c (by rw[p64];omega)) fun _=>n_bool (fun b=>n_req nz (n_eq (fun c=>n_req (decide_eq_true ?_) ?_) fun c=>?_)) fun b=>?_))) fun a=>absurd (by omega) a
   ·rw[List.length_map]
    show(acc.length+1)*96≤_
    omega
   ·have e:recAt f.pages.length i (f.pages.getD i ([] :List UInt8))=some (decR (f.pages.getD i ([] :List UInt8))):=recAt_iff.2 ⟨b,c,rfl⟩
    rw[e]at hL
    have el:(acc.map Rc.t)++[(decR (f.pages.getD i ([] :List UInt8))).t] =(acc++[decR (f.pages.getD i ([] :List UInt8))]).map Rc.t:=by rw[List.map_append];rfl
    rw[el,nx]
    refine⟨slotsS_len _ _,?_⟩
    refine aa_loop f hl hp R hR k (i+1) (acc++[decR (f.pages.getD i ([] :List UInt8))]) (by omega) (by rw[List.length_append];show acc.length+1≤_;omega) ?_
    rw[hL,List.append_assoc];rfl
   ·refine⟨slotsS_len _ _,skip ?_⟩
    cases e:recAt f.pages.length i (f.pages.getD i ([] :List UInt8))with
    |none=>rfl
    |some r=>exact absurd (recAt_iff.1 e).2.1 c
   ·refine⟨slotsS_len _ _,skip ?_⟩
    cases e:recAt f.pages.length i (f.pages.getD i ([] :List UInt8))with
    |none=>rfl
    |some r=>have:=(recAt_iff.1 e).1;rw[this]at b;cases b
theorem s_all(f:Fl)(h:fewP f=true):SCall Tryz.prog 191 [f.sv] (LR (allL f)):=by
 have hl:f.pages.length≤1000:=of_decide_eq_true h
 refine scallR_loops rfl rfl (by kernel_rfl) (runsR_seg kFlB (n:=1000) (hint:=tyRc) (keep:=keepS 48 [1,3,16,17,18]) (p:=aa0_p) (boxes:=[]) rfl ?_)
 have q:=aa0 f
 unfold startS codeS at q
 erw [q]
 unfold aa0_t
 refine n_req h (n_not (fun b=>?_) fun b=>n_bool (fun d=>?_) fun d=>⟨slotsS_len _ _,?_⟩)
 ·have:allL f=[] :=by unfold allL;rw[b];rfl
  rw[this];rfl
 ·have:allL f=[] :=by unfold allL;rw[b,d];rfl
  rw[this];rfl
 ·have e:allL f=sortR (recsFrom f.pages.length 0 f.pages):=by unfold allL;rw[b,d];rfl
  rw[e]
  have r:=aa_loop f hl (flB_iff.1 b).1 (recsFrom f.pages.length 0 f.pages) recs_distinct f.pages.length 0 [] (by omega) (Nat.le_refl _) rfl
  exact runsR_weak true [] (slots':=slP f 0) (boxes':=bxP f []) (slotsS_wk ⟨rfl,.same _,rfl,.nil rfl,rfl,.same _,rfl,.same _,rfl,.same _,trivial⟩) ⟨by simp,.same _,trivial⟩ r
def fAll:Fact:=factFl 191 fun f=>.req (fewP f) (.leaf (LR (allL f)))
theorem o_all:fAll.ok Tryz.prog:=factFl_ok fun f h=>s_all f h
open Go.Sx
theorem s_last(f:Fl)(h:fewP f=true):SCall Tryz.prog 103 [f.sv] (lastV f):=
 scall_v mix [fAll] ⟨o_all,trivial⟩ 1000 (.fork (.all) (.all))
  (t:=let y1:=(↑(List.map Rc.t (allL f)).length:Int);let y0:=(List.map Rc.t (allL f)).getD (i64.wrap (y1-1)).toNat rcZ.t;.req (fewP f) (.node (y1==0) (.leaf (.tuple [.agg [.int .i64 0,.int .i64 0,.int .i64 0,.int .i64 0,.int .i64 0,.int .i64 0,.int .i64 0,.int .i64 0,.int .i64 0,.int .i64 0,.int .i64 0,.int .i64 0],.bool false])) (.req (decide (0≤i64.wrap (y1-1))&&decide (i64.wrap (y1-1)<y1)) (.leaf (.tuple [.agg [.int .i64 y0.1,.int .i64 y0.2.1,.int .i64 y0.2.2.1,.int .i64 y0.2.2.2.1,.int .i64 y0.2.2.2.2.1.1,.int .i64 y0.2.2.2.2.1.2.1,.int .i64 y0.2.2.2.2.1.2.2.1,.int .i64 y0.2.2.2.2.1.2.2.2,.int .i64 y0.2.2.2.2.2.1,.int .i64 y0.2.2.2.2.2.2.1,.int .i64 y0.2.2.2.2.2.2.2.1,.int .i64 y0.2.2.2.2.2.2.2.2],.bool true])))))
  (by kernel_rfl) (by
   refine n_req h (n_eq (fun e=>?_) fun e=>?_)
   ·have e:allL f=[] :=by
     rw[List.length_map]at e
     exact List.eq_nil_of_length_eq_zero (by omega)
    rw[lastV_none e];rfl
   ·have hl:f.pages.length≤1000:=of_decide_eq_true h
    have len:=allL_len f
    rw[List.length_map]at e ⊢
    have w:i64.wrap (((allL f).length:Int)-1)=((allL f).length:Int)-1:=w64 (by omega) (by omega)
    rw[w]
    obtain⟨A,x,hA⟩:∃A x,allL f=A++[x] :=⟨(allL f).dropLast,(allL f).getLast (by intro k;rw[k]at e;exact e rfl),(List.dropLast_concat_getLast _).symm⟩
    have g:((allL f).map Rc.t).getD (((allL f).length:Int)-1).toNat rcZ.t=x.t:=by
     rw[map_getD (by omega),hA]
     have:((((A++[x]).length:Nat):Int)-1).toNat=A.length:=by simp
     rw[this,List.getD_eq_getElem?_getD,List.getElem?_append_right (Nat.le_refl _)];simp
    rw[g,lastV_some hA]
    exact n_req (by simp;omega) rfl) (by kernel_rfl) (by kernel_rfl)
theorem o_last:fLast.ok Tryz.prog:=factFl_ok fun f h=>s_last f h
open Go.Sx
open Go.Sx
def begR(f:Fw):Rc:=match headZ f.lines with
 |true=>⟨1,0,openV f,0,f.ret,f.ret⟩
 |false=>⟨1,0,openV f,0,f.pos,wadd4 f.pos (f.queue.getD 0 dBk).1⟩
def failR(f:Fw):Rc:=match returnsB f with
 |true=>⟨3,0,openV f-1,0,f.pos,(f.ret.1,f.ret.2.1,f.ret.2.2.1,f.pos.2.2.2)⟩
 |false=>match f.moving with
  |true=>⟨2,0,f.active,f.mo.2.1,f.pos,wadd4 (wsub4 f.pos (madeM f.mo)) f.mo.1.1⟩
  |false=>⟨2,0,openV f-1,0,f.pos,f.pos⟩
def backV(f:Fw)(line:Int):V4:=if line=0∧f.homed=true then f.pos else if f.back=true then(f.ret.1,f.ret.2.1,f.ret.2.2.1,f.pos.2.2.2)else(0,0,0,f.pos.2.2.2)
open Go.Sx
def nearR(r:Rc):Bool:=near4 r.src&& (near4 r.dst&&near4 (wsub4 r.dst r.src))
def rLost(f:Fw)(r:Rc):Fw:={f with line:=if r.line-1>0 then r.line-1 else 0,pos:=r.src,e:=unitsN f.ma.e r.src.2.2.2,back:=true,ret:=r.src}
def rResu(f:Fw)(r:Rc):Fw:={f with homed:=true,pos:=r.src,loc:=posL f.ma r.dst,e:=(posV f.ma r.dst).2.2.2,line:=r.line}
def rRet(f:Fw)(r:Rc):Fw:={rResu f r with ret:=r.dst}
def rsF(f:Fw)(r:Rc):Fw:=if r.kind=3 then retF (rRet f r) (wsub4 r.dst r.src)else if r.src=r.dst then rResu f r else addF (rResu f r) (wsub4 r.dst r.src) 0 r.line
def rgE(r:Rc):Int:=if nearR r=true then 0 else 19
def rgF(f:Fw)(r:Rc):Fw:=if r.kind=1 then rLost f r else rsF f r
def rvB(f:Fw)(l:Fl):Bool:=validF f&& (idleB f&& (flB l&&!f.homed))
def rvE(f:Fw)(l:Fl):Int:=if rvB f l=false then 1 else if l.dead=true then 17 else match lastO l with
 |none=>0
 |some r=>rgE r
def rvF(f:Fw)(l:Fl):Fw:=match lastO l with
 |none=>f
 |some r=>rgF f r
def rvS(f:Fw)(l:Fl):SV:=if rvE f l=0 then .tuple [(rvF f l).sv,I64 0]else .tuple [.agg (nilC fw0),I64 (rvE f l)]
theorem add_ok0{f:Fw}{c:V4}{len:Int}(h:addPre f c len=true)(e:entryV f=0):addOk f c len=true:=by
 have p:=add_plOk h
 have ql:=addQ_len f c len
 rw[addOk_iff,e]
 rw[e]at p
 have g:=gL_rng p (i:=0) (Nat.zero_le _)
 have k:gL (addQ f c len) (capsV f.ma (addQ f c len)) 0 0≤0:=by
  rw[gL_step (by omega)]
  exact Int.le_trans (Int.min_le_left _ _) (Int.le_refl _)
 exact⟨(p.crR 0).1,by omega⟩
theorem resu_pre{f g:Fw}(v:VF f)(hi:idleB f=true)(e1:g.ma=f.ma)(e2:g.feed=f.feed)(e3:g.queue=f.queue)(e4:g.lines=f.lines)(e5:g.moving=f.moving){c:V4}(hn:near4 c=true)(hz:nz4 c=true):addPre g c 0=true∧entryV g=0:=by
 obtain⟨i1,i2,i3⟩:=idleB_iff.1 hi
 have n:=v.nums
 have en:entryV g=0:=by
  unfold entryV
  rw[if_neg (show ¬g.moving=true by rw[e5,i1];exact Bool.false_ne_true),if_pos (show g.queue.length=0 by rw[e3];exact i2)]
 exact⟨addPre_iff.2 ⟨by rw[e1];exact okL_of v.ma hn hz,by decide,by rw[e2];exact ok63_iff.2 (by omega),by rw[e3];exact v.sound,by rw[e3,e4];exact v.lens,by rw[e3];omega,by omega,by omega⟩,en⟩
theorem retC_near{d:V4}(h:near4 d=true):near4 (retC d)=true:=by have:=near4_iff.1 h;exact near4_iff.2 (by unfold retC;dsimp only;omega)
theorem retD_near{d:V4}(h:near4 d=true):near4 (retD d)=true:=by have:=near4_iff.1 h;exact near4_iff.2 (by unfold retD;dsimp only;omega)
theorem ret_pre{f g:Fw}(v:VF f)(hi:idleB f=true)(e1:g.ma=f.ma)(e2:g.feed=f.feed)(e3:g.queue=f.queue)(e4:g.lines=f.lines)(e5:g.moving=f.moving){d:V4}(hn:near4 d=true):
  retPre g d=true∧entryV g=0∧entryV (backF g (retC d))=0∧retOk g d=true:=by
 obtain⟨i1,i2,i3⟩:=idleB_iff.1 hi
 have en:entryV g=0:=by
  unfold entryV
  rw[if_neg (show ¬g.moving=true by rw[e5,i1];exact Bool.false_ne_true),if_pos (show g.queue.length=0 by rw[e3];exact i2)]
 have p1:nz4 (retC d)=true→addPre g (retC d) 0=true:=fun z=>(resu_pre v hi e1 e2 e3 e4 e5 (retC_near hn) z).1
 have o1:backOk g (retC d)=true:=by
  cases z:nz4 (retC d)with
  |false=>exact backOk_no z
  |true=>rw[backOk_yes z];exact add_ok0 (p1 z) en
 have en2:entryV (backF g (retC d))=0:=by
  cases z:nz4 (retC d)with
  |false=>rw[backF_no z];exact en
  |true=>
   rw[backF_yes z,addF_entry (by rw[←backOk_yes z];exact o1)];exact en
 have p2:nz4 (retD d)=true→addPre (backF g (retC d)) (retD d) 0=true:=fun y=>by
  cases z:nz4 (retC d)with
  |false=>rw[backF_no z];exact(resu_pre v hi e1 e2 e3 e4 e5 (retD_near hn) y).1
  |true=>
   rw[backF_yes z]
   exact addF_pre (p1 z) (by rw[←backOk_yes z];exact o1) (by rw[e1];exact okL_of v.ma (retD_near hn) y) (by decide) (by rw[e3];omega)
 have o2:backOk (backF g (retC d)) (retD d)=true:=by
  cases y:nz4 (retD d)with
  |false=>exact backOk_no y
  |true=>rw[backOk_yes y];exact add_ok0 (p2 y) en2
 exact⟨retPre_iff.2 ⟨p1,fun _=>p2⟩,en,en2,by unfold retOk;rw[o1,o2];rfl⟩
open Go.Sx
section
variable {f:Fw} {r s line:Int} {c:Gc.C}
end
section
variable {kd:Int} {nb:Bool} {c:Gc.C} {n r s:Int}
end
open Go.Sx
open Go.Sx
section
variable {f:Fw} {line:Int} {c:Gc.C}
end
open Go.Sx
section
variable {f:Fw}
structure Rec (r:Rc) (real:V4):Prop where
 near:nearR r=true
 kd:1≤r.kind∧r.kind≤3
 ln:0≤r.line∧r.line≤1099511627776
 real:¬r.kind=1→r.src=real
 blk:r.kind=2→¬r.src=r.dst→1≤r.line
end
open Go.Sx
open Go.Sx
section
variable {f g:Fw} {r s:Int}
end
open Go.Sx
def failL(f:Fw)(l:Fl):Fl:=match validF f&&f.homed with
 |true=>recF l (failR f)
 |false=>l
def hmR1(f:Fw)(n:Int):Rc:=⟨1,0,f.line+1,0,backV f n,backV f n⟩
def hmR2(f:Fw)(n:Int)(c:Gc.C):Rc:=⟨3,0,(accF f n c).line,0,(accF f n c).pos,backV f n⟩
def axE(f:Fw)(l:Fl)(n:Int)(c:Gc.C):Int:=if accE f n c=0 then(if c.code=28 then(if recE l (hmR1 f n)=0∧recE (recF l (hmR1 f n)) (hmR2 f n c)=0 then 0 else 17)else 0)else accE f n c
def axL(f:Fw)(l:Fl)(n:Int)(c:Gc.C):Fl:=if accE f n c=0∧c.code=28 then(if recE l (hmR1 f n)=0 then recF (recF l (hmR1 f n)) (hmR2 f n c)else recF l (hmR1 f n))else l
def axF(f:Fw)(l:Fl)(n:Int)(c:Gc.C):Fw:=if axE f l n c=0 then accF f n c else f
def axH(f:Fw)(l:Fl)(n:Int)(c:Gc.C):Bool:=decide (accE f n c=0)&& (decide (c.code=28)&&decide (recE l (hmR1 f n)=0))
def axV(f:Fw)(l:Fl)(n:Int)(c:Gc.C):SV:=.tuple [(axF f l n c).sv,(axL f l n c).sv,.bool (axH f l n c),I64 (axE f l n c)]
open Go.Sx
open Go.Sx
def newW(f:Fw)(c:V4):Bk:=(c,accV f.ma c,0,i64.wrap (spdV f.ma c 0 f.feed*spdV f.ma c 0 f.feed),0)
def pd0_p:Plan:=.fork (.lit (.all)) (.all)
noncomputable def pd0_t(f:Fw)(c:V4)(line:Int):Tree Stop:= .req (ok63 f.feed) (.node (f.queue.isEmpty) (.req (decide ((0+ [newW f c].length)*64≤140737488355328)) (.req (decide (0≤(↑[newW f c].length:Int))&& (↑[newW f c].length:Int)==(↑[newW f c].length:Int)&&decide (8*(↑[newW f c].length:Int)≤140737488355328)&&decide ((↑[newW f c].length:Int)≤(9223372036854775807:Int))) (.leaf (.at (loopOf Tryz.prog 195 0) 85 (slotsS 85 [(2,.int .i64 line),(3,.ptr 0 0),(6,.ptr 1 0),(9,SV.row 2),(10,SV.row 3),(11,.int .i64 1)]) [some (.cells (Fw.cells f)),some (.cells (nilC fw0)),some (.rows tyBk [newW f c]),some (.rows (Ty.int IntKind.i64) (List.replicate (↑[newW f c].length:Int).toNat (0:Int)))])))) (.req (decide ((0+f.queue.length)*64≤140737488355328)) (.req (decide ((f.queue.length+ [newW f c].length)*64≤140737488355328)) (.req (decide (0≤(↑(f.queue++[newW f c]).length:Int))&& (↑(f.queue++[newW f c]).length:Int)==(↑(f.queue++[newW f c]).length:Int)&&decide (8*(↑(f.queue++[newW f c]).length:Int)≤140737488355328)&&decide ((↑(f.queue++[newW f c]).length:Int)≤(9223372036854775807:Int))) (.leaf (.at (loopOf Tryz.prog 195 0) 85 (slotsS 85 [(2,.int .i64 line),(3,.ptr 0 0),(6,.ptr 1 0),(9,SV.row 2),(10,SV.row 3),(11,.int .i64 1)]) [some (.cells (Fw.cells f)),some (.cells (nilC fw0)),some (.rows tyBk (f.queue++[newW f c])),some (.rows (Ty.int IntKind.i64) (List.replicate (↑(f.queue++[newW f c]).length:Int).toNat (0:Int)))]))))))
theorem pd0(f:Fw)(c:V4)(line:Int):segR (Env.ofB Tryz.prog (sumOf [fSpd,fAcc,fJun]) (wrOf [fPla.frz]) (pnOf []) (bxOf []) (rdOf []) (rdOf []) (rdOf []) (rdOf [])) 1000 (fnOf Tryz.prog 195) .unit (keepS 85 [2,3,6,9,10,11]) (codeS Tryz.prog 195) pd0_p (startS Tryz.prog 195 [f.sv,V4.sv c,I64 line]) [] =pd0_t f c line:=by kernel_rfl
def pd1_p:Plan:=.fork (.all) (.fork (.fork (.lit (.fork (.lit (.all)) (.all))) (.lit (.all))) (.lit (.all)))
noncomputable def pd1_t(f:Fw)(line:Int)(q:List Bk)(s:List Int)(i:Int):Tree Stop:= .node (decide (i< (↑q.length:Int))) (.req (decide (0≤i64.wrap (i-1))&&decide (i64.wrap (i-1)< (↑q.length:Int))) (.req (decide ((i64.wrap (i-1)).toNat<q.length)) (.req (decide (0≤i)&&decide (i< (↑q.length:Int))) (.req (decide (i.toNat<q.length)) (.req (decide (0≤i)&&decide (i< (↑s.length:Int))) (.req (decide (i.toNat<s.length)) (.leaf (.at (loopOf Tryz.prog 195 0) 85 (slotsS 85 [(2,.int .i64 line),(3,.ptr 0 0),(6,.ptr 1 0),(9,SV.row 2),(10,SV.row 3),(11,.int .i64 (i64.wrap (i+1)))]) [some (.cells (Fw.cells f)),some (.cells (nilC fw0)),some (.rows tyBk q),some (.rows (Ty.int IntKind.i64) (s.set i.toNat (i64.wrap (junV f.ma (q.getD (i64.wrap (i-1)).toNat dBk).1 (q.getD i.toNat dBk).1*junV f.ma (q.getD (i64.wrap (i-1)).toNat dBk).1 (q.getD i.toNat dBk).1))))])))))))) (.req (okPl q s 0) (.node (decide (0≤crL q 0)) (.node (decide (gL q s 0 0=0)) (.node (f.lines.isEmpty) (.req (decide ((0+ [line].length)*8≤140737488355328)) (.leaf (.done (.tuple [.agg (Fw.cells {f with queue:=(plB q (gL q s 0)),lines:=[line]}),.int .i64 0])))) (.req (decide ((0+f.lines.length)*8≤140737488355328)) (.req (decide ((f.lines.length+ [line].length)*8≤140737488355328)) (.leaf (.done (.tuple [.agg (Fw.cells {f with queue:=(plB q (gL q s 0)),lines:=(f.lines++[line])}),.int .i64 0])))))) (.leaf (.done (.tuple [.agg (nilC fw0),.int .i64 2])))) (.leaf (.done (.tuple [.agg (nilC fw0),.int .i64 2])))))
theorem pd1(f:Fw)(line:Int)(q:List Bk)(s:List Int)(i:Int):segR (Env.ofB Tryz.prog (sumOf [fSpd,fAcc,fJun]) (wrOf [fPla.frz]) (pnOf []) (bxOf []) (rdOf []) (rdOf []) (rdOf []) (rdOf [])) 1000 (fnOf Tryz.prog 195) .unit (keepS 85 [2,3,6,9,10,11]) (loopOf Tryz.prog 195 0) pd1_p (slotsS 85 [(2,I64 line),(3,.ptr 0 0),(6,.ptr 1 0),(9,.row 2),(10,.row 3),(11,I64 i)]) [some (.cells f.cells),some (.cells (nilC fw0)),some (.rows tyBk q),some (.rows (.int .i64) s)] =pd1_t f line q s i:=by kernel_rfl
open Go.Sx
def paddS(f:Fw)(c:V4)(line:Int):SV:=.tuple [(addF f c 0 line).sv,I64 0]
theorem kPA:Known Tryz.prog (Env.ofB Tryz.prog (sumOf [fSpd,fAcc,fJun]) (wrOf [fPla.frz]) (pnOf []) (bxOf []) (rdOf []) (rdOf []) (rdOf []) (rdOf [])):=
 hB (l:=[fSpd,fAcc,fJun]) (k:=[fPla.frz]) (j:=[]) (i:=[]) [] [] [] [] ⟨o_spd,o_acc,o_jun,trivial⟩ wrA noneOk noneOk
theorem pd1_loop{f:Fw}{c:V4}(line:Int)(h:addPre f c 0=true)(en:entryV f=0):∀ (k i:Nat) (s:List Int),i+k=f.queue.length+1→1≤i→s.length=f.queue.length+1→(∀t,t<i→s.getD t 0=capJ f.ma (addQ f c 0) t)→
  RunsR Tryz.prog (fnOf Tryz.prog 195) (paddS f c line) (loopOf Tryz.prog 195 0) (slotsS 85 [(2,I64 line),(3,.ptr 0 0),(6,.ptr 1 0),(9,.row 2),(10,.row 3),(11,I64 i)]) [some (.cells f.cells),some (.cells (nilC fw0)),some (.rows tyBk (addQ f c 0)),some (.rows (.int .i64) s)]
 |k,i,s,hi,h1,hs,hc=>by
  have p:=addPre_iff.1 h
  have pl:=add_okPl h
  have ok:=addOk_iff.1 (add_ok0 h en)
  rw[en]at pl ok
  have ql:=addQ_len f c 0
  refine runsR_seg kPA (n:=1000) (hint:=.unit) (keep:=keepS 85 [2,3,6,9,10,11]) (p:=pd1_p) rfl ?_
  erw [pd1 f line (addQ f c 0) s i]
  unfold pd1_t
  have t0:(i:Int).toNat=i:=by omega
  have wm:i64.wrap ((i:Int)-1)=((i-1:Nat):Int):=by rw[w64 (by omega) (by omega)];omega
  have tm:((i-1:Nat):Int).toNat=i-1:=by omega
  have w1:i64.wrap ((i:Int)+1)=((i+1:Nat):Int):=by rw[w64 (by omega) (by omega)];omega
  have jr:=junV_rng f.ma ((addQ f c 0).getD (i-1) dBk).1 ((addQ f c 0).getD i dBk).1
  have an:∀{a b:Bool},a=true→b=true→(a&&b)=true:=fun ha hb=>by rw[ha,hb];rfl
  match k,hi with
  |k+1,hi=>
   have ih:=pd1_loop line h en k (i+1) (s.set i (capJ f.ma (addQ f c 0) i)) (by omega) (by omega) (by simpa using hs) (fun t ht=>by
    rw[set_getD (by omega)]
    split
    ·rename_i e;rw[e]
    ·exact hc t (by omega))
   rw[capJ_succ f.ma (addQ f c 0) h1]at ih
   rw[wm,tm,t0,wsq jr,w1]
   exact n_dec (fun _=>n_req (an (decide_eq_true (by omega)) (decide_eq_true (by omega))) (n_req (decide_eq_true (by omega)) (n_req (an (decide_eq_true (by omega)) (decide_eq_true (by omega))) (n_req (decide_eq_true (by omega)) (n_req (an (decide_eq_true (by omega)) (decide_eq_true (by omega))) (n_req (decide_eq_true (by omega)) ⟨slotsS_len _ _,ih⟩)))))) fun a=>absurd (by omega) a
  |0,hi=>
   have es:s=capsV f.ma (addQ f c 0):=caps_list (by omega) fun t ht=>hc t (by omega)
   subst es
   have fin:SV.tuple [SV.agg (Fw.cells {f with queue:=plB (addQ f c 0) (gL (addQ f c 0) (capsV f.ma (addQ f c 0)) 0),lines:=f.lines++[line]}),SV.int IntKind.i64 0] =paddS f c line:=by
    unfold paddS addF;rw[en];rfl
   refine n_dec (fun a=>absurd a (by omega)) fun _=>n_req pl (n_dec (fun _=>n_dec (fun _=>n_bool (fun e=>n_req rfl ?_) fun e=>n_req (decide_eq_true (by omega)) (n_req (decide_eq_true (by simp;omega)) fin)) fun a=>absurd ok.2 a) fun a=>absurd ok.1 a)
   have e0:f.lines=[] :=by simpa using e
   rw[e0]at fin;exact fin
theorem s_padd(f:Fw)(c:V4)(line:Int)(h:addPre f c 0=true)(en:entryV f=0):SCall Tryz.prog 195 [f.sv,V4.sv c,I64 line] (paddS f c line):=by
 have p:=addPre_iff.1 h
 have ql:=addQ_len f c 0
 have sr:=spdV_rng p.1 (l:=0) (f:=f.feed) (ok63_iff.1 p.2.1).2 (ok63_iff.1 p.2.2.1).2
 have w:=wsq (v:=spdV f.ma c 0 f.feed) (by omega)
 have nw:newW f c=newB f.ma c 0 f.feed:=by unfold newW newB;rw[w]
 refine scallR_loops rfl rfl (by kernel_rfl) (runsR_seg kPA (n:=1000) (hint:=.unit) (keep:=keepS 85 [2,3,6,9,10,11]) (p:=pd0_p) (boxes:=[]) rfl ?_)
 have q:=pd0 f c line
 unfold startS codeS at q
 erw [q]
 unfold pd0_t
 rw[nw]
 have an:∀{a b:Bool},a=true→b=true→(a&&b)=true:=fun ha hb=>by rw[ha,hb];rfl
 have lp:=pd1_loop line h en f.queue.length 1 (List.replicate (addQ f c 0).length 0) (by omega) (by omega) (by simp[ql]) (fun t ht=>by
  have:t=0:=by omega
  subst this
  rw[ql];rfl)
 refine n_req p.2.2.1 (n_bool (fun e=>?_) fun e=>?_)
 ·have e0:f.queue=[] :=by simpa using e
  have aq:addQ f c 0=[newB f.ma c 0 f.feed] :=by unfold addQ;rw[e0];rfl
  rw[aq]at lp
  exact n_req rfl (n_req rfl ⟨slotsS_len _ _,lp⟩)
 ·have aq:f.queue++[newB f.ma c 0 f.feed] =addQ f c 0:=rfl
  rw[aq]
  have tn:((addQ f c 0).length:Int).toNat=(addQ f c 0).length:=by omega
  rw[tn]
  exact n_req (decide_eq_true (by omega)) (n_req (decide_eq_true (by simp;omega)) (n_req (an (an (an (decide_eq_true (by omega)) (beq_self_eq_true _)) (decide_eq_true (by omega))) (decide_eq_true (by omega))) ⟨slotsS_len _ _,lp⟩))
open Go.Sx
def hwPre(f:Fw)(p:V4):Bool:=retPre f (wsub4 p f.pos)&& (decide (entryV f=0)&& (decide (entryV (backF f (retC (wsub4 p f.pos)))=0)&&retOk f (wsub4 p f.pos)))
theorem hwPre_iff{f:Fw}{p:V4}:hwPre f p=true↔retPre f (wsub4 p f.pos)=true∧entryV f=0∧entryV (backF f (retC (wsub4 p f.pos)))=0∧retOk f (wsub4 p f.pos)=true:=by simp only[hwPre,Bool.and_eq_true,decide_eq_true_eq]
def loPre(f:Fw)(r:Rc):Bool:=f.ma.ok&& (near4 r.src&&inR r.line 0 1099511627776)
def rePre(f:Fw)(r:Rc):Bool:=validF f&& (idleB f&&nearR r)
def paPre(f:Fw)(c:V4):Bool:=addPre f c 0&&decide (entryV f=0)
theorem paPre_iff{f:Fw}{c:V4}:paPre f c=true↔addPre f c 0=true∧entryV f=0:=by simp only[paPre,Bool.and_eq_true,decide_eq_true_eq]
def fPAdd:Fact:=factFw 195 fun f rest=>match rest with
 |[.agg [.int .i64 a,.int .i64 b,.int .i64 c,.int .i64 d],.int .i64 line] =>some (.req (paPre f (a,b,c,d)) (.leaf (.tuple [(addF f (a,b,c,d) 0 line).sv,I64 0])))
 |_=>none
theorem o_pAdd:fPAdd.ok Tryz.prog:=factFw_ok fun f rest t ht=>by
 split at ht
 ·injection ht with ht;subst ht;exact fun h=>s_padd f (_,_,_,_) _ (paPre_iff.1 h).1 (paPre_iff.1 h).2
 ·cases ht
theorem loPre_iff{f:Fw}{r:Rc}:loPre f r=true↔f.ma.ok=true∧near4 r.src=true∧0≤r.line∧r.line≤1099511627776:=by simp only[loPre,Bool.and_eq_true,inR_iff]
theorem rePre_iff{f:Fw}{r:Rc}:rePre f r=true↔validF f=true∧idleB f=true∧nearR r=true:=by simp only[rePre,Bool.and_eq_true]
theorem nearQ_iff{r:Rc}:nearR r=true↔near4 r.src=true∧near4 r.dst=true∧near4 (wsub4 r.dst r.src)=true:=by simp only[nearR,Bool.and_eq_true]
theorem v4eq_of{a b:V4}(h:(a.1==b.1&& (a.2.1==b.2.1&& (a.2.2.1==b.2.2.1&& (a.2.2.2==b.2.2.2&&true))))=true):a=b:=by
 simp only[Bool.and_eq_true,beq_iff_eq]at h
 obtain⟨a1,a2,a3,a4⟩:=a
 obtain⟨b1,b2,b3,b4⟩:=b
 simp only[Prod.mk.injEq]
 exact⟨h.1,h.2.1,h.2.2.1,h.2.2.2.1⟩
theorem wsub_nz{a b:V4}(ha:near4 a=true)(hb:near4 b=true)(ne:¬a=b):nz4 (wsub4 b a)=true:=by
 rw[wsub4_eq (near_big hb) (near_big ha),nz4_iff]
 unfold sub4
 intro h
 refine ne ?_
 obtain⟨a1,a2,a3,a4⟩:=a
 obtain⟨b1,b2,b3,b4⟩:=b
 dsimp only at h
 simp only[Prod.mk.injEq];omega
theorem rv_1{f:Fw}{l:Fl}(b:rvB f l=false):SV.tuple [SV.agg (nilC fw0),SV.int IntKind.i64 1] =rvS f l:=by
 have e:rvE f l=1:=if_pos b
 unfold rvS;rw[e];rfl
theorem rv_17{f:Fw}{l:Fl}(b:rvB f l=true)(d:l.dead=true):SV.tuple [SV.agg (nilC fw0),SV.int IntKind.i64 17] =rvS f l:=by
 have e:rvE f l=17:=by unfold rvE;rw[b,d];rfl
 unfold rvS;rw[e];rfl
theorem rv_none{f:Fw}{l:Fl}(b:rvB f l=true)(d:l.dead=false)(o:(lastO l).isSome=false):SV.tuple [SV.agg f.cells,SV.int IntKind.i64 0] =rvS f l:=by
 have n:lastO l=none:=by simpa using o
 have e:rvE f l=0:=by unfold rvE;rw[b,d,n];rfl
 have g:rvF f l=f:=by unfold rvF;rw[n]
 unfold rvS;rw[e,g];rfl
theorem last_some{l:Fl}(o:(lastO l).isSome=true):lastO l=some (lastR l):=by
 unfold lastR
 cases q:lastO l with
 |none=>rw[q]at o;cases o
 |some r=>rfl
theorem rv_19{f:Fw}{l:Fl}(b:rvB f l=true)(d:l.dead=false)(o:(lastO l).isSome=true)(n:nearR (lastR l)=false):SV.tuple [SV.agg (nilC fw0),SV.int IntKind.i64 19] =rvS f l:=by
 have e:rvE f l=19:=by unfold rvE;rw[b,d,last_some o];show rgE (lastR l)=19;unfold rgE;rw[n];rfl
 unfold rvS;rw[e];rfl
theorem rv_some{f g:Fw}{l:Fl}(b:rvB f l=true)(d:l.dead=false)(o:(lastO l).isSome=true)(n:nearR (lastR l)=true)(h:rgF f (lastR l)=g):SV.tuple [SV.agg g.cells,SV.int IntKind.i64 0] =rvS f l:=by
 have e:rvE f l=0:=by unfold rvE;rw[b,d,last_some o];show rgE (lastR l)=0;unfold rgE;rw[n];rfl
 have q:rvF f l=g:=by unfold rvF;rw[last_some o];exact h
 unfold rvS;rw[e,q];rfl
theorem last_rcB{l:Fl}(o:(lastO l).isSome=true):rcB (lastR l)=true:=allL_mem (List.mem_of_getLast? (last_some o))
theorem rv_b0{f:Fw}{l:Fl}(h:validF f=false∨IdleB f=false∨flB l=false∨f.homed=true):rvB f l=false:=by
 unfold IdleB at h
 unfold rvB
 rcases h with h|h|h|h
 ·rw[h];rfl
 ·cases v:validF f
  ·rfl
  ·rw[v,Bool.true_and]at h;rw[h];rfl
 ·rw[h,Bool.false_and,Bool.and_false,Bool.and_false]
 ·rw[h,Bool.not_true,Bool.and_false,Bool.and_false,Bool.and_false]
theorem idl_parts{f:Fw}(h:IdleB f=true):validF f=true∧idleB f=true:=by
 unfold IdleB at h
 exact(Bool.and_eq_true _ _).mp h
theorem rv_b1{f:Fw}{l:Fl}(i:IdleB f=true)(b:flB l=true)(h:f.homed=false):rvB f l=true:=by
 obtain⟨v,i⟩:=idl_parts i
 unfold rvB;rw[v,i,b,h];rfl
theorem near_no{r:Rc}(h:near4 r.src=false∨near4 r.dst=false∨near4 (wsub4 r.dst r.src)=false):nearR r=false:=by
 unfold nearR
 rcases h with h|h|h<;>rw[h]<;>simp
theorem s_hwd(f:Fw)(p:V4)(h:hwPre f p=true):SCall Tryz.prog 194 [f.sv,V4.sv p] (.tuple [(retF f (wsub4 p f.pos)).sv,I64 0]):=
 scall_vE (hB (l:=[fPP,fPAdd]) (k:=[]) (j:=[]) (i:=[]) ([] :List Nat) ([] :List Nat) ([] :List Nat) ([] :List Nat) (⟨o_pP,o_pAdd,trivial⟩) noneOk noneOk noneOk) 1000 (.fork (.ln 4 (.fork (.ln 5 (.lit .all)) (.ln 5 (.fork .all .all)))) (.ln 4 (.fork (.ln 5 (.lit .all)) (.ln 5 (.fork .all .all)))))
  (t:=let y0:=wsub4 p f.pos;let y3:=addF f (0,0,y0.2.2.1,0) 0 0;let y4:=(y0.1,y0.2.1,0,0);let y1:Tree SV:=.req true (.req (true) (.req (paPre y3 y4) (.leaf (.tuple [.agg (Fw.cells (addF y3 y4 0 0)),.int .i64 0]))));let y2:Tree SV:=.req true (.req (true) (.req (paPre f y4) (.leaf (.tuple [.agg (Fw.cells (addF f y4 0 0)),.int .i64 0]))));.req (true) (.node (y0.2.2.1 != 0) (.req true (.req (paPre f (0,0,y0.2.2.1,0)) (.req true (.node (y0.1 != 0) y1 (.req true (.node (y0.2.1 != 0) y1 (.leaf (.tuple [.agg (Fw.cells y3),.int .i64 0])))))))) (.req true (.node (y0.1 != 0) y2 (.req true (.node (y0.2.1 != 0) y2 (.leaf (.tuple [.agg (Fw.cells f),.int .i64 0]))))))))
  (by kernel_rfl) (by
   obtain⟨p0,en,en2,ok⟩:=hwPre_iff.1 h
   obtain⟨p1,p2⟩:=retPre_iff.1 p0
   unfold retOk at ok
   obtain⟨o1,_⟩:=(Bool.and_eq_true _ _).mp ok
   generalize wsub4 p f.pos=d at p1 p2 en2 o1 ⊢
   have p2:=p2 o1
   have fin:∀g:Fw,retF f d=g→SV.tuple [SV.agg g.cells,SV.int IntKind.i64 0] =SV.tuple [(retF f d).sv,I64 0] :=fun g e=>by rw[e];rfl
   refine n_req rfl (n_ne (fun a=>?_) fun a=>?_)
   ·have z:=nzC.2 a
    rw[backF_yes z]at p2 en2
    refine n_req rfl (n_req (paPre_iff.2 ⟨p1 z,en⟩) (n_req rfl (n_ne (fun b=>?_) fun b=>n_req rfl (n_ne (fun c=>?_) fun c=>?_))))
    ·have y:=nzD.2 (.inl b)
     exact n_req rfl (n_req rfl (n_req (paPre_iff.2 ⟨p2 y,en2⟩) (fin _ (by unfold retF;rw[backF_yes z,backF_yes y];rfl))))
    ·have y:=nzD.2 (.inr c)
     exact n_req rfl (n_req rfl (n_req (paPre_iff.2 ⟨p2 y,en2⟩) (fin _ (by unfold retF;rw[backF_yes z,backF_yes y];rfl))))
    ·exact fin _ (by unfold retF;rw[backF_yes z,backF_no (Bool.eq_false_iff.2 fun y=>by have:=nzD.1 y;omega)];rfl)
   ·have z:nz4 (retC d)=false:=Bool.eq_false_iff.2 fun y=>nzC.1 y a
    rw[backF_no z]at p2 en2
    refine n_req rfl (n_ne (fun b=>?_) fun b=>n_req rfl (n_ne (fun c=>?_) fun c=>?_))
    ·have y:=nzD.2 (.inl b)
     exact n_req rfl (n_req rfl (n_req (paPre_iff.2 ⟨p2 y,en2⟩) (fin _ (by unfold retF;rw[backF_no z,backF_yes y];rfl))))
    ·have y:=nzD.2 (.inr c)
     exact n_req rfl (n_req rfl (n_req (paPre_iff.2 ⟨p2 y,en2⟩) (fin _ (by unfold retF;rw[backF_no z,backF_yes y];rfl))))
    ·exact fin _ (by unfold retF;rw[backF_no z,backF_no (Bool.eq_false_iff.2 fun y=>by have:=nzD.1 y;omega)])) (by kernel_rfl) (by kernel_rfl)
def fHwd:Fact:=factFw 194 fun f rest=>match rest with
 |[.agg [.int .i64 a,.int .i64 b,.int .i64 c,.int .i64 d]] =>some (.req (hwPre f (a,b,c,d)) (.leaf (.tuple [(retF f (wsub4 (a,b,c,d) f.pos)).sv,I64 0])))
 |_=>none
theorem o_hwd:fHwd.ok Tryz.prog:=factFw_ok fun f rest t ht=>by
 split at ht
 ·injection ht with ht;subst ht;exact fun h=>s_hwd f (_,_,_,_) h
 ·cases ht
theorem s_lost(f:Fw)(r:Rc)(h:loPre f r=true):SCall Tryz.prog 107 [f.sv,r.sv] (.tuple [(rLost f r).sv,I64 0]):=
 scall_vE (hB (l:=[fUni]) (k:=[]) (j:=[]) (i:=[]) ([] :List Nat) ([] :List Nat) ([] :List Nat) ([] :List Nat) (⟨o_uni,trivial⟩) noneOk noneOk noneOk) 1000 (.fork (.lit (.all)) (.lit (.all)))
  (t:=.req (true) (.req true (.node (unOk f.ma r.src.2.2.2) (.leaf (.tuple [.agg (Fw.cells {f with pos:=r.src,e:=(unitsN (axM f.ma 3) r.src.2.2.2),back:=true,ret:=r.src,line:=(if i64.wrap (r.line-1)>0 then i64.wrap (r.line-1)else 0)}),.int .i64 0])) (.leaf (.tuple [.agg (nilC fw0),.int .i64 1])))))
  (by kernel_rfl) (by
   obtain⟨h1,h2,h3⟩:=loPre_iff.1 h
   have n:=near4_iff.1 h2
   have u:unOk f.ma r.src.2.2.2=true:=unOk_iff.2 ⟨h1,by omega⟩
   have w:i64.wrap (r.line-1)=r.line-1:=w64 (by omega) (by omega)
   rw[w]
   exact n_req rfl (n_req rfl (n_bool (fun _=>rfl) fun q=>by rw[u]at q;cases q))) (by kernel_rfl) (by kernel_rfl)
def fLost:Fact:=factFw 107 fun f rest=>match rest with
 |[.agg [.int .i64 r0,.int .i64 r1,.int .i64 r2,.int .i64 r3,.int .i64 p0,.int .i64 p1,.int .i64 p2,.int .i64 p3,.int .i64 q0,.int .i64 q1,.int .i64 q2,.int .i64 q3]] =>some (.req (loPre f ⟨r0,r1,r2,r3,(p0,p1,p2,p3),(q0,q1,q2,q3)⟩) (.leaf (.tuple [(rLost f ⟨r0,r1,r2,r3,(p0,p1,p2,p3),(q0,q1,q2,q3)⟩).sv,I64 0])))
 |_=>none
theorem o_lost:fLost.ok Tryz.prog:=factFw_ok fun f rest t ht=>by
 split at ht
 ·injection ht with ht;subst ht;exact fun h=>s_lost f ⟨_,_,_,_,(_,_,_,_),(_,_,_,_)⟩ h
 ·cases ht
theorem s_resu(f:Fw)(r:Rc)(h:rePre f r=true):SCall Tryz.prog 108 [f.sv,r.sv] (.tuple [(rsF f r).sv,I64 0]):=
 scall_vE (hB (l:=[fPos,fPP,fHwd,fPAdd]) (k:=[]) (j:=[]) (i:=[]) ([] :List Nat) ([] :List Nat) ([] :List Nat) ([] :List Nat) (⟨o_pos,o_pP,o_hwd,o_pAdd,trivial⟩) noneOk noneOk noneOk) 1000 (.lit (.fork (.all) (.fork (.all) (.all))))
  (t:=let y0:=posV f.ma r.dst;let y1:={f with homed:=true,pos:=r.src,loc:=(y0.1,y0.2.1,y0.2.2.1),e:=y0.2.2.2,ret:=r.dst,line:=r.line};let y2:={f with homed:=true,pos:=r.src,loc:=(y0.1,y0.2.1,y0.2.2.1),e:=y0.2.2.2,line:=r.line};.req (f.ma.ok&&near4 r.dst) (.node (r.kind==3) (.req (hwPre y1 r.dst) (.leaf (.tuple [.agg (Fw.cells (retF y1 (wsub4 r.dst r.src))),.int .i64 0]))) (.node (!(r.src.1==r.dst.1&& (r.src.2.1==r.dst.2.1&& (r.src.2.2.1==r.dst.2.2.1&& (r.src.2.2.2==r.dst.2.2.2&&true))))) (.req (paPre y2 (wsub4 r.dst r.src)) (.leaf (.tuple [.agg (Fw.cells (addF y2 (wsub4 r.dst r.src) 0 r.line)),.int .i64 0]))) (.leaf (.tuple [.agg (Fw.cells {f with homed:=true,pos:=r.src,loc:=(y0.1,y0.2.1,y0.2.2.1),e:=y0.2.2.2,line:=r.line}),.int .i64 0])))))
  (by kernel_rfl) (by
   obtain⟨v,i,n⟩:=rePre_iff.1 h
   have hv:=vf_of v
   obtain⟨n1,n2,n3⟩:=nearQ_iff.1 n
   refine n_req (by rw[hv.ma,n2];rfl) (n_eq (fun k=>?_) fun k=>n_not (fun e=>?_) fun e=>?_)
   ·obtain⟨p,e1,e2,o⟩:=ret_pre (g:=rRet f r) hv i rfl rfl rfl rfl rfl n3
    exact n_req (hwPre_iff.2 ⟨p,e1,e2,o⟩) (by unfold rsF;rw[if_pos k];rfl)
   ·have ne:¬r.src=r.dst:=fun q=>by rw[q]at e;simp at e
    have z:nz4 (wsub4 r.dst r.src)=true:=wsub_nz n1 n2 ne
    obtain⟨p,e1⟩:=resu_pre (g:=rResu f r) hv i rfl rfl rfl rfl rfl n3 z
    exact n_req (paPre_iff.2 ⟨p,e1⟩) (by unfold rsF;rw[if_neg k,if_neg ne];rfl)
   ·have eq:r.src=r.dst:=v4eq_of e
    show SV.tuple [(rResu f r).sv,I64 0] =_
    unfold rsF;rw[if_neg k,if_pos eq]) (by kernel_rfl) (by kernel_rfl)
def fResu:Fact:=factFw 108 fun f rest=>match rest with
 |[.agg [.int .i64 r0,.int .i64 r1,.int .i64 r2,.int .i64 r3,.int .i64 p0,.int .i64 p1,.int .i64 p2,.int .i64 p3,.int .i64 q0,.int .i64 q1,.int .i64 q2,.int .i64 q3]] =>some (.req (rePre f ⟨r0,r1,r2,r3,(p0,p1,p2,p3),(q0,q1,q2,q3)⟩) (.leaf (.tuple [(rsF f ⟨r0,r1,r2,r3,(p0,p1,p2,p3),(q0,q1,q2,q3)⟩).sv,I64 0])))
 |_=>none
theorem o_resu:fResu.ok Tryz.prog:=factFw_ok fun f rest t ht=>by
 split at ht
 ·injection ht with ht;subst ht;exact fun h=>s_resu f ⟨_,_,_,_,(_,_,_,_),(_,_,_,_)⟩ h
 ·cases ht
theorem s_resuR(f:Fw)(r:Rc)(h:rePre f r=true):SCall Tryz.prog 113 [f.sv,r.sv] ((rResu f r).sv):=
 scall_vE (hB (l:=[fPosR]) (k:=[]) (j:=[]) (i:=[]) ([] :List Nat) ([] :List Nat) ([] :List Nat) ([] :List Nat) (⟨o_posR,trivial⟩) noneOk noneOk noneOk) 1000 (.all)
  (t:=.req (f.ma.ok&&near4 r.dst) (.leaf (SV.agg (Fw.cells {f with homed:=true,pos:=r.src,loc:=((posV f.ma r.dst).fst,(posV f.ma r.dst).snd.fst,(posV f.ma r.dst).snd.snd.fst),e:=(posV f.ma r.dst).snd.snd.snd,line:=r.line}))))
  (by kernel_rfl) (by
   obtain⟨v,i,n⟩:=rePre_iff.1 h
   exact n_req (by rw[(vf_of v).ma,(nearQ_iff.1 n).2.1];rfl) rfl) (by kernel_rfl) (by kernel_rfl)
def fResuR:Fact:=factFw 113 fun f rest=>match rest with
 |[.agg [.int .i64 r0,.int .i64 r1,.int .i64 r2,.int .i64 r3,.int .i64 p0,.int .i64 p1,.int .i64 p2,.int .i64 p3,.int .i64 q0,.int .i64 q1,.int .i64 q2,.int .i64 q3]] =>some (.req (rePre f ⟨r0,r1,r2,r3,(p0,p1,p2,p3),(q0,q1,q2,q3)⟩) (.leaf (rResu f ⟨r0,r1,r2,r3,(p0,p1,p2,p3),(q0,q1,q2,q3)⟩).sv))
 |_=>none
theorem o_resuR:fResuR.ok Tryz.prog:=factFw_ok fun f rest t ht=>by
 split at ht
 ·injection ht with ht;subst ht;exact fun h=>s_resuR f ⟨_,_,_,_,(_,_,_,_),(_,_,_,_)⟩ h
 ·cases ht
theorem s_rcv(f:Fw)(l:Fl)(h:fewP l=true)(k:shF f=true):SCall Tryz.prog 41 [f.sv,l.sv] (rvS f l):=
 scall_vE (hB (l:=[fValid,fIdleX,fFlB,fLast,fPSm,fPP,fCln,fLost,fResu]) (k:=[]) (j:=[]) (i:=[]) ([] :List Nat) ([] :List Nat) ([] :List Nat) ([] :List Nat) (⟨o_valid,o_idleX,o_flB,o_last,o_pSm,o_pP,o_cln,o_lost,o_resu,trivial⟩) noneOk noneOk noneOk) 1000 (.fork (.ln 10 (.lit .all)) (.ln 3 (.fork (.ln 6 (.lit .all)) (.ln 3 (.fork (.lit (.lit (.lit .all))) (.lit (.lit (.fork .all (.fork .all (.fork .all (.fork (.ln 12 (.lit .all)) (.ln 4 (.fork (.ln 7 (.lit .all)) (.ln 7 (.fork .all (.fork .all .all))))))))))))))))
  (t:=.node (!validF f) (.leaf (.tuple [.agg (nilC fw0),.int .i64 1])) (.node (!IdleB f) (.leaf (.tuple [.agg (nilC fw0),.int .i64 1])) (.req (fewP l) (.node (!flB l) (.leaf (.tuple [.agg (nilC fw0),.int .i64 1])) (.node (f.homed) (.leaf (.tuple [.agg (nilC fw0),.int .i64 1])) (.node (l.dead) (.leaf (.tuple [.agg (nilC fw0),.int .i64 17])) (.req (fewP l) (.node (!(lastO l).isSome) (.req (shF f) (.leaf (.tuple [.agg (Fw.cells f),.int .i64 0]))) (.node (!near4 (lastR l).src) (.leaf (.tuple [.agg (nilC fw0),.int .i64 19])) (.node (!near4 (lastR l).dst) (.leaf (.tuple [.agg (nilC fw0),.int .i64 19])) (.node (!near4 (wsub4 (lastR l).dst (lastR l).src)) (.leaf (.tuple [.agg (nilC fw0),.int .i64 19])) (.node ((lastR l).kind==1) (.req (shF f) (.req (loPre f (lastR l)) (.leaf (.tuple [.agg (Fw.cells (rLost f (lastR l))),.int .i64 0])))) (.req (shF f) (.req (rePre f (lastR l)) (.leaf (.tuple [.agg (Fw.cells (rsF f (lastR l))),.int .i64 0]))))))))))))))))
  (by kernel_rfl) (by
   refine n_not (fun v=>rv_1 (rv_b0 (.inl v))) fun v=>n_not (fun i=>rv_1 (rv_b0 (.inr (.inl i)))) fun i=>n_req h (n_not (fun b=>rv_1 (rv_b0 (.inr (.inr (.inl b))))) fun b=>n_bool (fun hh=>rv_1 (rv_b0 (.inr (.inr (.inr hh))))) fun hh=>?_)
   have B:=rv_b1 i b hh
   obtain⟨_,i2⟩:=idl_parts i
   refine n_bool (fun d=>rv_17 B d) fun d=>n_req h (n_not (fun o=>n_req k (rv_none B d o)) fun o=>n_not (fun n=>rv_19 B d o (near_no (.inl n))) fun n1=>n_not (fun n=>rv_19 B d o (near_no (.inr (.inl n)))) fun n2=>n_not (fun n=>rv_19 B d o (near_no (.inr (.inr n)))) fun n3=>?_)
   have N:nearR (lastR l)=true:=nearQ_iff.2 ⟨n1,n2,n3⟩
   have rb:=rcB_iff.1 (last_rcB o)
   exact n_eq (fun q=>n_req k (n_req (loPre_iff.2 ⟨(vf_of v).ma,n1,rb.2.2.1⟩) (rv_some B d o N (if_pos q)))) fun q=>n_req k (n_req (rePre_iff.2 ⟨v,i2,N⟩) (rv_some B d o N (if_neg q)))) (by kernel_rfl) (by unfold rvS;split<;>rfl)
theorem s_rcvR(f:Fw)(l:Fl)(h:fewP l=true):SCall Tryz.prog 42 [f.sv,l.sv] (rvS f l):=
 scall_vE (hB (l:=[fIdleXR,fFlBR,fLastR,fNearR,fMnsR,fUniR,fResuR,fBlock,fRet]) (k:=[]) (j:=[]) (i:=[]) ([] :List Nat) ([] :List Nat) ([] :List Nat) ([] :List Nat) (⟨o_idleXR,o_flBR,o_lastR,o_nearR,o_mnsR,o_uniR,o_resuR,o_block,o_ret,trivial⟩) noneOk noneOk noneOk) 1000 (.fork (.ln 6 (.lit .all)) (.lit (.lit (.fork (.ln 3 (.lit .all)) (.ln 3 (.fork .all (.fork .all (.fork .all (.fork (.ln 8 (.lit .all)) (.ln 4 (.fork (.ln 3 (.lit .all)) (.ln 3 (.fork .all (.fork (.fork .all .all) (.fork (.fork .all (.fork .all .all)) (.fork .all .all))))))))))))))))
  (t:=let y0:=wsub4 (lastR l).dst (lastR l).src;let y1:=rResu f (lastR l);let y2:=if i64.wrap ((lastR l).line-1)>0 then i64.wrap ((lastR l).line-1)else 0;let y3:Tree SV:=.leaf (.tuple [.agg (nilC fw0),.int .i64 19]);let y4:Tree SV:=.leaf (.tuple [.agg (nilC fw0),.int .i64 1]);let y5:={y1 with ret:=(lastR l).dst};.node (!IdleB f) y4 (.node (f.homed) y4 (.req (fewP l) (.node (!flB l) y4 (.node (l.dead) (.leaf (.tuple [.agg (nilC fw0),.int .i64 17])) (.req (fewP l) (.node (!(lastO l).isSome) (.leaf (.tuple [.agg (Fw.cells f),.int .i64 0])) (.node (!near4 (lastR l).src) y3 (.node (!near4 (lastR l).dst) y3 (.node (!near4 y0) y3 (.node ((lastR l).kind==1) (.req true (.req (true) (.node (unOk f.ma (lastR l).src.2.2.2) (.leaf (.tuple [.agg (Fw.cells {f with pos:=(lastR l).src,e:=(unitsN (axM f.ma 3) (lastR l).src.2.2.2),back:=true,ret:=(lastR l).src,line:=y2}),.int .i64 0])) (.leaf (.tuple [.agg (Fw.cells {f with pos:=(lastR l).src,e:=0,back:=true,ret:=(lastR l).src,line:=y2}),.int .i64 0]))))) (.node ((lastR l).kind==2) (.req (rePre f (lastR l)) (.node (y0.1==0&& (y0.2.1==0&& (y0.2.2.1==0&& (y0.2.2.2==0&&true)))) (.leaf (.tuple [.agg (Fw.cells y1),.int .i64 0])) (.req (addPre y1 y0 0) (.node (addOk y1 y0 0) (.leaf (.tuple [.agg (Fw.cells (addF y1 y0 0 (lastR l).line)),.int .i64 0])) (.leaf (.tuple [.agg (nilC fw0),.int .i64 2])))))) (.req (rePre f (lastR l)) (.req (retPre y5 (wsub4 (lastR l).dst y1.pos)) (.node (retOk y5 (wsub4 (lastR l).dst y1.pos)) (.leaf (.tuple [.agg (Fw.cells (retF y5 (wsub4 (lastR l).dst y1.pos))),.int .i64 0])) (.leaf (.tuple [.agg (nilC fw0),.int .i64 2])))))))))))))))))
  (by kernel_rfl) (by
   refine n_not (fun i=>rv_1 (rv_b0 (.inr (.inl i)))) fun i=>n_bool (fun hh=>rv_1 (rv_b0 (.inr (.inr (.inr hh))))) fun hh=>n_req h (n_not (fun b=>rv_1 (rv_b0 (.inr (.inr (.inl b))))) fun b=>?_)
   have B:=rv_b1 i b hh
   obtain⟨v,i2⟩:=idl_parts i
   refine n_bool (fun d=>rv_17 B d) fun d=>n_req h (n_not (fun o=>rv_none B d o) fun o=>n_not (fun n=>rv_19 B d o (near_no (.inl n))) fun n1=>n_not (fun n=>rv_19 B d o (near_no (.inr (.inl n)))) fun n2=>n_not (fun n=>rv_19 B d o (near_no (.inr (.inr n)))) fun n3=>?_)
   have N:nearR (lastR l)=true:=nearQ_iff.2 ⟨n1,n2,n3⟩
   have rb:=rcB_iff.1 (last_rcB o)
   have hv:=vf_of v
   have P:=rePre_iff.2 ⟨v,i2,N⟩
   have Z:∀{g:Fw},rgF f (lastR l)=g→SV.tuple [SV.agg g.cells,SV.int IntKind.i64 0] =rvS f l:=fun h=>rv_some B d o N h
   generalize lastR l=r at n1 n2 n3 N rb P Z ⊢
   refine n_eq (fun q=>?_) fun q=>n_eq (fun q2=>n_req P (n_bool (fun e=>?_) fun e=>?_)) fun q2=>n_req P ?_
   ·have n:=near4_iff.1 n1
    have u:unOk f.ma r.src.2.2.2=true:=unOk_iff.2 ⟨hv.ma,by omega⟩
    have w:i64.wrap (r.line-1)=r.line-1:=w64 (by omega) (by omega)
    rw[w]
    exact n_req rfl (n_req rfl (n_bool (fun _=>Z (if_pos q)) fun t=>by rw[u]at t;cases t))
   ·refine Z ?_
    have eq:r.src=r.dst:=by
     refine Classical.byContradiction fun ne=>?_
     have z:=nz4_iff.1 (wsub_nz n1 n2 ne)
     simp only[Bool.and_eq_true,beq_iff_eq]at e
     exact z ⟨e.1,e.2.1,e.2.2.1,e.2.2.2.1⟩
    unfold rgF rsF
    rw[if_neg q,if_neg (by omega),if_pos eq]
   ·have ne:¬r.src=r.dst:=fun eq=>by
     rw[eq,wsub4_eq (near_big n2) (near_big n2)]at e
     simp[sub4]at e
    obtain⟨p,e1⟩:=resu_pre (g:=rResu f r) hv i2 rfl rfl rfl rfl rfl n3 (wsub_nz n1 n2 ne)
    refine n_req p (n_bool (fun _=>Z ?_) fun t=>by rw[add_ok0 p e1]at t;cases t)
    unfold rgF rsF
    rw[if_neg q,if_neg (by omega),if_neg ne]
   ·obtain⟨p,e1,e2,ok⟩:=ret_pre (g:=rRet f r) hv i2 rfl rfl rfl rfl rfl n3
    refine n_req p (n_bool (fun _=>Z ?_) fun t=>by rw[show retOk {rResu f r with ret:=r.dst} (wsub4 r.dst (rResu f r).pos)=true from ok]at t;cases t)
    unfold rgF rsF
    rw[if_neg q,if_pos (by omega)];rfl) (by kernel_rfl) (by unfold rvS;split<;>rfl)
open Go.Sx
def fPAcc:Fact:=factFw 48 fun f rest=>match rest with
 |[.agg [.list .str p,.int .i64 a,.bool d,.int .i64 k],.int .i64 n,.agg [.int .i64 c0,.int .i64 c1,.int .i64 c2,.int .i64 c3,.int .i64 c4,.int .i64 c5,.int .i64 c6,.int .i64 c7]] =>some (.req (fewP ⟨p,a,d,k⟩) (.req (shF f) (.leaf (axV f ⟨p,a,d,k⟩ n ⟨c0,c1,c2,c3,c4,c5,c6,c7⟩))))
 |_=>none
def fPFail:Fact:=factFw 46 fun f rest=>match rest with
 |[.agg [.list .str p,.int .i64 a,.bool d,.int .i64 k]] =>some (.req (fewP ⟨p,a,d,k⟩) (.leaf (failL f ⟨p,a,d,k⟩).sv))
 |_=>none
def fRcv:Fact:=factFw 41 fun f rest=>match rest with
 |[.agg [.list .str p,.int .i64 a,.bool d,.int .i64 k]] =>some (.req (fewP ⟨p,a,d,k⟩) (.req (shF f) (.node (decide (rvE f ⟨p,a,d,k⟩=0)) (.leaf (.tuple [(rvF f ⟨p,a,d,k⟩).sv,I64 0])) (.leaf (.tuple [fw0.sv,I64 (rvE f ⟨p,a,d,k⟩)])))))
 |_=>none
def fRcvR:Fact:=factFw 42 fun f rest=>match rest with
 |[.agg [.list .str p,.int .i64 a,.bool d,.int .i64 k]] =>some (.req (fewP ⟨p,a,d,k⟩) (.node (decide (rvE f ⟨p,a,d,k⟩=0)) (.leaf (.tuple [(rvF f ⟨p,a,d,k⟩).sv,I64 0])) (.leaf (.tuple [fw0.sv,I64 (rvE f ⟨p,a,d,k⟩)]))))
 |_=>none
def fWorks54:Fact:=⟨40,fun args=>match args with
 |[] =>some (.leaf (.bool true))
 |_=>none⟩
def fFlNew:Fact:=⟨51,fun args=>match args with
 |[.int .i64 n] =>match n==6 with
  |true=>some (.leaf (.tuple [(flN 6).sv,I64 0]))
  |false=>match n==4 with
   |true=>some (.leaf (.tuple [(flN 4).sv,I64 0]))
   |false=>none
 |_=>none⟩
open Go.Sx
theorem shF_iff{x:Fw}:shF x=true↔x.queue.length≤1000∧x.lines.length≤1000:=by
 unfold shF shB shI
 rw[Bool.and_eq_true,decide_eq_true_eq,decide_eq_true_eq]
theorem shF_40{f:Fw}(a:¬(f.queue.length:Int)>40)(b:¬(f.lines.length:Int)>40):shF f=true:=shF_iff.2 (by omega)
theorem few_iff{l:Fl}:fewP l=true↔l.pages.length≤1000:=by unfold fewP;rw[decide_eq_true_eq]
theorem pg_few{l:Fl}(h:pgsB l=true):fewP l=true:=few_iff.2 (by have:=(pgsB_iff.1 h).2;omega)
section
variable {f:Fw} {l:Fl} {r s n:Int} {c:Gc.C}
theorem back_lens{g:Fw}{d:V4}:(backF g d).queue.length≤g.queue.length+1∧(backF g d).lines.length≤g.lines.length+1:=by
 refine⟨backF_len,?_⟩
 cases z:nz4 d with
 |false=>rw[backF_no z];omega
 |true=>rw[backF_yes z];show(g.lines++[0]).length≤_;simp
theorem rv_sh(e:rvE f l=0)(k:shF f=true):shF (rvF f l)=true:=by
 have k0:=shF_iff.1 k
 unfold rvE at e
 split at e
 ·omega
 ·rename_i b
  have b:rvB f l=true:=by simpa using b
  unfold rvB at b
  obtain⟨v,b⟩:=(Bool.and_eq_true _ _).mp b
  obtain⟨i,_⟩:=(Bool.and_eq_true _ _).mp b
  obtain⟨i1,i2,i3⟩:=idleB_iff.1 i
  have l0:f.lines.length=0:=by rw[(vf_of v).lens,i2]
  unfold rvF
  split
  ·exact k
  ·rename_i r _
   unfold rgF
   split
   ·exact k
   ·unfold rsF
    split
    ·refine shF_iff.2 ?_
     have a:=back_lens (g:=rRet f r) (d:=retC (wsub4 r.dst r.src))
     have b:=back_lens (g:=backF (rRet f r) (retC (wsub4 r.dst r.src))) (d:=retD (wsub4 r.dst r.src))
     have q1:(rRet f r).queue.length=0:=i2
     have q2:(rRet f r).lines.length=0:=l0
     unfold retF
     omega
    ·split
     ·exact k
     ·refine shF_iff.2 ⟨?_,?_⟩
      ·rw[addF_len];show f.queue.length+1≤1000;omega
      ·show(f.lines++[r.line]).length≤1000
       rw[List.length_append];simp;omega
end
open Go.Sx
theorem rvS_says{g:FuncId}{f:Fw}{l:Fl}{args:List SV}(h:SCall Tryz.prog g args (rvS f l)):(Tree.node (decide (rvE f l=0)) (.leaf (.tuple [(rvF f l).sv,I64 0])) (.leaf (.tuple [fw0.sv,I64 (rvE f l)]))).says (SCall Tryz.prog g args):=by
 refine⟨fun e=>?_,fun e=>?_⟩
 ·have e:=of_decide_eq_true e
  unfold rvS at h;rw[if_pos e]at h;exact h
 ·have e:=of_decide_eq_false e
  unfold rvS at h;rw[if_neg e]at h
  exact scall_val h (nil_tuple (nilC_ok _ rfl rfl))
theorem o_rcv:fRcv.ok Tryz.prog:=factFw_ok fun f rest t ht=>by
 split at ht
 ·injection ht with ht;subst ht;exact fun h k=>rvS_says (s_rcv f ⟨_,_,_,_⟩ h k)
 ·cases ht
theorem o_rcvR:fRcvR.ok Tryz.prog:=factFw_ok fun f rest t ht=>by
 split at ht
 ·injection ht with ht;subst ht;exact fun h=>rvS_says (s_rcvR f ⟨_,_,_,_⟩ h)
 ·cases ht
theorem s_flNew6:SCall Tryz.prog 51 [I64 6] (.tuple [(flN 6).sv,I64 0]):=by
 refine scallR_loops rfl rfl (by kernel_rfl) (runsR_seg k00 (n:=1000) (hint:=.str) (keep:=keepS 25 []) (p:=fn6_p) (boxes:=[]) rfl ?_)
 have q:=fn6 ()
 unfold startS codeS at q
 erw [q]
 unfold fn6_t
 repeat' first
  |refine n_req rfl ?_
  |rfl
theorem s_flNew4:SCall Tryz.prog 51 [I64 4] (.tuple [(flN 4).sv,I64 0]):=by
 refine scallR_loops rfl rfl (by kernel_rfl) (runsR_seg k00 (n:=1000) (hint:=.str) (keep:=keepS 25 []) (p:=fn4_p) (boxes:=[]) rfl ?_)
 have q:=fn4 ()
 unfold startS codeS at q
 erw [q]
 unfold fn4_t
 repeat' first
  |refine n_req rfl ?_
  |rfl
theorem o_flNew:fFlNew.ok Tryz.prog:=fun args t ht=>by
 simp only[fFlNew]at ht
 split at ht
 ·split at ht
  ·rename_i h
   have h:=beq_iff_eq.1 h
   subst h
   injection ht with ht;subst ht;exact s_flNew6
  ·split at ht
   ·rename_i h
    have h:=beq_iff_eq.1 h
    subst h
    injection ht with ht;subst ht;exact s_flNew4
   ·cases ht
 ·cases ht
section
variable {kd:Int} {nb:Bool} {c:Gc.C} {n r s:Int}
end
open Go.Sx
theorem s_works54 :SCall Tryz.prog 40 [] (.bool true):=
 scall_v mix [fNew,fFlNew,fApR,fRcv] ⟨o_new,o_flNew,o_apR,o_rcv,trivial⟩ 40000 (.auto)
  (t:=.req (true) (.req (true) (.req (true) (.req (true) (.req (true) (.req (true) (.req (true) (.leaf (SV.bool true)))))))))
  (by kernel_rfl) (by trivial) (by kernel_rfl) (by kernel_rfl)
theorem o_works54:fWorks54.ok Tryz.prog:=fun args t ht=>by
 simp only[fWorks54]at ht
 split at ht
 ·injection ht with ht;subst ht;exact s_works54
 ·cases ht
open Go.Sx
open Go.Sx
open Go.Sx
open Go.Sx
theorem s_lawPRecovers(f:Fw)(l:Fl):SCall Tryz.prog 10 [f.sv,l.sv] (.bool true):=
 scall_vE (hB (l:=[fPages,fWorks54,fSame,fSameL,fRcv,fRcvR]) (k:=[]) (j:=[]) (i:=[]) ([] :List Nat) ([] :List Nat) ([] :List Nat) ([] :List Nat) (⟨o_pages,o_works54,o_same,o_sameL,o_rcv,o_rcvR,trivial⟩) noneOk noneOk noneOk) 1000 (.fork (.ln 8 (.lit .all)) (.ln 4 (.fork (.ln 3 (.lit .all)) (.ln 3 (.fork .all (.fork (.fork (.ln 5 (.lit .all)) (.ln 4 (.fork (.lit .all) (.lit .all)))) (.fork (.ln 4 (.fork (.lit .all) (.lit .all))) (.ln 4 (.fork (.lit .all) (.lit .all))))))))))
  (t:=let y0:={fw0 with ma:=(Ma.mk fw0.ma.x fw0.ma.y fw0.ma.z fw0.ma.e false 0),mode:=0,homed:=false,pos:=(0,0,fw0.pos.2.2),loc:=(0,fw0.loc.2),e:=0,feed:=0,mo:=(((0,0,fw0.mo.1.1.2.2),0,0,fw0.mo.1.2.2.2),fw0.mo.2),moving:=false,active:=0,back:=false,ret:=(0,0,fw0.ret.2.2),dwell:=0,waits:=0,fan:=0,line:=0,ticks:=0,cold:=0,r0:=0,r1:=0};let y1:Tree SV:=.leaf (.bool true);.node (decide ((↑f.queue.length:Int)>40)) y1 (.node (decide ((↑f.lines.length:Int)>40)) y1 (.node (!pgsB l) y1 (.req (fewP l) (.req (shF f) (.node (decide (rvE f l=0)) (.req (fewP l) (.node (decide (rvE f l=0)) (.req (eqFw (rvF f l) (rvF f l)) (.req (shF (rvF f l)) y1)) (.req (eqFw (rvF f l) y0) (.req (shF (rvF f l)) (.node (0==rvE f l) y1 (.leaf (.bool false))))))) (.req (fewP l) (.node (decide (rvE f l=0)) (.req (eqFw y0 (rvF f l)) (.req true (.node (rvE f l==0) y1 (.leaf (.bool false))))) (.req (eqFw y0 y0) (.req true (.node (rvE f l==rvE f l) y1 (.leaf (.bool false)))))))))))))
  (by kernel_rfl) (by
   refine n_dec (fun _=>rfl) fun a=>n_dec (fun _=>rfl) fun b=>n_not (fun _=>rfl) fun p=>?_
   have h:=pg_few p
   have k:=shF_40 a b
   refine n_req h (n_req k (n_dec (fun e=>n_req h (n_dec (fun _=>n_req (eqFw_rfl _) (n_req (rv_sh e k) rfl)) fun q=>absurd e q)) fun e=>n_req h (n_dec (fun q=>absurd q e) fun _=>n_req (eqFw_rfl _) (n_req rfl (n_eq (fun _=>rfl) fun q=>absurd rfl q)))))) (by kernel_rfl) (by kernel_rfl)
end Go.Proofs.YtnkaepnblikcdaaGreat
