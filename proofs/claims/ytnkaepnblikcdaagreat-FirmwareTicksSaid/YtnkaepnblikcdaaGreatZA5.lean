/-
  What the statement needs: an evaluator of the model, contracts of the functions that it reaches, and the plain law.
-/
import Derived.Test.YtnkaepnblikcdaaGreatZA4
import Derived.Test.YtnkaepnblikcdaaGreatZA3
import Derived.Lib.Mul64
set_option maxRecDepth 100000
set_option linter.unusedVariables false
set_option linter.unusedSimpArgs false
open Go.IntKind (i64 u64)
namespace Go.Proofs.YtnkaepnblikcdaaGreat
open Go.Sx
def posAt(p:V4)(q:List Bk):Nat→V4
 |0=>p
 |i+1=>add4 (posAt p q i) (q.getD i dBk).1
def blkOK(p:V4)(q:List Bk)(ls:List Int)(i:Nat):Bool:=validB (q.getD i dBk)&& (inR (ls.getD i 0) 0 1099511627776&&near4 (posAt p q (i+1)))
theorem blkOK_iff{p:V4}{q:List Bk}{ls:List Int}{i:Nat}:blkOK p q ls i=true↔validB (q.getD i dBk)=true∧(0≤ls.getD i 0∧ls.getD i 0≤1099511627776)∧near4 (posAt p q (i+1))=true:=by simp only[blkOK,Bool.and_eq_true,inR_iff]
def queue0(f:Fw):V4:=add4 (begin4 f) f.mo.1.1
def queuedB(f:Fw):Bool:=decide (f.queue.length≤32)&& (decide (f.lines.length=f.queue.length)&& (near4 f.pos&& (near4 f.ret&& (near4 (begin4 f)&& (near4 (queue0 f)&& (List.range f.queue.length).all fun i=>blkOK (queue0 f) f.queue f.lines i)))))
theorem queuedB_iff{f:Fw}:queuedB f=true↔f.queue.length≤32∧f.lines.length=f.queue.length∧near4 f.pos=true∧near4 f.ret=true∧near4 (begin4 f)=true∧near4 (queue0 f)=true∧∀i,i<f.queue.length→blkOK (queue0 f) f.queue f.lines i=true:=by
 simp only[queuedB,Bool.and_eq_true,decide_eq_true_eq,List.all_eq_true,List.mem_range]
theorem near_big{c:V4}(h:near4 c=true):big4 c=true:=by rw[near4_iff]at h;exact big4_iff.2 (by omega)
theorem moves_cnt{f:Fw}(h:movesB f=true):near4 f.mo.1.1=true:=by
 cases hm:f.moving with
 |true=>
  rw[movesB_on hm,runsM_iff]at h
  have:=(okC_iff.1 (validB_iff.1 h.1).1.1).1
  exact near4_iff.2 this
 |false=>
  rw[movesB_off hm,stillB_iff,m0B_iff]at h
  rw[near4_iff];omega
theorem fsQ:allOk Tryz.prog [fNear,fBegin,fPls,fVld] :=⟨o_near,o_begin,o_pls,o_vld,trivial⟩
section
variable {f:Fw}
noncomputable abbrev RQ(f:Fw)(v:Bool)(p:V4)(i:Nat):Prop:=RunsR Tryz.prog (fnOf Tryz.prog 89) (.bool v) (loopOf Tryz.prog 89 0) (slotsS 75 [(1,.ptr 0 0),(3,.ptr 1 0),(46,LB f.queue),(47,I64 f.queue.length),(48,I64 i)]) [some (.cells f.cells),some (.cells p.cells)]
theorem qp_loop(hl:f.lines.length=f.queue.length)(hlen:f.queue.length≤32){p:V4}{v:Bool}(hv:v=true↔∀i,i<f.queue.length→blkOK p f.queue f.lines i=true):∀ (k i:Nat),i+k=f.queue.length→near4 (posAt p f.queue i)=true→(∀t,t<i→blkOK p f.queue f.lines t=true)→RQ f v (posAt p f.queue i) i
 |0,i,hi,hn,hp=>by
  unfold RQ
  refine runsR_seg (kW fsQ) (n:=1000) (hint:=.unit) (keep:=keepS 75 [1,3,46,47,48]) (p:=qp1_p) rfl ?_
  erw [qp1 f (posAt p f.queue i) f.queue.length i]
  unfold qp1_t
  refine⟨fun c=>absurd (of_decide_eq_true c) (by omega),fun _=>?_⟩
  rw[hv.2 fun t ht=>hp t (by omega)]
  exact rfl
 |k+1,i,hi,hn,hp=>by
  have bad:¬blkOK p f.queue f.lines i=true→v=false:=fun c=>by
   cases v with
   |false=>rfl
   |true=>exact absurd (hv.1 rfl i (by omega)) c
  have nx:blkOK p f.queue f.lines i=true→RQ f v (posAt p f.queue (i+1)) (i+1):=fun ok=>qp_loop hl hlen hv k (i+1) (by omega) (blkOK_iff.1 ok).2.2 fun t ht=>by
   rcases Nat.lt_or_ge t i with c|c
   ·exact hp t c
   ·rw[show t=i by omega];exact ok
  have t0:(i:Int).toNat=i:=by omega
  have w1:i64.wrap ((i:Int)+1)=((i+1:Nat):Int):=by rw[w64 (by omega) (by omega)];omega
  have b1:=near_big hn
  have ps:validB (f.queue.getD i dBk)=true→wadd4 (posAt p f.queue i) (f.queue.getD i dBk).1=posAt p f.queue (i+1):=fun c=>wadd4_eq b1 (near_big (near4_iff.2 (okC_iff.1 (validB_iff.1 c).1.1).1))
  have dlt:decide ((i:Int)<f.queue.length)=true:=decide_eq_true (by omega)
  unfold RQ at nx ⊢
  refine runsR_seg (kW fsQ) (n:=1000) (hint:=.unit) (keep:=keepS 75 [1,3,46,47,48]) (p:=qp1_p) rfl ?_
  erw [qp1 f (posAt p f.queue i) f.queue.length i]
  unfold qp1_t
  have bi:=@blkOK_iff p f.queue f.lines i
  simp only[dlt,t0,w1,Tree.holds,Bool.and_eq_true,decide_eq_true_eq,decide_eq_false_iff_not,Bool.true_eq_false,false_implies,true_implies,true_and,and_true,not_false_eq_true,Bool.not_eq_true',Bool.not_eq_false']
  refine⟨by omega,fun c=>?_,fun c=>⟨by omega,fun d=>⟨fun g=>?_,fun g=>⟨fun n=>?_,fun n=>?_⟩⟩,fun d=>?_⟩⟩
  ·rw[bad fun o=>by rw[(bi.1 o).1]at c;cases c]
  ·rw[bad fun o=>by have:=(bi.1 o).2.1;omega]
  ·rw[ps c]at n;rw[bad fun o=>by rw[(bi.1 o).2.2]at n;cases n]
  ·rw[ps c]at n ⊢;exact⟨slotsS_len _ _,nx (bi.2 ⟨c,by omega,n⟩)⟩
  ·rw[bad fun o=>by have:=(bi.1 o).2.1;omega]
theorem s_queued(f:Fw)(h:movesB f=true):SCall Tryz.prog 89 [f.sv] (.bool (queuedB f)):=by
 have qi:=@queuedB_iff f
 have nc:=moves_cnt h
 refine scallR_loops rfl rfl (by kernel_rfl) (runsR_seg (kW fsQ) (n:=1000) (hint:=.unit) (keep:=keepS 75 [1,3,46,47,48]) (p:=qp0_p) (boxes:=[]) rfl ?_)
 have q:=qp0 f
 unfold startS codeS at q
 erw [q]
 unfold qp0_t
 have bad:∀{P:Prop},(queuedB f=true→P)→¬P→queuedB f=false:=fun {P} k n=>by
  cases hq:queuedB f with
  |false=>rfl
  |true=>exact absurd (k hq) n
 simp only[Tree.holds,Bool.and_eq_true,decide_eq_true_eq,decide_eq_false_iff_not,bne_iff_ne,bne_eq_false_iff_eq,ne_eq,Bool.not_eq_true',Bool.not_eq_false']
 refine⟨fun a=>?_,fun a=>⟨fun b=>?_,fun b=>⟨fun c=>?_,fun c=>⟨fun d=>?_,fun d=>⟨near_big c,fun g=>?_,fun g=>?_⟩⟩⟩⟩⟩
 ·rw[bad (fun k=>(qi.1 k).1) (by omega)]
 ·rw[bad (fun k=>(qi.1 k).2.1) (by omega)]
 ·rw[bad (fun k=>(qi.1 k).2.2.1) (by rw[c];exact Bool.false_ne_true)]
 ·rw[bad (fun k=>(qi.1 k).2.2.2.1) (by rw[d];exact Bool.false_ne_true)]
 ·rw[bad (fun k=>(qi.1 k).2.2.2.2.1) (by rw[g];exact Bool.false_ne_true)]
 ·have e:wadd4 (begin4 f) f.mo.1.1=queue0 f:=wadd4_eq (near_big g) (near_big nc)
  rw[e]
  refine⟨fun i=>?_,fun i=>⟨slotsS_len _ _,?_⟩⟩
  ·rw[bad (fun k=>(qi.1 k).2.2.2.2.2.1) (by rw[i];exact Bool.false_ne_true)]
  ·have:=qp_loop (f:=f) (p:=queue0 f) (v:=queuedB f) (by omega) (by omega) ⟨fun k=>(qi.1 k).2.2.2.2.2.2,fun k=>qi.2 ⟨by omega,by omega,c,d,g,i,k⟩⟩ f.queue.length 0 (by omega) i (fun t ht=>absurd ht (Nat.not_lt_zero _))
   exact this
end
def goal4(f:Fw):V4:=posAt (queue0 f) f.queue f.queue.length
theorem posAt_near{f:Fw}(h:queuedB f=true):∀i,i≤f.queue.length→near4 (posAt (queue0 f) f.queue i)=true
 |0,_=>(queuedB_iff.1 h).2.2.2.2.2.1
 |i+1,hi=>(blkOK_iff.1 ((queuedB_iff.1 h).2.2.2.2.2.2 i (by omega))).2.2
theorem blk_near{f:Fw}(h:queuedB f=true){i:Nat}(hi:i<f.queue.length):near4 (f.queue.getD i dBk).1=true:=
 near4_iff.2 (okC_iff.1 (validB_iff.1 (blkOK_iff.1 ((queuedB_iff.1 h).2.2.2.2.2.2 i hi)).1).1.1).1
theorem queue0_off{f:Fw}(h:movesB f=true)(hm:f.moving=false):queue0 f=begin4 f:=by
 rw[movesB_off hm,stillB_iff,m0B_iff]at h
 unfold queue0 add4
 rw[h.1.1,h.1.2.1,h.1.2.2.1,h.1.2.2.2.1]
 simp
section
variable {f:Fw}
theorem gp_loop(h:queuedB f=true):∀ (k i:Nat),i+k=f.queue.length→
  RunsR Tryz.prog (fnOf Tryz.prog 66) (V4.sv (goal4 f)) (loopOf Tryz.prog 66 0) (slotsS 29 [(2,.ptr 0 0),(3,.ptr 1 0),(17,LB f.queue),(18,I64 f.queue.length),(19,I64 i)]) [some (.cells (V4.cells z4)),some (.cells (V4.cells (posAt (queue0 f) f.queue i)))]
 |0,i,hi=>by
  refine runsR_seg (kW fsQ) (n:=1000) (hint:=.unit) (keep:=keepS 29 [2,3,17,18,19]) (p:=gp1_p) rfl ?_
  erw [gp1 f (posAt (queue0 f) f.queue i) f.queue.length i]
  unfold gp1_t
  refine⟨fun c=>absurd (of_decide_eq_true c) (by omega),fun _=>?_⟩
  unfold goal4
  rw[show f.queue.length=i by omega]
  exact rfl
 |k+1,i,hi=>by
  have nx:=gp_loop h k (i+1) (by omega)
  have hlen:=(queuedB_iff.1 h).1
  have t0:(i:Int).toNat=i:=by omega
  have w1:i64.wrap ((i:Int)+1)=((i+1:Nat):Int):=by rw[w64 (by omega) (by omega)];omega
  have ps:wadd4 (posAt (queue0 f) f.queue i) (f.queue.getD i dBk).1=posAt (queue0 f) f.queue (i+1):=wadd4_eq (near_big (posAt_near h i (by omega))) (near_big (blk_near h (by omega)))
  refine runsR_seg (kW fsQ) (n:=1000) (hint:=.unit) (keep:=keepS 29 [2,3,17,18,19]) (p:=gp1_p) rfl ?_
  erw [gp1 f (posAt (queue0 f) f.queue i) f.queue.length i]
  unfold gp1_t
  refine⟨fun _=>?_,fun c=>absurd (of_decide_eq_false c) (by omega)⟩
  simp only[t0,w1,ps,Tree.holds,Bool.and_eq_true,decide_eq_true_eq]
  exact⟨by omega,slotsS_len _ _,nx⟩
theorem s_goal(f:Fw)(h:(movesB f&&queuedB f)=true):SCall Tryz.prog 66 [f.sv] (V4.sv (goal4 f)):=by
 rw[Bool.and_eq_true]at h
 have q:=queuedB_iff.1 h.2
 refine scallR_loops rfl rfl (by kernel_rfl) (runsR_seg (kW fsQ) (n:=1000) (hint:=.unit) (keep:=keepS 29 [2,3,17,18,19]) (p:=gp0_p) (boxes:=[]) rfl ?_)
 have e:=gp0 f
 unfold startS codeS at e
 erw [e]
 unfold gp0_t
 have nx:=gp_loop h.2 f.queue.length 0 (by omega)
 refine⟨near_big q.2.2.1,fun c=>⟨slotsS_len _ _,?_⟩,fun c=>⟨slotsS_len _ _,?_⟩⟩
 ·have:wadd4 (begin4 f) f.mo.1.1=queue0 f:=wadd4_eq (near_big q.2.2.2.2.1) (near_big (moves_cnt h.1))
  rw[this];exact nx
 ·have:=queue0_off h.1 c
  rw[←this];exact nx
end
def vldM(m:Mo)(t:Int):Bool:=inR t 1 1048576&& (validB m.1&& (if m.2.1=dom m.1.1 then inR m.2.2 0 0 else inR m.2.1 0 (dom m.1.1-1)&&inR m.2.2 1 (ivl m.1 (m.2.1+1) t)))
theorem vldM_iff{m:Mo}{t:Int}:vldM m t=true↔(1≤t∧t≤1048576)∧validB m.1=true∧((m.2.1=dom m.1.1∧m.2.2=0)∨(¬m.2.1=dom m.1.1∧(0≤m.2.1∧m.2.1≤dom m.1.1-1)∧1≤m.2.2∧m.2.2≤ivl m.1 (m.2.1+1) t)):=by
 simp only[vldM,Bool.and_eq_true,inR_iff]
 by_cases h:m.2.1=dom m.1.1
 ·simp only[h,if_true,inR_iff]
  constructor
  ·intro ⟨a,b,c⟩;exact⟨a,b,.inl ⟨trivial,by omega⟩⟩
  ·rintro ⟨a,b,⟨_,c⟩|⟨c,_⟩⟩
   ·exact⟨a,b,by omega⟩
   ·exact absurd trivial c
 ·simp only[h,if_false,Bool.and_eq_true,inR_iff]
  constructor
  ·intro ⟨a,b,c⟩;exact⟨a,b,.inr ⟨not_false,c⟩⟩
  ·rintro ⟨a,b,⟨c,_⟩|⟨_,c⟩⟩
   ·exact absurd c (by trivial)
   ·exact⟨a,b,c⟩
def rest4(f:Fw):V4:=match f.moving with
 |true=>sub4 f.mo.1.1 (madeM f.mo)
 |false=>z4
theorem rest4_on{f:Fw}(h:f.moving=true):rest4 f=sub4 f.mo.1.1 (madeM f.mo):=by unfold rest4;rw[h]
theorem rest4_off{f:Fw}(h:f.moving=false):rest4 f=z4:=by unfold rest4;rw[h]
def motB(f:Fw):Bool:=movesB f&&near4 (begin4 f)
theorem motB_iff{f:Fw}:motB f=true↔movesB f=true∧near4 (begin4 f)=true:=by simp only[motB,Bool.and_eq_true]
theorem made_big(m:Mo):big4 (madeM m)=true:=by
 have mr:=in4_iff.1 (madeM_rng m)
 exact big4_iff.2 (by omega)
theorem s_vldM(m:Mo)(t:Int):SCall Tryz.prog 186 [Mo.sv m,I64 t] (.bool (vldM m t)):=
 scall_v mix [fVldR,fDomR,fIvlR] ⟨o_vldR,o_domR,o_ivlR,trivial⟩ 1000 (.fork (.ln 7 (.lit .all)) (.lit (.lit (.fork (.ln 4 (.lit .all)) (.ln 4 (.fork .all (.fork .all (.fork (.ln 4 (.fork (.ln 3 (.fork (.ln 9 (.lit .all)) (.ln 9 (.lit .all)))) (.ln 13 (.lit .all)))) (.ln 18 (.lit .all))))))))))
  (t:=.node (decide (t<1)) (.leaf (.bool false)) (.node (decide (t>1048576)) (.leaf (.bool false)) (.node (!validB m.1) (.leaf (.bool false)) (.node (m.2.1==dom m.1.1) (.leaf (.bool (m.2.2==0))) (.node (decide (m.2.1≥0)) (.node (decide (m.2.1<dom m.1.1)) (.node (decide (m.2.2≥1)) (.leaf (.bool (decide (m.2.2≤ivl m.1 (i64.wrap (m.2.1+1)) t)))) (.leaf (.bool false))) (.leaf (.bool false))) (.leaf (.bool false)))))))
  (by kernel_rfl) (by
   have iv:=ivl_bnd m.1 (m.2.1+1) t
   have dr:=dom_range m.1.1
   have w1:0≤m.2.1∧m.2.1≤dom m.1.1-1→i64.wrap (m.2.1+1)=m.2.1+1:=fun h=>w64 (by omega) (by omega)
   simp only[Tree.holds,sL,ne_eq,beq_iff_eq,bne_iff_ne,eq_self,beq_eq_false_iff_ne,bne_eq_false_iff_eq,implies_true];(repeat' (first|apply And.intro|intro _));
   all_goals(refine holds_bool ?_;rw[vldM_iff];(try simp only[sL,ne_eq,beq_iff_eq,bne_iff_ne,eq_self,beq_eq_false_iff_ne,bne_eq_false_iff_eq,implies_true]);first|omega|grind)) (by kernel_rfl) (by kernel_rfl)
def fVldM:Fact:=factMoI 186 fun m t=>.leaf (.bool (vldM m t))
theorem o_vldM:fVldM.ok Tryz.prog:=factMoI_ok s_vldM
theorem s_rest(f:Fw)(h:movesB f=true):SCall Tryz.prog 187 [f.sv] (V4.sv (rest4 f)):=
 scall_v mix [fMnsR,fMadeR] ⟨o_mnsR,o_madeR,trivial⟩ 1000 (.fork (.all) (.all))
  (t:=.node (!f.moving) (.leaf (.agg [.int .i64 0,.int .i64 0,.int .i64 0,.int .i64 0])) (.leaf (.agg [.int .i64 (wsub4 f.mo.1.1 (madeM f.mo)).1,.int .i64 (wsub4 f.mo.1.1 (madeM f.mo)).2.1,.int .i64 (wsub4 f.mo.1.1 (madeM f.mo)).2.2.1,.int .i64 (wsub4 f.mo.1.1 (madeM f.mo)).2.2.2])))
  (by kernel_rfl) (by
   cases hm:f.moving
   ·rw[rest4_off hm]
    simp only[Tree.holds,hm,sL,ne_eq,beq_iff_eq,bne_iff_ne,eq_self,beq_eq_false_iff_ne,bne_eq_false_iff_eq,implies_true];first|rfl|(intros;rfl)
   ·rw[rest4_on hm]
    simp only[Tree.holds,hm,sL,ne_eq,beq_iff_eq,bne_iff_ne,eq_self,beq_eq_false_iff_ne,bne_eq_false_iff_eq,implies_true]
    rw[wsub4_eq (near_big (moves_cnt h)) (made_big _)];rfl) (by kernel_rfl) (by kernel_rfl)
theorem s_motn(f:Fw)(h:near4 f.pos=true):SCall Tryz.prog 93 [f.sv] (.bool (motB f)):=
 scall_v mix [fVldM,fEndedR,fMadeR,fMnsR,fNearR] ⟨o_vldM,o_endedR,o_madeR,o_mnsR,o_nearR,trivial⟩ 1000 (.fork (.fork (.lit (.lit (.lit .all))) (.lit (.lit (.lit .all)))) (.fork (.ln 4 (.fork (.ln 6 (.lit .all)) (.ln 6 (.lit .all)))) (.ln 11 (.lit .all))))
  (t:=.node (!f.moving) (.node (f.mo.1.1.1==0&& (f.mo.1.1.2.1==0&& (f.mo.1.1.2.2.1==0&& (f.mo.1.1.2.2.2==0&&true)))&& (f.mo.1.2.1==0&& (f.mo.1.2.2.1==0&& (f.mo.1.2.2.2.1==0&& (f.mo.1.2.2.2.2==0&&true))))&& (f.mo.2.1==0&& (f.mo.2.2==0&&true))) (.leaf (.bool (f.active==0))) (.leaf (.bool false))) (.node (vldM f.mo f.ma.ticks) (.node (!endedM f.mo) (.leaf (.bool (near4 (wsub4 f.pos (madeM f.mo))))) (.leaf (.bool false))) (.leaf (.bool false))))
  (by kernel_rfl) (by
   have ei:=endedM_iff (m:=f.mo)
   have vi:=vldM_iff (m:=f.mo) (t:=f.ma.ticks)
   have ip:=ivl_pos (b:=f.mo.1) (i:=f.mo.2.1+1) (t:=f.ma.ticks)
   cases hm:f.moving
   ·have e:motB f=stillB f:=by unfold motB;rw[movesB_off hm,begin4_off hm,h,Bool.and_true]
    rw[e]
    simp only[Tree.holds,hm,sL,ne_eq,beq_iff_eq,bne_iff_ne,eq_self,beq_eq_false_iff_ne,bne_eq_false_iff_eq,implies_true];(repeat' (first|apply And.intro|intro _));
    all_goals(refine holds_bool ?_;rw[stillB_iff,m0B_iff];(try simp only[sL,ne_eq,beq_iff_eq,bne_iff_ne,eq_self,beq_eq_false_iff_ne,bne_eq_false_iff_eq,implies_true]);first|omega|grind)
   ·have e:motB f=true↔runsM f.mo f.ma.ticks=true∧near4 (sub4 f.pos (madeM f.mo))=true:=by rw[motB_iff,movesB_on hm,begin4_on hm]
    have hw:wsub4 f.pos (madeM f.mo)=sub4 f.pos (madeM f.mo):=wsub4_eq (near_big h) (made_big _)
    simp only[Tree.holds,hm,hw,sL,ne_eq,beq_iff_eq,bne_iff_ne,eq_self,beq_eq_false_iff_ne,bne_eq_false_iff_eq,implies_true];(repeat' (first|apply And.intro|intro _));
    all_goals(refine holds_bool ?_;rw[e,runsM_iff];(try simp only[sL,ne_eq,beq_iff_eq,bne_iff_ne,eq_self,beq_eq_false_iff_ne,bne_eq_false_iff_eq,implies_true]);first|omega|grind)) (by kernel_rfl) (by kernel_rfl)
def fRest:Fact:=factF1 187 fun f=>.req (movesB f) (.leaf (V4.sv (rest4 f)))
theorem o_rest:fRest.ok Tryz.prog:=factF1_ok (fun f h=>s_rest f h)
def qr0_p:Plan:=.fork (.ln 7 (.lit .all)) (.ln 7 (.fork .all (.fork .all .all)))
noncomputable def qr0_t(f:Fw):Tree Stop:= .node (decide ((↑f.queue.length:Int)>32)) (.leaf (.done (.bool false))) (.node ((↑f.lines.length:Int) !=(↑f.queue.length:Int)) (.leaf (.done (.bool false))) (.req (movesB f) (.node (!near4 (wadd4 f.pos (rest4 f))) (.leaf (.done (.bool false))) (.leaf (.at (loopOf Tryz.prog 94 0) 60 (slotsS 60 [(1,.ptr 0 0),(3,.ptr 1 0),(4,.int .i64 0)]) [some (.cells (Fw.cells f)),some (.cells [.int .i64 (wadd4 f.pos (rest4 f)).1,.int .i64 (wadd4 f.pos (rest4 f)).2.1,.int .i64 (wadd4 f.pos (rest4 f)).2.2.1,.int .i64 (wadd4 f.pos (rest4 f)).2.2.2])])))))
theorem qr0(f:Fw):segR (Env.of Tryz.prog (sumOf [fNearR,fRest,fPlsR,fVldR])) 1000 (fnOf Tryz.prog 94) .unit (keepS 60 [1,3,4]) (codeS Tryz.prog 94) qr0_p (startS Tryz.prog 94 [f.sv]) [] =qr0_t f:=by kernel_rfl
def qr1_p:Plan:=.fork (.fork (.ln 7 (.lit .all)) (.ln 5 (.fork (.ln 5 (.fork .all (.fork .all .all))) (.ln 5 (.lit .all))))) .all
noncomputable def qr1_t(f:Fw)(p:V4)(i:Int):Tree Stop:= .node (decide (i< (↑f.queue.length:Int))) (.req (decide (0≤i)&&decide (i< (↑f.queue.length:Int))) (.node (!validB (f.queue.getD i.toNat dBk)) (.leaf (.done (.bool false))) (.req (decide (0≤i)&&decide (i< (↑f.lines.length:Int))) (.node (decide (f.lines.getD i.toNat 0≥0)) (.node (!decide (f.lines.getD i.toNat 0≤1099511627776)) (.leaf (.done (.bool false))) (.req (decide (0≤i)&&decide (i< (↑f.queue.length:Int))) (.node (!near4 (wadd4 p (f.queue.getD i.toNat dBk).1)) (.leaf (.done (.bool false))) (.leaf (.at (loopOf Tryz.prog 94 0) 60 (slotsS 60 [(1,.ptr 0 0),(3,.ptr 1 0),(4,.int .i64 (i64.wrap (i+1)))]) [some (.cells (Fw.cells f)),some (.cells [.int .i64 (wadd4 p (f.queue.getD i.toNat dBk).1).1,.int .i64 (wadd4 p (f.queue.getD i.toNat dBk).1).2.1,.int .i64 (wadd4 p (f.queue.getD i.toNat dBk).1).2.2.1,.int .i64 (wadd4 p (f.queue.getD i.toNat dBk).1).2.2.2])]))))) (.leaf (.done (.bool false))))))) (.leaf (.done (.bool true)))
theorem qr1(f:Fw)(p:V4)(i:Int):segR (Env.of Tryz.prog (sumOf [fNearR,fRest,fPlsR,fVldR])) 1000 (fnOf Tryz.prog 94) .unit (keepS 60 [1,3,4]) (loopOf Tryz.prog 94 0) qr1_p (slotsS 60 [(1,.ptr 0 0),(3,.ptr 1 0),(4,I64 i)]) [some (.cells f.cells),some (.cells p.cells)] =qr1_t f p i:=by kernel_rfl
def gr0b_p:Plan:=.all
noncomputable def gr0b_t(f:Fw):Tree Stop:= .req (movesB f) (.leaf (.at (loopOf Tryz.prog 96 0) 26 (slotsS 26 [(1,.ptr 0 0),(2,.ptr 1 0),(3,.ptr 2 0),(4,.int .i64 0)]) [some (.cells (Fw.cells f)),some (.cells [.int .i64 0,.int .i64 0,.int .i64 0,.int .i64 0]),some (.cells [.int .i64 (wadd4 f.pos (rest4 f)).1,.int .i64 (wadd4 f.pos (rest4 f)).2.1,.int .i64 (wadd4 f.pos (rest4 f)).2.2.1,.int .i64 (wadd4 f.pos (rest4 f)).2.2.2])]))
theorem gr0b(f:Fw):segR (Env.of Tryz.prog (sumOf [fNearR,fRest,fPlsR,fVldR])) 1000 (fnOf Tryz.prog 96) .unit (keepS 26 [1,2,3,4]) (codeS Tryz.prog 96) gr0b_p (startS Tryz.prog 96 [f.sv]) [] =gr0b_t f:=by kernel_rfl
def gr1b_p:Plan:=.fork (.all) (.all)
noncomputable def gr1b_t(f:Fw)(p:V4)(i:Int):Tree Stop:= .node (decide (i< (↑f.queue.length:Int))) (.req (decide (0≤i)&&decide (i< (↑f.queue.length:Int))) (.leaf (.at (loopOf Tryz.prog 96 0) 26 (slotsS 26 [(1,.ptr 0 0),(2,.ptr 1 0),(3,.ptr 2 0),(4,.int .i64 (i64.wrap (i+1)))]) [some (.cells (Fw.cells f)),some (.cells [.int .i64 0,.int .i64 0,.int .i64 0,.int .i64 0]),some (.cells [.int .i64 (wadd4 p (f.queue.getD i.toNat dBk).1).1,.int .i64 (wadd4 p (f.queue.getD i.toNat dBk).1).2.1,.int .i64 (wadd4 p (f.queue.getD i.toNat dBk).1).2.2.1,.int .i64 (wadd4 p (f.queue.getD i.toNat dBk).1).2.2.2])]))) (.leaf (.done (.agg [.int .i64 p.1,.int .i64 p.2.1,.int .i64 p.2.2.1,.int .i64 p.2.2.2])))
theorem gr1b(f:Fw)(p:V4)(i:Int):segR (Env.of Tryz.prog (sumOf [fNearR,fRest,fPlsR,fVldR])) 1000 (fnOf Tryz.prog 96) .unit (keepS 26 [1,2,3,4]) (loopOf Tryz.prog 96 0) gr1b_p (slotsS 26 [(1,.ptr 0 0),(2,.ptr 1 0),(3,.ptr 2 0),(4,I64 i)]) [some (.cells f.cells),some (.cells (V4.cells z4)),some (.cells p.cells)] =gr1b_t f p i:=by kernel_rfl
theorem v4_ext{a b:V4}(h1:a.1=b.1)(h2:a.2.1=b.2.1)(h3:a.2.2.1=b.2.2.1)(h4:a.2.2.2=b.2.2.2):a=b:=Prod.ext h1 (Prod.ext h2 (Prod.ext h3 h4))
theorem rest_queue0{f:Fw}(h:movesB f=true):add4 f.pos (rest4 f)=queue0 f:=by
 cases hm:f.moving with
 |true=>
  rw[rest4_on hm]
  unfold queue0
  rw[begin4_on hm]
  exact v4_ext (by simp only[add4,sub4];omega) (by simp only[add4,sub4];omega) (by simp only[add4,sub4];omega) (by simp only[add4,sub4];omega)
 |false=>
  rw[rest4_off hm,queue0_off h hm,begin4_off hm]
  exact v4_ext (by simp only[add4,z4];omega) (by simp only[add4,z4];omega) (by simp only[add4,z4];omega) (by simp only[add4,z4];omega)
theorem rest_big{f:Fw}(h:movesB f=true):big4 (rest4 f)=true:=by
 have c:=near4_iff.1 (moves_cnt h)
 have m:=in4_iff.1 (madeM_rng f.mo)
 cases hm:f.moving with
 |true=>rw[rest4_on hm,big4_iff];simp only[sub4];omega
 |false=>rw[rest4_off hm];decide
def queueR(f:Fw):Bool:=decide (f.queue.length≤32)&& (decide (f.lines.length=f.queue.length)&& (near4 (queue0 f)&& (List.range f.queue.length).all fun i=>blkOK (queue0 f) f.queue f.lines i))
theorem queueR_iff{f:Fw}:queueR f=true↔f.queue.length≤32∧f.lines.length=f.queue.length∧near4 (queue0 f)=true∧∀i,i<f.queue.length→blkOK (queue0 f) f.queue f.lines i=true:=by
 simp only[queueR,Bool.and_eq_true,decide_eq_true_eq,List.all_eq_true,List.mem_range]
theorem fsQR:allOk Tryz.prog [fNearR,fRest,fPlsR,fVldR] :=⟨o_nearR,o_rest,o_plsR,o_vldR,trivial⟩
section
variable {f:Fw}
noncomputable abbrev RQR(f:Fw)(v:Bool)(p:V4)(i:Nat):Prop:=RunsR Tryz.prog (fnOf Tryz.prog 94) (.bool v) (loopOf Tryz.prog 94 0) (slotsS 60 [(1,.ptr 0 0),(3,.ptr 1 0),(4,I64 i)]) [some (.cells f.cells),some (.cells p.cells)]
theorem qr_loop(hl:f.lines.length=f.queue.length)(hlen:f.queue.length≤32){p:V4}{v:Bool}(hv:v=true↔∀i,i<f.queue.length→blkOK p f.queue f.lines i=true):∀ (k i:Nat),i+k=f.queue.length→near4 (posAt p f.queue i)=true→(∀t,t<i→blkOK p f.queue f.lines t=true)→RQR f v (posAt p f.queue i) i
 |0,i,hi,hn,hp=>by
  unfold RQR
  refine runsR_seg (kW fsQR) (n:=1000) (hint:=.unit) (keep:=keepS 60 [1,3,4]) (p:=qr1_p) rfl ?_
  erw [qr1 f (posAt p f.queue i) i]
  unfold qr1_t
  refine⟨fun c=>absurd (of_decide_eq_true c) (by omega),fun _=>?_⟩
  rw[hv.2 fun t ht=>hp t (by omega)]
  exact rfl
 |k+1,i,hi,hn,hp=>by
  have bad:¬blkOK p f.queue f.lines i=true→v=false:=fun c=>by
   cases v with
   |false=>rfl
   |true=>exact absurd (hv.1 rfl i (by omega)) c
  have nx:blkOK p f.queue f.lines i=true→RQR f v (posAt p f.queue (i+1)) (i+1):=fun ok=>qr_loop hl hlen hv k (i+1) (by omega) (blkOK_iff.1 ok).2.2 fun t ht=>by
   rcases Nat.lt_or_ge t i with c|c
   ·exact hp t c
   ·rw[show t=i by omega];exact ok
  have t0:(i:Int).toNat=i:=by omega
  have w1:i64.wrap ((i:Int)+1)=((i+1:Nat):Int):=by rw[w64 (by omega) (by omega)];omega
  have b1:=near_big hn
  have ps:validB (f.queue.getD i dBk)=true→wadd4 (posAt p f.queue i) (f.queue.getD i dBk).1=posAt p f.queue (i+1):=fun c=>wadd4_eq b1 (near_big (near4_iff.2 (okC_iff.1 (validB_iff.1 c).1.1).1))
  have dlt:decide ((i:Int)<f.queue.length)=true:=decide_eq_true (by omega)
  unfold RQR at nx ⊢
  refine runsR_seg (kW fsQR) (n:=1000) (hint:=.unit) (keep:=keepS 60 [1,3,4]) (p:=qr1_p) rfl ?_
  erw [qr1 f (posAt p f.queue i) i]
  unfold qr1_t
  have bi:=@blkOK_iff p f.queue f.lines i
  simp only[dlt,t0,w1,Tree.holds,Bool.and_eq_true,decide_eq_true_eq,decide_eq_false_iff_not,Bool.true_eq_false,false_implies,true_implies,true_and,and_true,not_false_eq_true,Bool.not_eq_true',Bool.not_eq_false']
  refine⟨by omega,fun c=>?_,fun c=>⟨by omega,fun d=>⟨fun g=>?_,fun g=>⟨by omega,fun n=>?_,fun n=>?_⟩⟩,fun d=>?_⟩⟩
  ·rw[bad fun o=>by rw[(bi.1 o).1]at c;cases c]
  ·rw[bad fun o=>by have:=(bi.1 o).2.1;omega]
  ·rw[ps c]at n;rw[bad fun o=>by rw[(bi.1 o).2.2]at n;cases n]
  ·rw[ps c]at n ⊢;exact⟨slotsS_len _ _,nx (bi.2 ⟨c,by omega,n⟩)⟩
  ·rw[bad fun o=>by have:=(bi.1 o).2.1;omega]
theorem s_queueR(f:Fw)(h:(movesB f&&near4 f.pos)=true):SCall Tryz.prog 94 [f.sv] (.bool (queueR f)):=by
 rw[Bool.and_eq_true]at h
 have qi:=@queueR_iff f
 refine scallR_loops rfl rfl (by kernel_rfl) (runsR_seg (kW fsQR) (n:=1000) (hint:=.unit) (keep:=keepS 60 [1,3,4]) (p:=qr0_p) (boxes:=[]) rfl ?_)
 have q:=qr0 f
 unfold startS codeS at q
 erw [q]
 unfold qr0_t
 have bad:∀{P:Prop},(queueR f=true→P)→¬P→queueR f=false:=fun {P} k n=>by
  cases hq:queueR f with
  |false=>rfl
  |true=>exact absurd (k hq) n
 have e:wadd4 f.pos (rest4 f)=queue0 f:=by rw[wadd4_eq (near_big h.2) (rest_big h.1),rest_queue0 h.1]
 rw[e]
 simp only[h.1,Tree.holds,Bool.and_eq_true,decide_eq_true_eq,decide_eq_false_iff_not,bne_iff_ne,bne_eq_false_iff_eq,ne_eq,Bool.not_eq_true',Bool.not_eq_false',true_and]
 refine⟨fun a=>?_,fun a=>⟨fun b=>?_,fun b=>⟨fun i=>?_,fun i=>⟨slotsS_len _ _,?_⟩⟩⟩⟩
 ·rw[bad (fun k=>(qi.1 k).1) (by omega)]
 ·rw[bad (fun k=>(qi.1 k).2.1) (by omega)]
 ·rw[bad (fun k=>(qi.1 k).2.2.1) (by rw[i];exact Bool.false_ne_true)]
 ·exact qr_loop (f:=f) (p:=queue0 f) (v:=queueR f) (by omega) (by omega) ⟨fun k=>(qi.1 k).2.2.2,fun k=>qi.2 ⟨by omega,by omega,i,k⟩⟩ f.queue.length 0 (by omega) i (fun t ht=>absurd ht (Nat.not_lt_zero _))
theorem gr_loop(h:queuedB f=true):∀ (k i:Nat),i+k=f.queue.length→
  RunsR Tryz.prog (fnOf Tryz.prog 96) (V4.sv (goal4 f)) (loopOf Tryz.prog 96 0) (slotsS 26 [(1,.ptr 0 0),(2,.ptr 1 0),(3,.ptr 2 0),(4,I64 i)]) [some (.cells f.cells),some (.cells (V4.cells z4)),some (.cells (V4.cells (posAt (queue0 f) f.queue i)))]
 |0,i,hi=>by
  refine runsR_seg (kW fsQR) (n:=1000) (hint:=.unit) (keep:=keepS 26 [1,2,3,4]) (p:=gr1b_p) rfl ?_
  erw [gr1b f (posAt (queue0 f) f.queue i) i]
  unfold gr1b_t
  refine⟨fun c=>absurd (of_decide_eq_true c) (by omega),fun _=>?_⟩
  unfold goal4
  rw[show f.queue.length=i by omega]
  exact rfl
 |k+1,i,hi=>by
  have nx:=gr_loop h k (i+1) (by omega)
  have hlen:=(queuedB_iff.1 h).1
  have t0:(i:Int).toNat=i:=by omega
  have w1:i64.wrap ((i:Int)+1)=((i+1:Nat):Int):=by rw[w64 (by omega) (by omega)];omega
  have ps:wadd4 (posAt (queue0 f) f.queue i) (f.queue.getD i dBk).1=posAt (queue0 f) f.queue (i+1):=wadd4_eq (near_big (posAt_near h i (by omega))) (near_big (blk_near h (by omega)))
  refine runsR_seg (kW fsQR) (n:=1000) (hint:=.unit) (keep:=keepS 26 [1,2,3,4]) (p:=gr1b_p) rfl ?_
  erw [gr1b f (posAt (queue0 f) f.queue i) i]
  unfold gr1b_t
  refine⟨fun _=>?_,fun c=>absurd (of_decide_eq_false c) (by omega)⟩
  simp only[t0,w1,ps,Tree.holds,Bool.and_eq_true,decide_eq_true_eq]
  exact⟨by omega,slotsS_len _ _,nx⟩
theorem s_goalR(f:Fw)(h:(movesB f&&queuedB f)=true):SCall Tryz.prog 96 [f.sv] (V4.sv (goal4 f)):=by
 rw[Bool.and_eq_true]at h
 have q:=queuedB_iff.1 h.2
 refine scallR_loops rfl rfl (by kernel_rfl) (runsR_seg (kW fsQR) (n:=1000) (hint:=.unit) (keep:=keepS 26 [1,2,3,4]) (p:=gr0b_p) (boxes:=[]) rfl ?_)
 have e:=gr0b f
 unfold startS codeS at e
 erw [e]
 unfold gr0b_t
 have nx:=gr_loop h.2 f.queue.length 0 (by omega)
 have e2:wadd4 f.pos (rest4 f)=queue0 f:=by rw[wadd4_eq (near_big q.2.2.1) (rest_big h.1),rest_queue0 h.1]
 rw[e2]
 exact⟨h.1,slotsS_len _ _,nx⟩
end
def fQueued:Fact:=factF1 89 fun f=>.req (movesB f) (.leaf (.bool (queuedB f)))
theorem o_queued:fQueued.ok Tryz.prog:=factF1_ok (fun f h=>s_queued f h)
def fGoal:Fact:=factF1 66 fun f=>.req (movesB f&&queuedB f) (.leaf (V4.sv (goal4 f)))
theorem o_goal:fGoal.ok Tryz.prog:=factF1_ok (fun f h=>s_goal f h)
def fGoalR:Fact:=factF1 96 fun f=>.req (movesB f&&queuedB f) (.leaf (V4.sv (goal4 f)))
theorem o_goalR:fGoalR.ok Tryz.prog:=factF1_ok (fun f h=>s_goalR f h)
def fMotn:Fact:=factF1 93 fun f=>.req (near4 f.pos) (.leaf (.bool (motB f)))
theorem o_motn:fMotn.ok Tryz.prog:=factF1_ok (fun f h=>s_motn f h)
def fQueueR:Fact:=factF1 94 fun f=>.req (movesB f&&near4 f.pos) (.leaf (.bool (queueR f)))
theorem o_queueR:fQueueR.ok Tryz.prog:=factF1_ok (fun f h=>s_queueR f h)
def parts4(c d:Co)(g h:Gu):Bool:=c.ok&& (d.ok&& (g.ok&&h.ok))
def fPartsR:Fact:=⟨68,fun args=>match args with
 |[.agg [.int .i64 a0,.int .i64 a1,.int .i64 a2,.int .i64 a3,.int .i64 a4,.int .i64 a5,.int .i64 a6,.int .i64 a7,.int .i64 a8,.int .i64 a9,.int .i64 a10,.int .i64 a11],.agg [.int .i64 g0,.int .i64 g1,.int .i64 g2,.int .i64 g3,.int .i64 g4,.int .i64 g5,.int .i64 g6,.int .i64 g7,.int .i64 g8,.int .i64 g9,.bool d,.int .i64 h0,.int .i64 h1,.int .i64 h2,.int .i64 h3,.int .i64 h4,.int .i64 h5,.int .i64 h6,.int .i64 h7,.int .i64 h8,.int .i64 h9,.bool u]] =>some (.leaf (.bool (parts4 ⟨a0,a1,a2,a3,a4,a5⟩ ⟨a6,a7,a8,a9,a10,a11⟩ ⟨g0,g1,g2,g3,g4,g5,g6,g7,g8,g9,d⟩ ⟨h0,h1,h2,h3,h4,h5,h6,h7,h8,h9,u⟩)))
 |_=>none⟩
def endB(f:Fw):Bool:=(!(f.mode==3)&&f.homed)||(!f.moving&&f.queue.isEmpty)
def validF(f:Fw):Bool:=partsB f&& (modNumB f&& (movesB f&& (queuedB f&&endB f)))
theorem validF_iff{f:Fw}:validF f=true↔partsB f=true∧modNumB f=true∧movesB f=true∧queuedB f=true∧endB f=true:=by simp only[validF,Bool.and_eq_true]
theorem endB_iff{f:Fw}:endB f=true↔(¬f.mode=3∧f.homed=true)∨(f.moving=false∧f.queue.length=0):=by
 simp only[endB,Bool.or_eq_true,Bool.and_eq_true,Bool.not_eq_true',beq_eq_false_iff_ne,ne_eq,List.isEmpty_iff,List.length_eq_zero_iff]
theorem queuedR_iff{f:Fw}:queuedB f=true↔near4 f.pos=true∧near4 f.ret=true∧near4 (begin4 f)=true∧queueR f=true:=by
 rw[queuedB_iff,queueR_iff]
 constructor
 ·rintro ⟨a,b,c,d,e,g,h⟩;exact⟨c,d,e,a,b,g,h⟩
 ·rintro ⟨c,d,e,a,b,g,h⟩;exact⟨a,b,c,d,e,g,h⟩
def idleB(f:Fw):Bool:=!f.moving&& (f.queue.isEmpty&&f.dwell==0)
theorem idleB_iff{f:Fw}:idleB f=true↔f.moving=false∧f.queue.length=0∧f.dwell=0:=by
 simp only[idleB,Bool.and_eq_true,Bool.not_eq_true',beq_iff_eq,List.isEmpty_iff,List.length_eq_zero_iff]
theorem o_partsR:fPartsR.ok Tryz.prog:=fun args t ht=>by
 simp only[fPartsR]at ht
 split at ht
 ·injection ht with ht;subst ht;exact s_partsR ⟨_,_,_,_,_,_⟩ ⟨_,_,_,_,_,_⟩ ⟨_,_,_,_,_,_,_,_,_,_,_⟩ ⟨_,_,_,_,_,_,_,_,_,_,_⟩
 ·cases ht
theorem s_valid(f:Fw):SCall Tryz.prog 31 [f.sv] (.bool (validF f)):=
 scall_v mix [fParts,fNums,fMoves,fQueued] ⟨o_parts,o_nums,o_moves,o_queued,trivial⟩ 1000 (.fork (.ln 11 (.lit .all)) (.ln 3 (.fork (.ln 7 (.lit .all)) (.ln 3 (.fork (.ln 3 (.lit .all)) (.ln 3 (.fork .all (.fork (.lit (.lit (.fork (.ln 4 (.lit .all)) (.ln 3 (.fork (.ln 5 (.lit .all)) (.ln 5 (.lit .all))))))) (.ln 6 (.fork (.ln 5 (.lit .all)) (.ln 5 (.lit .all))))))))))))
  (t:=.node (!partsB f) (.leaf (.bool false)) (.node (!modNumB f) (.leaf (.bool false)) (.node (!movesB f) (.leaf (.bool false)) (.req (movesB f) (.node (!queuedB f) (.leaf (.bool false)) (.node (f.mode != 3) (.node (f.homed) (.leaf (.bool true)) (.node (!f.moving) (.leaf (.bool ((↑f.queue.length:Int)==0))) (.leaf (.bool false)))) (.node (!f.moving) (.leaf (.bool ((↑f.queue.length:Int)==0))) (.leaf (.bool false)))))))))
  (by kernel_rfl) (by
   have vi:=validF_iff (f:=f)
   have ei:=endB_iff (f:=f)
   simp only[Tree.holds,sL,ne_eq,beq_iff_eq,bne_iff_ne,eq_self,beq_eq_false_iff_ne,bne_eq_false_iff_eq,implies_true];(repeat' (first|apply And.intro|intro _));
   all_goals first
    |assumption
    |(refine holds_bool ?_;rw[vi,ei];(try simp only[sL,ne_eq,beq_iff_eq,bne_iff_ne,eq_self,beq_eq_false_iff_ne,bne_eq_false_iff_eq,implies_true]);first|omega|grind)) (by kernel_rfl) (by kernel_rfl)
theorem s_validR(f:Fw):SCall Tryz.prog 32 [f.sv] (.bool (validF f)):=
 scall_v mix [fMaOkR,fPartsR,fNumsR,fNearR,fMotn,fQueueR] ⟨o_maOkR,o_partsR,o_numsR,o_nearR,o_motn,o_queueR,trivial⟩ 1000 (.fork (.ln 15 (.lit .all)) (.ln 6 (.fork (.ln 8 (.lit .all)) (.lit (.lit (.fork (.ln 5 (.fork (.ln 3 (.lit .all)) (.ln 3 (.fork .all (.fork (.ln 12 (.lit .all)) (.ln 4 (.fork (.ln 7 (.lit .all)) (.ln 3 (.fork (.ln 3 (.lit .all)) (.ln 3 (.fork .all (.fork (.ln 3 (.fork (.ln 4 (.lit .all)) (.ln 3 (.fork (.ln 5 (.lit .all)) (.ln 5 (.lit .all)))))) (.ln 7 (.fork (.ln 5 (.lit .all)) (.ln 5 (.lit .all)))))))))))))))) (.ln 9 (.lit .all))))))))
  (t:=.node (!f.ma.ok) (.leaf (.bool false)) (.node (!parts4 f.c0 f.c1 f.g0 f.g1) (.leaf (.bool false)) (.node (decide (f.mode≥1)) (.node (!decide (f.mode≤3)) (.leaf (.bool false)) (.node (!numsB f) (.leaf (.bool false)) (.node (!near4 f.pos) (.leaf (.bool false)) (.node (!near4 f.ret) (.leaf (.bool false)) (.req (near4 f.pos) (.node (!motB f) (.leaf (.bool false)) (.req (movesB f&&near4 f.pos) (.node (!queueR f) (.leaf (.bool false)) (.node (f.homed) (.node (f.mode != 3) (.leaf (.bool true)) (.node (!f.moving) (.leaf (.bool ((↑f.queue.length:Int)==0))) (.leaf (.bool false)))) (.node (!f.moving) (.leaf (.bool ((↑f.queue.length:Int)==0))) (.leaf (.bool false)))))))))))) (.leaf (.bool false)))))
  (by kernel_rfl) (by
   have vi:=validF_iff (f:=f)
   have ei:=endB_iff (f:=f)
   have pi:=partsB_iff (f:=f)
   have p4:parts4 f.c0 f.c1 f.g0 f.g1=true↔f.c0.ok=true∧f.c1.ok=true∧f.g0.ok=true∧f.g1.ok=true:=by simp only[parts4,Bool.and_eq_true]
   have mi:=modNumB_iff (f:=f)
   have mo:=motB_iff (f:=f)
   have qi:=queuedR_iff (f:=f)
   simp only[Tree.holds,sL,ne_eq,beq_iff_eq,bne_iff_ne,eq_self,beq_eq_false_iff_ne,bne_eq_false_iff_eq,implies_true];(repeat' (first|apply And.intro|intro _));
   all_goals first
    |assumption
    |(exact(mo.1 (by assumption)).1)
    |(refine holds_bool ?_;rw[vi,ei];(try simp only[sL,ne_eq,beq_iff_eq,bne_iff_ne,eq_self,beq_eq_false_iff_ne,bne_eq_false_iff_eq,implies_true]);first|omega|grind)) (by kernel_rfl) (by kernel_rfl)
def fValid:Fact:=factF1 31 fun f=>.leaf (.bool (validF f))
theorem o_valid:fValid.ok Tryz.prog:=factF1_ok (fun f=>s_valid f)
def fValidR:Fact:=factF1 32 fun f=>.leaf (.bool (validF f))
theorem o_validR:fValidR.ok Tryz.prog:=factF1_ok (fun f=>s_validR f)
theorem s_idle(f:Fw):SCall Tryz.prog 65 [f.sv] (.bool (idleB f)):=
 scall_v mix [] trivial 1000 (.fork (.ln 4 (.fork (.lit (.lit (.lit .all))) (.lit (.lit (.lit .all))))) (.ln 7 (.lit .all)))
  (t:=.node (!f.moving)
 (.node ((↑f.queue.length:Int)==0)
  (.leaf (SV.bool (f.dwell==0)))
  (.leaf (SV.bool false)))
 (.leaf (SV.bool false)))
   (by kernel_rfl) (by simp only[Tree.holds,sL,ne_eq,beq_iff_eq,bne_iff_ne,eq_self,beq_eq_false_iff_ne,bne_eq_false_iff_eq,implies_true];(repeat' (first|apply And.intro|intro _));all_goals(refine holds_bool ?_;rw[idleB_iff];(try simp only[sL,ne_eq,beq_iff_eq,bne_iff_ne,eq_self,beq_eq_false_iff_ne,bne_eq_false_iff_eq,implies_true]); first|omega|grind)) (by kernel_rfl) (by kernel_rfl)
theorem s_idleR(f:Fw):SCall Tryz.prog 95 [f.sv] (.bool (idleB f)):=
 scall_v mix [] trivial 1000 (.fork (.ln 4 (.fork (.lit (.lit (.lit .all))) (.lit (.lit (.lit .all))))) (.ln 7 (.lit .all)))
  (t:=.node (!f.moving)
 (.node ((↑f.queue.length:Int)==0)
  (.leaf (SV.bool (f.dwell==0)))
  (.leaf (SV.bool false)))
 (.leaf (SV.bool false)))
   (by kernel_rfl) (by simp only[Tree.holds,sL,ne_eq,beq_iff_eq,bne_iff_ne,eq_self,beq_eq_false_iff_ne,bne_eq_false_iff_eq,implies_true];(repeat' (first|apply And.intro|intro _));all_goals(refine holds_bool ?_;rw[idleB_iff];(try simp only[sL,ne_eq,beq_iff_eq,bne_iff_ne,eq_self,beq_eq_false_iff_ne,bne_eq_false_iff_eq,implies_true]); first|omega|grind)) (by kernel_rfl) (by kernel_rfl)
def fIdle:Fact:=factF1 65 fun f=>.leaf (.bool (idleB f))
theorem o_idle:fIdle.ok Tryz.prog:=factF1_ok (fun f=>s_idle f)
def fIdleR:Fact:=factF1 95 fun f=>.leaf (.bool (idleB f))
theorem o_idleR:fIdleR.ok Tryz.prog:=factF1_ok (fun f=>s_idleR f)
def goalV(f:Fw):V4:=match validF f with
 |true=>goal4 f
 |false=>z4
theorem goalV_yes{f:Fw}(h:validF f=true):goalV f=goal4 f:=by unfold goalV;rw[h]
theorem goalV_no{f:Fw}(h:validF f=false):goalV f=z4:=by unfold goalV;rw[h]
def IdleB(f:Fw):Bool:=validF f&&idleB f
theorem IdleB_iff{f:Fw}:IdleB f=true↔validF f=true∧idleB f=true:=by simp only[IdleB,Bool.and_eq_true]
theorem valid_mq{f:Fw}(h:validF f=true):movesB f=true∧queuedB f=true:=by rw[validF_iff]at h;exact⟨h.2.2.1,h.2.2.2.1⟩
theorem s_Idle(f:Fw):SCall Tryz.prog 20 [f.sv] (.bool (IdleB f)):=
 scall_v mix [fValid,fIdle] ⟨o_valid,o_idle,trivial⟩ 1000 (.fork (.lit (.lit (.all))) (.lit (.lit (.all))))
  (t:=.node (validF f)
 (.leaf (SV.bool (idleB f)))
 (.leaf (SV.bool false)))
   (by kernel_rfl) (by simp only[Tree.holds,sL,ne_eq,beq_iff_eq,bne_iff_ne,eq_self,beq_eq_false_iff_ne,bne_eq_false_iff_eq,implies_true];(repeat' (first|apply And.intro|intro _));all_goals(refine holds_bool ?_;rw[IdleB_iff];(try simp only[sL,ne_eq,beq_iff_eq,bne_iff_ne,eq_self,beq_eq_false_iff_ne,bne_eq_false_iff_eq,implies_true]); first|omega|grind)) (by kernel_rfl) (by kernel_rfl)
theorem s_IdleR(f:Fw):SCall Tryz.prog 33 [f.sv] (.bool (IdleB f)):=
 scall_v mix [fValidR,fIdleR] ⟨o_validR,o_idleR,trivial⟩ 1000 (.fork (.lit (.lit (.all))) (.lit (.lit (.all))))
  (t:=.node (validF f)
 (.leaf (SV.bool (idleB f)))
 (.leaf (SV.bool false)))
   (by kernel_rfl) (by simp only[Tree.holds,sL,ne_eq,beq_iff_eq,bne_iff_ne,eq_self,beq_eq_false_iff_ne,bne_eq_false_iff_eq,implies_true];(repeat' (first|apply And.intro|intro _));all_goals(refine holds_bool ?_;rw[IdleB_iff];(try simp only[sL,ne_eq,beq_iff_eq,bne_iff_ne,eq_self,beq_eq_false_iff_ne,bne_eq_false_iff_eq,implies_true]); first|omega|grind)) (by kernel_rfl) (by kernel_rfl)
theorem s_Goal(f:Fw):SCall Tryz.prog 21 [f.sv] (V4.sv (goalV f)):=
 scall_v mix [fValid,fGoal] ⟨o_valid,o_goal,trivial⟩ 1000 (.fork (.all) (.all))
  (t:=.node (!validF f) (.leaf (.agg [.int .i64 0,.int .i64 0,.int .i64 0,.int .i64 0])) (.req (movesB f&&queuedB f) (.leaf (.agg [.int .i64 (goal4 f).1,.int .i64 (goal4 f).2.1,.int .i64 (goal4 f).2.2.1,.int .i64 (goal4 f).2.2.2]))))
  (by kernel_rfl) (by
   cases h:validF f with
   |false=>simp only[Tree.holds,h,sL,ne_eq,beq_iff_eq,bne_iff_ne,eq_self,beq_eq_false_iff_ne,bne_eq_false_iff_eq,implies_true];rw[goalV_no h];rfl
   |true=>
    have k:=valid_mq h
    simp only[Tree.holds,h,k.1,k.2,sL,ne_eq,beq_iff_eq,bne_iff_ne,eq_self,beq_eq_false_iff_ne,bne_eq_false_iff_eq,implies_true]
    rw[goalV_yes h];rfl) (by kernel_rfl) (by kernel_rfl)
theorem s_GoalR(f:Fw):SCall Tryz.prog 34 [f.sv] (V4.sv (goalV f)):=
 scall_v mix [fValidR,fGoalR] ⟨o_validR,o_goalR,trivial⟩ 1000 (.fork (.all) (.all))
  (t:=.node (!validF f) (.leaf (.agg [.int .i64 0,.int .i64 0,.int .i64 0,.int .i64 0])) (.req (movesB f&&queuedB f) (.leaf (.agg [.int .i64 (goal4 f).1,.int .i64 (goal4 f).2.1,.int .i64 (goal4 f).2.2.1,.int .i64 (goal4 f).2.2.2]))))
  (by kernel_rfl) (by
   cases h:validF f with
   |false=>simp only[Tree.holds,h,sL,ne_eq,beq_iff_eq,bne_iff_ne,eq_self,beq_eq_false_iff_ne,bne_eq_false_iff_eq,implies_true];rw[goalV_no h];rfl
   |true=>
    have k:=valid_mq h
    simp only[Tree.holds,h,k.1,k.2,sL,ne_eq,beq_iff_eq,bne_iff_ne,eq_self,beq_eq_false_iff_ne,bne_eq_false_iff_eq,implies_true]
    rw[goalV_yes h];rfl) (by kernel_rfl) (by kernel_rfl)
def fIdleX:Fact:=factF1 20 fun f=>.leaf (.bool (IdleB f))
theorem o_idleX:fIdleX.ok Tryz.prog:=factF1_ok (fun f=>s_Idle f)
def fIdleXR:Fact:=factF1 33 fun f=>.leaf (.bool (IdleB f))
theorem o_idleXR:fIdleXR.ok Tryz.prog:=factF1_ok (fun f=>s_IdleR f)
def fGoalX:Fact:=factF1 21 fun f=>.leaf (V4.sv (goalV f))
theorem o_goalX:fGoalX.ok Tryz.prog:=factF1_ok (fun f=>s_Goal f)
def fGoalXR:Fact:=factF1 34 fun f=>.leaf (V4.sv (goalV f))
theorem o_goalXR:fGoalXR.ok Tryz.prog:=factF1_ok (fun f=>s_GoalR f)
theorem scall_val{P:Program}{f:FuncId}{args:List SV}{v v':SV}(h:SCall P f args v)(hv:∀ (R:Nat→Prop) (ρ:Rho) (n:Nat) (w:World) (u:Value),Rep R ρ n w v u→Rep R ρ n w v' u):SCall P f args v':=by
 intro m w0 R0 ρ w vs hm hvs
 refine OpPost.mono (fun u w' hu=>?_) (h m w0 R0 ρ w vs hm hvs)
 obtain⟨ρ',g1,g2,g3⟩:=hu
 exact⟨ρ',g1,g2,hv _ _ _ _ _ g3⟩
theorem nil_tuple{cs ds rest:List SV}(hn:NilLs cs ds)(R:Nat→Prop)(ρ:Rho)(n:Nat)(w:World)(u:Value)(h:Rep R ρ n w (.tuple (.agg cs::rest)) u):Rep R ρ n w (.tuple (.agg ds::rest)) u:=by
 obtain⟨vs,h1,x,xs,h2,⟨ws,h3,h4⟩,h5⟩:=h
 exact⟨vs,h1,x,xs,h2,⟨ws,h3,hn.rep h4⟩,h5⟩
def newOk(m:Ma)(c d:Co)(g h:Gu)(cold:Int):Bool:=m.ok&& (c.ok&& (d.ok&& (g.ok&& (h.ok&& (inR cold 0 400000&& (inR g.fault 0 0&&inR h.fault 0 0))))))
theorem newOk_iff{m:Ma}{c d:Co}{g h:Gu}{cold:Int}:newOk m c d g h cold=true↔m.ok=true∧c.ok=true∧d.ok=true∧g.ok=true∧h.ok=true∧(0≤cold∧cold≤400000)∧g.fault=0∧h.fault=0:=by
 have z:∀n:Int,inR n 0 0=true↔n=0:=fun n=>by rw[inR_iff];omega
 simp only[newOk,Bool.and_eq_true,inR_iff,z]
def a0:Ax:=⟨0,0,0,0,0,0,0⟩
def ma0:Ma:=⟨a0,a0,a0,a0,false,0⟩
def fw0:Fw:=⟨ma0,0,false,z4,(0,0,0),0,0,[],[],m0,false,0,false,z4,0,0,Co.zero,Co.zero,Gu.zero,Gu.zero,0,0,0,0,0,0⟩
def newF(m:Ma)(c d:Co)(g h:Gu)(cold:Int):Fw:={fw0 with ma:=m,mode:=1,c0:=c,c1:=d,g0:=g,g1:=h,cold:=cold}
def nilC(f:Fw):List SV:=f.cells.take 41++(.nilS::.nilS::f.cells.drop 43)
def newS(m:Ma)(c d:Co)(g h:Gu)(cold:Int):SV:=match newOk m c d g h cold with
 |true=>.tuple [.agg (nilC (newF m c d g h cold)),I64 0]
 |false=>.tuple [.agg (nilC fw0),I64 1]
theorem newS_yes{m:Ma}{c d:Co}{g h:Gu}{cold:Int}(k:newOk m c d g h cold=true):newS m c d g h cold=.tuple [.agg (nilC (newF m c d g h cold)),I64 0] :=by unfold newS;rw[k]
theorem newS_no{m:Ma}{c d:Co}{g h:Gu}{cold:Int}(k:newOk m c d g h cold=false):newS m c d g h cold=.tuple [.agg (nilC fw0),I64 1] :=by unfold newS;rw[k]
theorem s_new(m:Ma)(c d:Co)(g h:Gu)(cold:Int):SCall Tryz.prog 61 [m.sv,.agg (c.cells++d.cells),.agg (g.cells++h.cells),I64 cold] (newS m c d g h cold):=
 scall_v mix [fParts] ⟨o_parts,trivial⟩ 1000 (.fork (.ln 13 (.lit .all)) (.lit (.fork (.ln 5 (.fork (.ln 9 (.lit .all)) (.ln 4 (.fork (.ln 4 (.lit .all)) (.ln 4 (.fork .all .all)))))) (.ln 15 (.lit .all)))))
  (t:=.node (!partsB (Fw.mk m 1 false (0,0,0,0) (0,0,0) 0 0 [] [] (((0,0,0,0),0,0,0,0),0,0) false 0 false (0,0,0,0) 0 0 c d g h 0 0 0 cold 0 0)) (.leaf (.tuple [.agg (nilC fw0),.int .i64 1])) (.node (decide (cold≥0)) (.node (!decide (cold≤400000)) (.leaf (.tuple [.agg (nilC fw0),.int .i64 1])) (.req true (.node (g.fault != 0) (.leaf (.tuple [.agg (nilC fw0),.int .i64 1])) (.req true (.node (h.fault != 0) (.leaf (.tuple [.agg (nilC fw0),.int .i64 1])) (.leaf (.tuple [.agg [.int .i64 m.x.num,.int .i64 m.x.den,.int .i64 m.x.speed,.int .i64 m.x.accel,.int .i64 m.x.jerk,.int .i64 m.x.min,.int .i64 m.x.max,.int .i64 m.y.num,.int .i64 m.y.den,.int .i64 m.y.speed,.int .i64 m.y.accel,.int .i64 m.y.jerk,.int .i64 m.y.min,.int .i64 m.y.max,.int .i64 m.z.num,.int .i64 m.z.den,.int .i64 m.z.speed,.int .i64 m.z.accel,.int .i64 m.z.jerk,.int .i64 m.z.min,.int .i64 m.z.max,.int .i64 m.e.num,.int .i64 m.e.den,.int .i64 m.e.speed,.int .i64 m.e.accel,.int .i64 m.e.jerk,.int .i64 m.e.min,.int .i64 m.e.max,.bool m.xy,.int .i64 m.ticks,.int .i64 1,.bool false,.int .i64 0,.int .i64 0,.int .i64 0,.int .i64 0,.int .i64 0,.int .i64 0,.int .i64 0,.int .i64 0,.int .i64 0,SV.nilS,SV.nilS,.int .i64 0,.int .i64 0,.int .i64 0,.int .i64 0,.int .i64 0,.int .i64 0,.int .i64 0,.int .i64 0,.int .i64 0,.int .i64 0,.bool false,.int .i64 0,.bool false,.int .i64 0,.int .i64 0,.int .i64 0,.int .i64 0,.int .i64 0,.int .i64 0,.int .i64 c.target,.int .i64 c.kp,.int .i64 c.ki,.int .i64 c.scale,.int .i64 c.sum,.int .i64 c.limit,.int .i64 d.target,.int .i64 d.kp,.int .i64 d.ki,.int .i64 d.scale,.int .i64 d.sum,.int .i64 d.limit,.int .i64 g.low,.int .i64 g.high,.int .i64 g.watch,.int .i64 g.rise,.int .i64 g.band,.int .i64 g.base,.int .i64 g.count,.int .i64 g.idle,.int .i64 g.quiet,.int .i64 g.fault,.bool g.door,.int .i64 h.low,.int .i64 h.high,.int .i64 h.watch,.int .i64 h.rise,.int .i64 h.band,.int .i64 h.base,.int .i64 h.count,.int .i64 h.idle,.int .i64 h.quiet,.int .i64 h.fault,.bool h.door,.int .i64 0,.int .i64 0,.int .i64 0,.int .i64 cold,.int .i64 0,.int .i64 0],.int .i64 0]))))))) (.leaf (.tuple [.agg (nilC fw0),.int .i64 1]))))
  (by kernel_rfl) (by
   simp only[partsB,parts4]
   simp only[Tree.holds,sL,ne_eq,beq_iff_eq,bne_iff_ne,eq_self,beq_eq_false_iff_ne,bne_eq_false_iff_eq,implies_true];(repeat' (first|apply And.intro|intro _));
   all_goals first|(rw[newS_no (Bool.eq_false_iff.2 (by rw[ne_eq,newOk_iff];grind))];rfl)|(rw[newS_yes (newOk_iff.2 (by grind))];rfl)) (by kernel_rfl) (by unfold newS;split<;>rfl)
theorem s_newR(m:Ma)(c d:Co)(g h:Gu)(cold:Int):SCall Tryz.prog 22 [m.sv,.agg (c.cells++d.cells),.agg (g.cells++h.cells),I64 cold] (newS m c d g h cold):=
 scall_v mix [fMaOkR,fPartsR] ⟨o_maOkR,o_partsR,trivial⟩ 1000 (.fork (.ln 20 (.lit .all)) (.ln 4 (.fork (.ln 15 (.lit .all)) (.ln 4 (.fork (.ln 10 (.lit .all)) (.ln 4 (.fork (.ln 5 (.lit .all)) (.lit (.lit (.fork (.lit (.lit (.lit .all))) (.lit (.lit (.fork .all .all)))))))))))))
  (t:=.node (!m.ok) (.leaf (.tuple [.agg (nilC fw0),.int .i64 1])) (.node (!parts4 c d g h) (.leaf (.tuple [.agg (nilC fw0),.int .i64 1])) (.req true (.node (g.fault != 0) (.leaf (.tuple [.agg (nilC fw0),.int .i64 1])) (.req true (.node (h.fault != 0) (.leaf (.tuple [.agg (nilC fw0),.int .i64 1])) (.node (decide (cold<0)) (.leaf (.tuple [.agg (nilC fw0),.int .i64 1])) (.node (decide (cold>400000)) (.leaf (.tuple [.agg (nilC fw0),.int .i64 1])) (.leaf (.tuple [.agg [.int .i64 m.x.num,.int .i64 m.x.den,.int .i64 m.x.speed,.int .i64 m.x.accel,.int .i64 m.x.jerk,.int .i64 m.x.min,.int .i64 m.x.max,.int .i64 m.y.num,.int .i64 m.y.den,.int .i64 m.y.speed,.int .i64 m.y.accel,.int .i64 m.y.jerk,.int .i64 m.y.min,.int .i64 m.y.max,.int .i64 m.z.num,.int .i64 m.z.den,.int .i64 m.z.speed,.int .i64 m.z.accel,.int .i64 m.z.jerk,.int .i64 m.z.min,.int .i64 m.z.max,.int .i64 m.e.num,.int .i64 m.e.den,.int .i64 m.e.speed,.int .i64 m.e.accel,.int .i64 m.e.jerk,.int .i64 m.e.min,.int .i64 m.e.max,.bool m.xy,.int .i64 m.ticks,.int .i64 1,.bool false,.int .i64 0,.int .i64 0,.int .i64 0,.int .i64 0,.int .i64 0,.int .i64 0,.int .i64 0,.int .i64 0,.int .i64 0,SV.nilS,SV.nilS,.int .i64 0,.int .i64 0,.int .i64 0,.int .i64 0,.int .i64 0,.int .i64 0,.int .i64 0,.int .i64 0,.int .i64 0,.int .i64 0,.bool false,.int .i64 0,.bool false,.int .i64 0,.int .i64 0,.int .i64 0,.int .i64 0,.int .i64 0,.int .i64 0,.int .i64 c.target,.int .i64 c.kp,.int .i64 c.ki,.int .i64 c.scale,.int .i64 c.sum,.int .i64 c.limit,.int .i64 d.target,.int .i64 d.kp,.int .i64 d.ki,.int .i64 d.scale,.int .i64 d.sum,.int .i64 d.limit,.int .i64 g.low,.int .i64 g.high,.int .i64 g.watch,.int .i64 g.rise,.int .i64 g.band,.int .i64 g.base,.int .i64 g.count,.int .i64 g.idle,.int .i64 g.quiet,.int .i64 g.fault,.bool g.door,.int .i64 h.low,.int .i64 h.high,.int .i64 h.watch,.int .i64 h.rise,.int .i64 h.band,.int .i64 h.base,.int .i64 h.count,.int .i64 h.idle,.int .i64 h.quiet,.int .i64 h.fault,.bool h.door,.int .i64 0,.int .i64 0,.int .i64 0,.int .i64 cold,.int .i64 0,.int .i64 0],.int .i64 0]))))))))))
  (by kernel_rfl) (by
   simp only[partsB,parts4]
   simp only[Tree.holds,sL,ne_eq,beq_iff_eq,bne_iff_ne,eq_self,beq_eq_false_iff_ne,bne_eq_false_iff_eq,implies_true];(repeat' (first|apply And.intro|intro _));
   all_goals first|(rw[newS_no (Bool.eq_false_iff.2 (by rw[ne_eq,newOk_iff];grind))];rfl)|(rw[newS_yes (newOk_iff.2 (by grind))];rfl)) (by kernel_rfl) (by unfold newS;split<;>rfl)
def allQ.{u}{β:Type u}(p:β→Prop):List β→Prop
 |[] =>True
 |x::l=>p x∧allQ p l
theorem allQ.all.{u}{β:Type u}{p:β→Prop}:∀{l:List β},allQ p l→∀x∈l,p x
 |[],_=>fun x hx=>by cases hx
 |y::l,h=>fun x hx=>by
  cases hx with
  |head=>exact h.1
  |tail _ hx=>exact h.2.all x hx
theorem MRel.weak{w0:World}{R0:RSet}{ρ:Rho}{w:World}{m m2:Mem}{id:Nat}{cs cs2:List SV}(h:MRel w0 R0 ρ w m)(hB:m.get id=some (.cells cs))(hn:NilLs cs cs2)(h2:MSet m id (some (.cells cs2)) m2):MRel w0 R0 ρ w m2∧MExt w0 R0 ρ w m ρ w m2:=by
 have hg:∀k B,m2.get k=some B→∃C,m.get k=some C∧(solid (ρ k) B→solid (ρ k) C):=fun k B hk=>by
  rw[h2.1 k]at hk
  split at hk
  ·rename_i hki;subst hki;exact⟨_,hB,fun _=>trivial⟩
  ·exact⟨B,hk,fun x=>x⟩
 have hro:∀b,RO w0 R0 ρ w m b→RO w0 R0 ρ w m2 b:=fun b hb=>by
  rcases hb with hb|⟨k1,k2,k3,k4⟩
  ·exact .inl hb
  ·exact .inr ⟨k1,k2,fun k B hk hs=>by
    obtain⟨C,hC,hs'⟩:=hg k B hk
    exact k3 k C hC (hs' hs),k4⟩
 have e:MExt w0 R0 ρ w m ρ w m2:=⟨by rw[h2.2];exact Nat.le_refl _,fun _ _=>rfl,fun b hb=>⟨hro b hb,rfl⟩⟩
 refine⟨⟨h.below,fun k B hk=>?_,fun k B hk hs=>?_,fun k B hk hs=>?_,fun k k' B B' hk hk' hs hs' heq=>?_,fun k B hk=>?_,h.hid.1,fun k B hk hs=>?_⟩,e⟩
 ·obtain⟨C,hC,_⟩:=hg k B hk;rw[h2.2];exact h.lt k C hC
 ·obtain⟨C,hC,hs'⟩:=hg k B hk;exact h.lo k C hC (hs' hs)
 ·obtain⟨C,hC,hs'⟩:=hg k B hk;exact h.hi k C hC (hs' hs)
 ·obtain⟨C,hC,c1⟩:=hg k B hk
  obtain⟨C',hC',c2⟩:=hg k' B' hk'
  exact h.inj k k' C C' hC hC' (c1 hs) (c2 hs') heq
 ·rw[h2.1 k]at hk
  split at hk
  ·rename_i hki
   subst hki
   injection hk with hk;subst hk
   obtain⟨arr,el,fr,k1,k2,k3⟩:=h.box k _ hB
   exact⟨arr,el,fr,k1,k2,hn.rep (RepL.mono e _ _ k3)⟩
  ·exact BoxRel.mono e _ (fun _=>rfl) (h.box k B hk)
 ·obtain⟨C,hC,hs'⟩:=hg k B hk;exact h.hid.2 k C hC (hs' hs)
theorem mem_put{w0:World}{R0:RSet}{ρ:Rho}{w:World}{m:Mem}(h:MRel w0 R0 ρ w m){id:Nat}{B C:Box}(hB:m.get id=some B):∃m2,MSet m id (some C) m2:=by
 obtain⟨m2,hn,hg⟩:=memOf m.next ((List.range m.next).map fun k=>if k=id then some C else m.get k)
 refine⟨m2,fun k=>?_,hn⟩
 rw[hg k,List.getElem?_map]
 by_cases hk:k<m.next
 ·rw[List.getElem?_range hk];rfl
 ·have hki:¬k=id:=fun e=>by subst e;exact hk (h.lt k B hB)
  rw[List.getElem?_eq_none (by simpa using hk),if_neg hki]
  cases hx:m.get k with
  |none=>rfl
  |some D=>exact absurd (h.lt k D hx) hk
theorem bcall_in{P:Program}{f:FuncId}{args cs x:List SV}{v:SV}{C:Box}(hn:NilLs cs x)(h:BCall P f args (.cells x) (false,v,C)):BCall P f args (.cells cs) (false,v,C):=by
 intro m m' id hB hm' w0 R0 ρ w vs hm hvs
 obtain⟨m2,h2⟩:=mem_put (C:=.cells x) hm hB
 obtain⟨a,e⟩:=MRel.weak hm hB hn h2
 have hm2:MSet m2 id (some C) m':=⟨fun k=>by rw[hm'.1 k,h2.1 k];split<;>rfl,hm'.2.trans h2.2.symm⟩
 refine OpPost.mono (fun u w' hu=>?_) (h m2 m' id (by rw[h2.1,if_pos rfl]) hm2 w0 R0 ρ w vs a (RepL.mono e _ _ hvs))
 obtain⟨ρ',g1,g2,g3⟩:=hu
 exact⟨ρ',g1,e.trans g2,g3⟩
theorem bcall_out{P:Program}{f:FuncId}{args cs x:List SV}{v:SV}{B:Box}(hn:NilLs cs x)(h:BCall P f args B (false,v,.cells cs)):BCall P f args B (false,v,.cells x):=by
 intro m m' id hB hm' w0 R0 ρ w vs hm hvs
 obtain⟨m1,h1⟩:=mem_put (C:=.cells cs) hm hB
 refine OpPost.mono (fun u w' hu=>?_) (h m m1 id hB h1 w0 R0 ρ w vs hm hvs)
 obtain⟨ρ',g1,g2,g3⟩:=hu
 obtain⟨a,e⟩:=MRel.weak g1 (by rw[h1.1,if_pos rfl]) hn (m2:=m') ⟨fun k=>by rw[hm'.1 k,h1.1 k];split<;>rfl,hm'.2.trans h1.2.symm⟩
 exact⟨ρ',a,g2.trans e,Rep.mono e _ _ g3⟩
def FCall(P:Program)(f:FuncId)(rest:List SV)(x:Fw)(r:SV×Fw):Prop:=BCall P f rest (.cells x.cells) (false,r.1,.cells r.2.cells)
inductive endsAt (v:SV) (y:Fw):StopX→Prop where
 |mk (cs:List SV) (hn:NilLs cs y.cells) (hd:dataL cs=true):endsAt v y (.fin (.ret v [some (.cells cs)]))
theorem ends{v u:SV}{y:Fw}{cs:List SV}(h:u=v)(hn:NilLs cs y.cells)(hd:dataL cs=true):endsAt v y (.fin (.ret u [some (.cells cs)])):=by subst h;exact .mk cs hn hd
theorem fw_data(f:Fw):dataL f.cells=true:=rfl
theorem fcall_runs{P:Program}{f:FuncId}{rest cs:List SV}{x y:Fw}{v:SV}(hf:fnOk P f (.ptr 0 0::rest)=true)(hd:dataL rest=true)(hv:v.data=true)(hc:dataL cs=true)(hn:NilLs cs y.cells)(h:RunsX P (fnOf P f) [] 1 (.ret v [some (.cells cs)]) (codeS P f) (startS P f (.ptr 0 0::rest)) [some (.cells x.cells)]):FCall P f rest x (v,y):=
 bcall_out hn (bcall_one hf h rfl hd (fw_data x) hc hv)
theorem endsAt_one{v:SV}{y:Fw}:∀t:Tree StopX,t.holds (endsAt v y)→∃cs,NilLs cs y.cells∧dataL cs=true∧t.holds fun o=>match o with
   |.fin r'=>r'=.ret v [some (.cells cs)]
   |.at items' size slots' boxes'=>slots'.length=size∧False
 |.leaf o,h=>by
  have h:endsAt v y o:=h
  cases h with
  |mk cs hn hd=>exact⟨cs,hn,hd,rfl⟩
 |.node b t f,h=>by
  cases b with
  |true=>
   obtain⟨cs,h1,h2,h3⟩:=endsAt_one t (h.1 rfl)
   exact⟨cs,h1,h2,fun _=>h3,fun hb=>by cases hb⟩
  |false=>
   obtain⟨cs,h1,h2,h3⟩:=endsAt_one f (h.2 rfl)
   exact⟨cs,h1,h2,fun hb=>(by cases hb),fun _=>h3⟩
 |.req b t,h=>by
  obtain⟨cs,h1,h2,h3⟩:=endsAt_one t h.2
  exact⟨cs,h1,h2,h.1,h3⟩
 |.fail _,h=>h.elim
theorem fcall_v{P:Program}{E:Env}(hK:Known P E)(n:Nat)(p:Plan){keep:List Item→List Bool}{f:FuncId}{rest:List SV}{x y:Fw}{v:SV}{t:Tree StopX}(ht:segX E n (fnOf P f) 1 keep (codeS P f) p (startS P f (.ptr 0 0::rest)) [some (.cells x.cells)] =t)(h:t.holds (endsAt v y))(hf:fnOk P f (.ptr 0 0::rest)=true)(hd:dataL rest=true)(hv:v.data=true):FCall P f rest x (v,y):=by
 obtain⟨cs,h1,h2,h3⟩:=endsAt_one t h
 refine fcall_runs (cs:=cs) hf hd hv h2 h1 (runsX_seg hK (n:=n) (keep:=keep) (p:=p) (Nat.le_refl _) ?_)
 rw[ht]
 exact Tree.holds_mono (fun o ho=>by
  cases o with
  |fin r=>exact ho
  |«at» i s l b=>exact ho.2.elim) t h3
def okT:Tree (SV×Fw)→Tree (Bool×SV×Box)
 |.leaf x=>.leaf (false,x.1,.cells x.2.cells)
 |.node b t f=>.node b (okT t) (okT f)
 |.req b t=>.req b (okT t)
 |.fail n=>.fail n
def bfact(f:FuncId)(h:Fw→List SV→Option (Tree (SV×Fw))):BFact:=⟨f,fun args B=>match B with
 |.cells cs=>match asFw cs with
  |some x=>match h x args with
   |some t=>some (okT t)
   |none=>none
  |none=>none
 |_=>none⟩
theorem okT_says{P:Program}{f:FuncId}{args cs:List SV}{x:Fw}(hn:NilLs cs x.cells):∀t:Tree (SV×Fw),t.says (FCall P f args x)→(okT t).says (BCall P f args (.cells cs))
 |.leaf _,k=>bcall_in hn k
 |.node _ t u,k=>⟨fun hb=>okT_says hn t (k.1 hb),fun hb=>okT_says hn u (k.2 hb)⟩
 |.req _ t,k=>fun hb=>okT_says hn t (k hb)
 |.fail _,_=>trivial
theorem bfact_ok{P:Program}{f:FuncId}{h:Fw→List SV→Option (Tree (SV×Fw))}(k:∀x rest t,h x rest=some t→t.says (FCall P f rest x)):(bfact f h).ok P:=fun args B t ht=>by
 simp only[bfact]at ht
 split at ht
 ·split at ht
  ·rename_i hx
   split at ht
   ·rename_i t' ht'
    injection ht with ht;subst ht
    exact okT_says (asFw_nil hx) t' (k _ _ _ ht')
   ·cases ht
  ·cases ht
 ·cases ht
noncomputable def wT(m:Mem)(id:Nat):Tree (SV×Fw)→Tree (SV×Mem)
 |.leaf x=>m.set id (some (.cells x.2.cells)) fun m'=>.leaf (x.1,m')
 |.node b t f=>.node b (wT m id t) (wT m id f)
 |.req b t=>.req b (wT m id t)
 |.fail n=>.fail n
noncomputable def wfact(f:FuncId)(h:Fw→List SV→Option (Tree (SV×Fw))):WFact:=⟨f,fun args m=>match args with
 |a::rest=>match a with
  |.ptr id off=>match Nat.beq off 0 with
   |true=>match m.get id with
    |some B=>match B with
     |.cells cs=>match asFw cs with
      |some x=>match h x rest with
       |some t=>some (wT m id t)
       |none=>none
      |none=>none
     |_=>none
    |none=>none
   |false=>none
  |_=>none
 |_=>none⟩
theorem wT_says{P:Program}{f:FuncId}{args cs:List SV}{x:Fw}{m:Mem}{id:Nat}(hB:m.get id=some (.cells cs))(hn:NilLs cs x.cells):∀t:Tree (SV×Fw),t.says (FCall P f args x)→(wT m id t).says (WCall P f (.ptr id 0::args) m)
 |.leaf _,k=>set_saysB fun m' hm=>(bcall_in hn k:BCall P f args (.cells cs) _) m m' id hB hm
 |.node _ t u,k=>⟨fun hb=>wT_says hB hn t (k.1 hb),fun hb=>wT_says hB hn u (k.2 hb)⟩
 |.req _ t,k=>fun hb=>wT_says hB hn t (k hb)
 |.fail _,_=>trivial
theorem wfact_ok{P:Program}{f:FuncId}{h:Fw→List SV→Option (Tree (SV×Fw))}(k:∀x rest t,h x rest=some t→t.says (FCall P f rest x)):(wfact f h).ok P:=fun args m t ht=>by
 simp only[wfact]at ht
 split at ht
 ·split at ht
  ·rename_i id off
   split at ht
   ·rename_i h0
    have h0:=Nat.eq_of_beq_eq_true h0
    subst h0
    split at ht
    ·rename_i B hB
     split at ht
     ·rename_i cs
      split at ht
      ·rename_i hx
       split at ht
       ·rename_i t' ht'
        injection ht with ht;subst ht
        exact wT_says hB (asFw_nil hx) t' (k _ _ _ ht')
       ·cases ht
      ·cases ht
     ·cases ht
    ·cases ht
   ·cases ht
  ·cases ht
 ·cases ht
def cloBn_p:Plan:=.lit (.all)
noncomputable def cloBn_t(cap:Nat):Tree Stop:= .req (true) (.leaf (.done (.list tyBk [])))
theorem cloBn(cap:Nat):segR (Env.of Tryz.prog (sumOf [])) 1000 (fnOf Tryz.prog 175) tyBk (keepS 8 []) (codeS Tryz.prog 175) cloBn_p (startS Tryz.prog 175 [.raw (.slice none 0 cap)]) [] =cloBn_t cap:=by kernel_rfl
def cloBs_p:Plan:=.lit (.lit (.all))
noncomputable def cloBs_t(a:Addr)(cap:Nat):Tree Stop:= .req (true) (.leaf (.done (.list tyBk [])))
theorem cloBs(a:Addr)(cap:Nat):segR (Env.of Tryz.prog (sumOf [])) 1000 (fnOf Tryz.prog 175) tyBk (keepS 8 []) (codeS Tryz.prog 175) cloBs_p (startS Tryz.prog 175 [.raw (.slice (some a) 0 cap)]) [] =cloBs_t a cap:=by kernel_rfl
def cloBc_p:Plan:=.lit (.lit (.all))
noncomputable def cloBc_t(b:Ty.T tyBk)(l:List (Ty.T tyBk)):Tree Stop:= .req (!(b::l).isEmpty) (.req (decide ((0+(b::l).length)*64≤140737488355328)) (.leaf (.done (.list tyBk (b::l)))))
theorem cloBc(b:Ty.T tyBk)(l:List (Ty.T tyBk)):segR (Env.of Tryz.prog (sumOf [])) 1000 (fnOf Tryz.prog 175) tyBk (keepS 8 []) (codeS Tryz.prog 175) cloBc_p (startS Tryz.prog 175 [.list tyBk (b::l)]) [] =cloBc_t b l:=by kernel_rfl
def cloIn_p:Plan:=.lit (.all)
noncomputable def cloIn_t(cap:Nat):Tree Stop:= .req (true) (.leaf (.done (.list (Ty.int IntKind.i64) [])))
theorem cloIn(cap:Nat):segR (Env.of Tryz.prog (sumOf [])) 1000 (fnOf Tryz.prog 176) (.int .i64) (keepS 8 []) (codeS Tryz.prog 176) cloIn_p (startS Tryz.prog 176 [.raw (.slice none 0 cap)]) [] =cloIn_t cap:=by kernel_rfl
def cloIs_p:Plan:=.lit (.lit (.all))
noncomputable def cloIs_t(a:Addr)(cap:Nat):Tree Stop:= .req (true) (.leaf (.done (.list (Ty.int IntKind.i64) [])))
theorem cloIs(a:Addr)(cap:Nat):segR (Env.of Tryz.prog (sumOf [])) 1000 (fnOf Tryz.prog 176) (.int .i64) (keepS 8 []) (codeS Tryz.prog 176) cloIs_p (startS Tryz.prog 176 [.raw (.slice (some a) 0 cap)]) [] =cloIs_t a cap:=by kernel_rfl
def cloIc_p:Plan:=.lit (.lit (.all))
noncomputable def cloIc_t(b:Ty.T (.int .i64))(l:List (Ty.T (.int .i64))):Tree Stop:= .req (!(b::l).isEmpty) (.req (decide ((0+(b::l).length)*8≤140737488355328)) (.leaf (.done (.list (Ty.int IntKind.i64) (b::l)))))
theorem cloIc(b:Ty.T (.int .i64))(l:List (Ty.T (.int .i64))):segR (Env.of Tryz.prog (sumOf [])) 1000 (fnOf Tryz.prog 176) (.int .i64) (keepS 8 []) (codeS Tryz.prog 176) cloIc_p (startS Tryz.prog 176 [.list (.int .i64) (b::l)]) [] =cloIc_t b l:=by kernel_rfl
end Go.Proofs.YtnkaepnblikcdaaGreat
namespace Go.Sx
open Go.RowKit
section
variable {w0:World} {R0:RSet} {ρ:Rho} {w:World} {m mc m':Mem} {ρc:Rho} {w':World}
theorem hand_row{id:Nat}{t:Ty}{l:List t.T}{u:Value}(hm:MRel w0 R0 ρ w m)(hc:MRel w (RS w0 R0 ρ w m) ρc w' mc)(hg0:mc.get id=some (.rows t l))(h3:MPush m (.rows t l) m')(hr:Rep (RO w (RS w0 R0 ρ w m) ρc w' mc) ρc mc.next w' (.row id) u):OpOut w0 R0 ρ w m (.row m.next) m' u w':=by
 have hh:=Hand.start hm hc
 have hm':∀j B,m'.get j=some B→(j=m.next∧B=.rows t l)∨(j≠m.next∧m.get j=some B):=fun j B hj=>by
  rw[h3.1 j]at hj
  by_cases e:j=m.next
  ·rw[if_pos e]at hj;injection hj with hj;exact .inl ⟨e,hj.symm⟩
  ·rw[if_neg e]at hj;exact .inr ⟨e,hj⟩
 have hwsz:=hm.size_le
 have e:Ext (RR w0 R0 ρ w m ρc mc w') ρ m.next w' (RR w0 R0 ρ w m ρc mc w') (upd ρ m.next (ρc id)) m'.next w':=⟨by rw[h3.2];omega,fun j hj=>upd_other _ _ (by omega),fun b hb=>⟨hb,rfl⟩⟩
 have hand:Hand w0 R0 ρ w m ρc mc w' (upd ρ m.next (ρc id)) m' ⟨0,.e⟩:=by
  refine⟨by rw[h3.2];omega,fun j hj=>upd_other _ _ (by omega),fun j B hj=>?_,fun j B hj hs=>?_,fun j B hj hs=>?_,fun j B hj hs=>?_,fun j j' B B' hj hj' hs hs' he=>?_,fun j B hj=>?_,fun j B hj=>(by cases hj),fun j B hj=>(by cases hj),fun b hb=>?_⟩
  ·rw[h3.2]
   rcases hm' j B hj with⟨rfl,_⟩|⟨_,n2⟩
   ·omega
   ·have:=hh.lt j B n2;omega
  ·rcases hm' j B hj with⟨rfl,rfl⟩|⟨n1,n2⟩
   ·rw[upd_same]at hs ⊢;have:=hc.lo id _ hg0 hs;omega
   ·rw[upd_other _ _ n1]at hs ⊢;exact hh.lo j B n2 hs
  ·rcases hm' j B hj with⟨rfl,rfl⟩|⟨n1,n2⟩
   ·rw[upd_same]at hs ⊢;exact hc.hi id _ hg0 hs
   ·rw[upd_other _ _ n1]at hs ⊢;exact hh.hi j B n2 hs
  ·rcases hm' j B hj with⟨rfl,rfl⟩|⟨n1,n2⟩
   ·rw[upd_same]at hs ⊢;exact fun hr=>by have:=(hm.hid.1 _ hr).1;have:=hc.lo id _ hg0 hs;omega
   ·rw[upd_other _ _ n1]at hs ⊢;exact hh.nh j B n2 hs
  ·rcases hm' j B hj with⟨rfl,rfl⟩|⟨n1,n2⟩<;>rcases hm' j' B' hj' with⟨rfl,rfl⟩|⟨n1',n2'⟩
   ·rfl
   ·rw[upd_same]at hs he;rw[upd_other _ _ n1']at hs' he
    exact absurd he.symm (hh.apart id _ hg0 hs j' B' n2' hs')
   ·rw[upd_same]at hs' he;rw[upd_other _ _ n1]at hs he
    exact absurd he (hh.apart id _ hg0 hs' j B n2 hs)
   ·rw[upd_other _ _ n1]at hs he;rw[upd_other _ _ n1']at hs' he
    exact hh.inj j j' B B' n2 n2' hs hs' he
  ·rcases hm' j B hj with⟨rfl,rfl⟩|⟨n1,n2⟩
   ·rw[upd_same]
    obtain⟨b1,b2,b3⟩:=hc.box id _ hg0
    refine⟨b1,b2,fun hp=>?_⟩
    obtain⟨arr,el,fr,q1,q2,q3,q4⟩:=b3 hp
    refine⟨arr,el,fr,q1,q2,q3,fun i hi=>?_⟩
    obtain⟨cs,c1,c2,c3⟩:=q4 i hi
    exact⟨cs,c1,c2,RepD.mono (fun b hb=>⟨.inr hb,rfl⟩) _ _ _ c3⟩
   ·rw[upd_other _ _ n1]
    exact BoxRel.mono e B (fun _=>rfl) (hh.box j B n2)
  ·have hne:solid (ρc id) (.rows t l)→(ρc id).1≠b:=fun hs=>by
    rcases hb with hb|hb
    ·have:=hm.ro_lt hb;have:=hc.lo id _ hg0 hs;omega
    ·exact hc.ro_ne hb hg0 hs
   rcases hh.ro b hb with hb|⟨g1,g2,g3,g4⟩
   ·exact .inl hb
   ·refine .inr ⟨g1,g2,fun j B hj hs=>?_,g4⟩
    rcases hm' j B hj with⟨rfl,rfl⟩|⟨n1,n2⟩
    ·rw[upd_same]at hs ⊢;exact hne hs
    ·rw[upd_other _ _ n1]at hs ⊢;exact g3 j B n2 hs
 obtain⟨g4,g5⟩:=hand.finish hm hc
 obtain⟨_,a,hu,ha⟩:=hr
 exact⟨_,g4,g5,by rw[h3.2];omega,a,by rw[upd_same];exact hu,by rw[upd_same];exact ha⟩
theorem hand_nil{t:Ty}{a:Option Addr}(hm:MRel w0 R0 ρ w m)(hc:MRel w (RS w0 R0 ρ w m) ρc w' mc)(h3:MPush m (.rows t []) m'):OpOut w0 R0 ρ w m (.row m.next) m' (.slice a 0 0) w':=by
 have hh:=Hand.start hm hc
 have hm':∀j B,m'.get j=some B→(j=m.next∧B=.rows t [])∨(j≠m.next∧m.get j=some B):=fun j B hj=>by
  rw[h3.1 j]at hj
  by_cases e:j=m.next
  ·rw[if_pos e]at hj;injection hj with hj;exact .inl ⟨e,hj.symm⟩
  ·rw[if_neg e]at hj;exact .inr ⟨e,hj⟩
 have e:Ext (RR w0 R0 ρ w m ρc mc w') ρ m.next w' (RR w0 R0 ρ w m ρc mc w') (upd ρ m.next (0,0,0)) m'.next w':=⟨by rw[h3.2];omega,fun j hj=>upd_other _ _ (by omega),fun b hb=>⟨hb,rfl⟩⟩
 have no:¬solid (upd ρ m.next (0,0,0) m.next) (.rows t []):=by rw[upd_same];exact Nat.lt_irrefl 0
 have hand:Hand w0 R0 ρ w m ρc mc w' (upd ρ m.next (0,0,0)) m' ⟨0,.e⟩:=by
  refine⟨by rw[h3.2];omega,fun j hj=>upd_other _ _ (by omega),fun j B hj=>?_,fun j B hj hs=>?_,fun j B hj hs=>?_,fun j B hj hs=>?_,fun j j' B B' hj hj' hs hs' he=>?_,fun j B hj=>?_,fun j B hj=>(by cases hj),fun j B hj=>(by cases hj),fun b hb=>?_⟩
  ·rw[h3.2]
   rcases hm' j B hj with⟨rfl,_⟩|⟨_,n2⟩
   ·omega
   ·have:=hh.lt j B n2;omega
  ·rcases hm' j B hj with⟨rfl,rfl⟩|⟨n1,n2⟩
   ·exact absurd hs no
   ·rw[upd_other _ _ n1]at hs ⊢;exact hh.lo j B n2 hs
  ·rcases hm' j B hj with⟨rfl,rfl⟩|⟨n1,n2⟩
   ·exact absurd hs no
   ·rw[upd_other _ _ n1]at hs ⊢;exact hh.hi j B n2 hs
  ·rcases hm' j B hj with⟨rfl,rfl⟩|⟨n1,n2⟩
   ·exact absurd hs no
   ·rw[upd_other _ _ n1]at hs ⊢;exact hh.nh j B n2 hs
  ·rcases hm' j B hj with⟨rfl,rfl⟩|⟨n1,n2⟩
   ·exact absurd hs no
   ·rcases hm' j' B' hj' with⟨rfl,rfl⟩|⟨n1',n2'⟩
    ·exact absurd hs' no
    ·rw[upd_other _ _ n1']at hs' he;rw[upd_other _ _ n1]at hs he
     exact hh.inj j j' B B' n2 n2' hs hs' he
  ·rcases hm' j B hj with⟨rfl,rfl⟩|⟨n1,n2⟩
   ·rw[upd_same];exact⟨rfl,Nat.le_refl _,fun h0=>absurd h0 (Nat.lt_irrefl _)⟩
   ·rw[upd_other _ _ n1]
    exact BoxRel.mono e B (fun _=>rfl) (hh.box j B n2)
  ·rcases hh.ro b hb with hb|⟨g1,g2,g3,g4⟩
   ·exact .inl hb
   ·refine .inr ⟨g1,g2,fun j B hj hs=>?_,g4⟩
    rcases hm' j B hj with⟨rfl,rfl⟩|⟨n1,n2⟩
    ·exact absurd hs no
    ·rw[upd_other _ _ n1]at hs ⊢;exact g3 j B n2 hs
 obtain⟨g4,g5⟩:=hand.finish hm hc
 exact⟨_,g4,g5,by rw[h3.2];omega,a,by rw[upd_same],by rw[upd_same];exact fun h0=>absurd h0 (Nat.lt_irrefl _)⟩
end
def ownR(t:Ty)(l:List t.T)(v:SV)(mc:Mem):Prop:=
 (∃id,v=.row id∧mc.get id=some (.rows t l))∨(l=[] ∧(v=.nilS∨(∃id off,v=.arr id off 0)))
theorem own_core{P:Program}{E:Env}(hK:Known P E){n:Nat}{f:FuncId}{args:List SV}{p:Plan}{t:Ty}{l:List t.T}(hd:dataL args=true)(h:(execFn E n f args p).holds fun x=>ownR t l x.1 x.2){m m':Mem}(hp:MPush m (.rows t l) m'):SemCall P m (.row m.next) m' f args:=by
 intro w0 R0 ρ w vs hm hvs
 unfold execFn at h
 split at h
 ·rename_i fn hfn
  have hf:=hK.e.fn f fn hfn
  split at h
  ·rename_i body hb
   split at h
   ·rename_i hn
    obtain⟨fr,h1,h2,h3,h4⟩:=make_holds h
    obtain⟨out,h5,h6⟩:=exec_ok hK.e hK.s hK.mix n _ _ _ _ _ _ h1
    cases out with
    |stop it fr' m'=>exact h5.elim
    |pan v fr' m'=>exact h5.elim
    |ret p' fr' mc=>
     dsimp only at h5
     obtain⟨v',h7,h8⟩:=results_holds hK.e h5
     have h7:ownR t l v' mc:=h7
     rw[callFunc_enter hf hb hn]
     obtain⟨o1,o2⟩:=own_mem hm ρ
     have hfr:=frame_rel h2 h3 h4 (RepL.data (R':=RO w (RS w0 R0 ρ w m) ρ w ⟨0,.e⟩) (ρ':=ρ) (n':=0) o2 args vs hd hvs)
     refine Calls.mono (calls_of_reach hf hb h6 h8 o1 hfr) fun e w' ⟨u,he,ρ',g1,g2,g3⟩=>⟨u,he,?_⟩
     rcases h7 with⟨id,rfl,hg⟩|⟨rfl,rfl|⟨id,off,rfl⟩⟩
     ·exact hand_row hm g1 hg hp g3
     ·rw[show u=_ from g3];exact hand_nil hm g1 hp
     ·obtain⟨_,hu⟩:=g3
      rw[hu];exact hand_nil hm g1 hp
   ·exact h.elim
  ·exact h.elim
 ·exact h.elim
noncomputable def mem1(t:Ty)(l:List t.T):Mem:=⟨1,.n .e (some (.rows t l)) .e⟩
theorem own_of{P:Program}{f:FuncId}{args:List SV}{t:Ty}{l:List t.T}(h:∀m m',MPush m (.rows t l) m'→SemCall P m (.row m.next) m' f args):OwnCall P f args (.row 0,mem1 t l):=by
 intro m v' m' ha
 change ((mem1 t l).set 0 none fun mc=>m.push (.rows t l) fun m id=>Tree.leaf (SV.row id,m)).holds _ at ha
 obtain⟨mc',h1,h2⟩:=Mem.set_holds ha
 obtain⟨m1,h3,h4⟩:=Mem.push_holds h2
 injection h4 with e1 e2
 subst e1 e2
 exact h m m1 h3
noncomputable def ownV(x:SV×Mem):SV:=match x.1 with
 |.row id=>match x.2.get id with
  |some (.rows t l)=>.list t l
  |_=>.undef
 |.nilS=>.nilS
 |.arr _ _ n=>match n with
  |0=>.nilS
  |_+1=>.undef
 |_=>.undef
noncomputable def Tree.ownT:Tree (SV×Mem)→Tree SV
 |.leaf x=>.leaf (ownV x)
 |.node b t f=>.node b t.ownT f.ownT
 |.req b t=>.req b t.ownT
 |.fail n=>.fail n
theorem ownV_row{t:Ty}{l:List t.T}{x:SV×Mem}(h:ownV x=.list t l):ownR t l x.1 x.2:=by
 unfold ownV at h
 split at h
 ·rename_i id hx
  split at h
  ·rename_i t' l' hg
   injection h with h1 h2
   subst h1
   have h2:=eq_of_heq h2
   subst h2
   exact .inl ⟨id,hx,hg⟩
  ·cases h
 ·cases h
 ·split at h<;>cases h
 ·cases h
theorem ownV_nil{t:Ty}{x:SV×Mem}(h:ownV x=.nilS):ownR t [] x.1 x.2:=by
 unfold ownV at h
 split at h
 ·split at h<;>cases h
 ·rename_i hx;exact .inr ⟨rfl,.inl hx⟩
 ·rename_i id off n hx
  split at h
  ·exact .inr ⟨rfl,.inr ⟨id,off,hx⟩⟩
  ·cases h
 ·cases h
theorem Tree.ownT_holds{L:SV→Prop}:∀t:Tree (SV×Mem),t.ownT.holds L→t.holds fun x=>L (ownV x)
 |.leaf _,h=>h
 |.node _ t f,h=>⟨fun hb=>ownT_holds t (h.1 hb),fun hb=>ownT_holds f (h.2 hb)⟩
 |.req _ t,h=>⟨h.1,ownT_holds t h.2⟩
 |.fail _,h=>h.elim
theorem own_list{P:Program}{E:Env}(hK:Known P E)(n:Nat)(p:Plan){f:FuncId}{args:List SV}{t:Ty}{l:List t.T}{T:Tree SV}(hT:(execFn E n f args p).ownT=T)(h:T.holds fun v=>v=.list t l)(hd:dataL args=true){m m':Mem}(hp:MPush m (.rows t l) m'):SemCall P m (.row m.next) m' f args:=
 own_core hK (n:=n) (p:=p) hd (Tree.holds_mono (fun x hx=>ownV_row hx) _ (Tree.ownT_holds _ (by rw[hT];exact h))) hp
theorem own_nil{P:Program}{E:Env}(hK:Known P E)(n:Nat)(p:Plan){f:FuncId}{args:List SV}{t:Ty}{T:Tree SV}(hT:(execFn E n f args p).ownT=T)(h:T.holds fun v=>v=.nilS)(hd:dataL args=true){m m':Mem}(hp:MPush m (.rows t []) m'):SemCall P m (.row m.next) m' f args:=
 own_core hK (n:=n) (p:=p) (l:=([] :List t.T)) hd (Tree.holds_mono (fun x hx=>ownV_nil hx) _ (Tree.ownT_holds _ (by rw[hT];exact h))) hp
end Go.Sx
namespace Go.Proofs.YtnkaepnblikcdaaGreat
open Go.Sx
theorem clone_of{P:Program}{f:FuncId}{t:Ty}(hn:∀cap,SCall P f [.raw (.slice none 0 cap)] (.list t []))(hs:∀a cap,SCall P f [.raw (.slice (some a) 0 cap)] (.list t []))(l:List t.T)
  (hc:∀b r,l=b::r→SCall P f [.list t (b::r)] (.list t (b::r))):SCall P f [.list t l] (.list t l):=by
 cases l with
 |cons b r=>exact hc b r rfl
 |nil=>
  intro m w0 R0 ρ w vs hm hvs
  obtain⟨u,us,rfl,h1,h2⟩:=hvs
  rw[show us=[]from h2]
  obtain⟨a,cap,hxv,_,_⟩:=h1
  injection hxv with hxv
  subst hxv
  cases a with
  |none=>exact hn cap m w0 R0 ρ w [_] hm ⟨_,[],rfl,rfl,rfl⟩
  |some a=>exact hs a cap m w0 R0 ρ w [_] hm ⟨_,[],rfl,rfl,rfl⟩
theorem nil_list{P:Program}{f:FuncId}{t:Ty}{v:SV}(h:SCall P f [.list t []] v):SCall P f [.nilS] v:=by
 intro m w0 R0 ρ w vs hm hvs
 obtain⟨u,us,rfl,h1,h2⟩:=hvs
 refine h m w0 R0 ρ w _ hm ⟨u,us,rfl,?_,h2⟩
 exact⟨none,0,by rw[show u=_ from h1];rfl,Nat.le_refl _,fun h=>absurd h (Nat.lt_irrefl _)⟩
def few2(n:Nat):Bool:=decide ((n:Int)≤100000)
theorem few2_iff{n:Nat}:few2 n=true↔n≤100000:=by simp only[few2,decide_eq_true_eq];omega
theorem s_cloB(l:List Bk)(h:few2 l.length=true):SCall Tryz.prog 175 [LB l] (LB l):=by
 have h:=few2_iff.1 h
 refine clone_of (t:=tyBk) (fun cap=>?_) (fun a cap=>?_) l (fun b r hl=>?_)
 ·refine scallR_loops rfl rfl (by kernel_rfl) (runsR_seg k0 (n:=1000) (hint:=tyBk) (keep:=keepS 8 []) (p:=cloBn_p) (boxes:=[]) rfl ?_)
  have e:=cloBn cap
  unfold startS codeS at e
  erw [e]
  exact⟨rfl,rfl⟩
 ·refine scallR_loops rfl rfl (by kernel_rfl) (runsR_seg k0 (n:=1000) (hint:=tyBk) (keep:=keepS 8 []) (p:=cloBs_p) (boxes:=[]) rfl ?_)
  have e:=cloBs a cap
  unfold startS codeS at e
  erw [e]
  exact⟨rfl,rfl⟩
 ·subst hl
  refine scallR_loops rfl rfl (by kernel_rfl) (runsR_seg k0 (n:=1000) (hint:=tyBk) (keep:=keepS 8 []) (p:=cloBc_p) (boxes:=[]) rfl ?_)
  have e:=cloBc b r
  unfold startS codeS at e
  erw [e]
  refine⟨rfl,?_,rfl⟩
  rw[decide_eq_true_eq]
  have h:(List.length (α:=Ty.T tyBk) (b::r):Nat)≤100000:=h
  omega
theorem s_cloI(l:List Int)(h:few2 l.length=true):SCall Tryz.prog 176 [LI l] (LI l):=by
 have h:=few2_iff.1 h
 refine clone_of (t:=.int .i64) (fun cap=>?_) (fun a cap=>?_) l (fun b r hl=>?_)
 ·refine scallR_loops rfl rfl (by kernel_rfl) (runsR_seg k0 (n:=1000) (hint:=.int .i64) (keep:=keepS 8 []) (p:=cloIn_p) (boxes:=[]) rfl ?_)
  have e:=cloIn cap
  unfold startS codeS at e
  erw [e]
  exact⟨rfl,rfl⟩
 ·refine scallR_loops rfl rfl (by kernel_rfl) (runsR_seg k0 (n:=1000) (hint:=.int .i64) (keep:=keepS 8 []) (p:=cloIs_p) (boxes:=[]) rfl ?_)
  have e:=cloIs a cap
  unfold startS codeS at e
  erw [e]
  exact⟨rfl,rfl⟩
 ·subst hl
  refine scallR_loops rfl rfl (by kernel_rfl) (runsR_seg k0 (n:=1000) (hint:=.int .i64) (keep:=keepS 8 []) (p:=cloIc_p) (boxes:=[]) rfl ?_)
  have e:=cloIc b r
  unfold startS codeS at e
  erw [e]
  refine⟨rfl,?_,rfl⟩
  rw[decide_eq_true_eq]
  have h:(List.length (α:=Ty.T (.int .i64)) (b::r):Nat)≤100000:=h
  omega
def fCloB:Fact:=⟨175,fun args=>match args with
 |[.list (.pair (.pair (.int .i64) (.pair (.int .i64) (.pair (.int .i64) (.int .i64)))) (.pair (.int .i64) (.pair (.int .i64) (.pair (.int .i64) (.int .i64))))) l] =>some (.req (few2 (List.length l)) (.leaf (LB l)))
 |[.nilS] =>some (.leaf (LB []))
 |_=>none⟩
def fCloI:Fact:=⟨176,fun args=>match args with
 |[.list (.int .i64) l] =>some (.req (few2 (List.length l)) (.leaf (LI l)))
 |[.nilS] =>some (.leaf (LI []))
 |_=>none⟩
theorem o_cloB:fCloB.ok Tryz.prog:=fun args t ht=>by
 simp only[fCloB]at ht
 split at ht
 ·injection ht with ht;subst ht;exact s_cloB _
 ·injection ht with ht;subst ht
  exact nil_list (t:=tyBk) (s_cloB [] rfl)
 ·cases ht
theorem o_cloI:fCloI.ok Tryz.prog:=fun args t ht=>by
 simp only[fCloI]at ht
 split at ht
 ·injection ht with ht;subst ht;exact s_cloI _
 ·injection ht with ht;subst ht
  exact nil_list (t:=.int .i64) (s_cloI [] rfl)
 ·cases ht
theorem own_clone{P:Program}{f:FuncId}{t:Ty}(hn:∀cap m m',MPush m (.rows t []) m'→SemCall P m (.row m.next) m' f [.raw (.slice none 0 cap)])(hs:∀a cap m m',MPush m (.rows t []) m'→SemCall P m (.row m.next) m' f [.raw (.slice (some a) 0 cap)])(l:List t.T)
  (hc:∀b r,l=b::r→∀m m',MPush m (.rows t (b::r)) m'→SemCall P m (.row m.next) m' f [.list t (b::r)]) {m m':Mem} (hp:MPush m (.rows t l) m'):SemCall P m (.row m.next) m' f [.list t l] :=by
 cases l with
 |cons b r=>exact hc b r rfl m m' hp
 |nil=>
  intro w0 R0 ρ w vs hm hvs
  obtain⟨u,us,rfl,h1,h2⟩:=hvs
  rw[show us=[]from h2]
  obtain⟨a,cap,hxv,_,_⟩:=h1
  injection hxv with hxv
  subst hxv
  cases a with
  |none=>exact hn cap m m' hp w0 R0 ρ w [_] hm ⟨_,[],rfl,rfl,rfl⟩
  |some a=>exact hs a cap m m' hp w0 R0 ρ w [_] hm ⟨_,[],rfl,rfl,rfl⟩
theorem oT_Bn(cap:Nat):(execFn (Env.of Tryz.prog (sumOf [])) 1000 175 [.raw (.slice none 0 cap)] cloBn_p).ownT=.req true (.leaf .nilS):=by kernel_rfl
theorem oT_Bs(a:Addr)(cap:Nat):(execFn (Env.of Tryz.prog (sumOf [])) 1000 175 [.raw (.slice (some a) 0 cap)] cloBs_p).ownT=.req true (.leaf .nilS):=by kernel_rfl
theorem oT_Bc(b:Bk)(l:List Bk):(execFn (Env.of Tryz.prog (sumOf [])) 1000 175 [.list tyBk (b::l)] cloBc_p).ownT=.req (!(b::l).isEmpty) (.req (decide ((0+(b::l).length)*64≤140737488355328)) (.leaf (.list tyBk (b::l)))):=by kernel_rfl
theorem oT_In(cap:Nat):(execFn (Env.of Tryz.prog (sumOf [])) 1000 176 [.raw (.slice none 0 cap)] cloIn_p).ownT=.req true (.leaf .nilS):=by kernel_rfl
theorem oT_Is(a:Addr)(cap:Nat):(execFn (Env.of Tryz.prog (sumOf [])) 1000 176 [.raw (.slice (some a) 0 cap)] cloIs_p).ownT=.req true (.leaf .nilS):=by kernel_rfl
theorem oT_Ic(b:Int)(l:List Int):(execFn (Env.of Tryz.prog (sumOf [])) 1000 176 [.list (.int .i64) (b::l)] cloIc_p).ownT=.req (!(b::l).isEmpty) (.req (decide ((0+(b::l).length)*8≤140737488355328)) (.leaf (.list (.int .i64) (b::l)))):=by kernel_rfl
theorem own_B(l:List Bk)(h:few2 l.length=true):OwnCall Tryz.prog 175 [LB l] (.row 0,mem1 tyBk l):=
 own_of (t:=tyBk) fun m m' hp=>own_clone (t:=tyBk) (fun cap m m' hp=>own_nil k0 1000 cloBn_p (oT_Bn cap) ⟨rfl,rfl⟩ rfl hp) (fun a cap m m' hp=>own_nil k0 1000 cloBs_p (oT_Bs a cap) ⟨rfl,rfl⟩ rfl hp) l (fun b r e m m' hp=>own_list (t:=tyBk) k0 1000 cloBc_p (oT_Bc b r) ⟨rfl,by
  have h:=few2_iff.1 h
  rw[e]at h
  rw[decide_eq_true_eq]
  have h:(List.length (α:=Ty.T tyBk) (b::r):Nat)≤100000:=h
  omega,rfl⟩ rfl hp) hp
theorem own_I(l:List Int)(h:few2 l.length=true):OwnCall Tryz.prog 176 [LI l] (.row 0,mem1 (.int .i64) l):=
 own_of (t:=.int .i64) fun m m' hp=>own_clone (t:=.int .i64) (fun cap m m' hp=>own_nil k0 1000 cloIn_p (oT_In cap) ⟨rfl,rfl⟩ rfl hp) (fun a cap m m' hp=>own_nil k0 1000 cloIs_p (oT_Is a cap) ⟨rfl,rfl⟩ rfl hp) l (fun b r e m m' hp=>own_list (t:=.int .i64) k0 1000 cloIc_p (oT_Ic b r) ⟨rfl,by
  have h:=few2_iff.1 h
  rw[e]at h
  rw[decide_eq_true_eq]
  have h:(List.length (α:=Ty.T (.int .i64)) (b::r):Nat)≤100000:=h
  omega,rfl⟩ rfl hp) hp
theorem own_nilS{P:Program}{f:FuncId}{t:Ty}{x:SV×Mem}(h:OwnCall P f [.list t []] x):OwnCall P f [.nilS] x:=by
 intro m v' m' ha w0 R0 ρ w vs hm hvs
 obtain⟨u,us,rfl,h1,h2⟩:=hvs
 refine h m v' m' ha w0 R0 ρ w _ hm ⟨u,us,rfl,?_,h2⟩
 exact⟨none,0,by rw[show u=_ from h1];rfl,Nat.le_refl _,fun h=>absurd h (Nat.lt_irrefl _)⟩
noncomputable def oCloB:OFact:=⟨175,fun args=>match args with
 |[.list (.pair (.pair (.int .i64) (.pair (.int .i64) (.pair (.int .i64) (.int .i64)))) (.pair (.int .i64) (.pair (.int .i64) (.pair (.int .i64) (.int .i64))))) l] =>some (.req (few2 (List.length l)) (.leaf (.row 0,mem1 tyBk l)))
 |[.nilS] =>some (.leaf (.row 0,mem1 tyBk []))
 |_=>none⟩
noncomputable def oCloI:OFact:=⟨176,fun args=>match args with
 |[.list (.int .i64) l] =>some (.req (few2 (List.length l)) (.leaf (.row 0,mem1 (.int .i64) l)))
 |[.nilS] =>some (.leaf (.row 0,mem1 (.int .i64) []))
 |_=>none⟩
theorem o_oCloB:oCloB.ok Tryz.prog:=fun args t ht=>by
 simp only[oCloB]at ht
 split at ht
 ·injection ht with ht;subst ht;exact own_B _
 ·injection ht with ht;subst ht;exact own_nilS (t:=tyBk) (own_B [] rfl)
 ·cases ht
theorem o_oCloI:oCloI.ok Tryz.prog:=fun args t ht=>by
 simp only[oCloI]at ht
 split at ht
 ·injection ht with ht;subst ht;exact own_I _
 ·injection ht with ht;subst ht;exact own_nilS (t:=.int .i64) (own_I [] rfl)
 ·cases ht
def len8:List UInt8:=[0,1,2,2,3,3,3,3,4,4,4,4,4,4,4,4,5,5,5,5,5,5,5,5,5,5,5,5,5,5,5,5,6,6,6,6,6,6,6,6,6,6,6,6,6,6,6,6,6,6,6,6,6,6,6,6,6,6,6,6,6,6,6,6,7,7,7,7,7,7,7,7,7,7,7,7,7,7,7,7,7,7,7,7,7,7,7,7,7,7,7,7,7,7,7,7,7,7,7,7,7,7,7,7,7,7,7,7,7,7,7,7,7,7,7,7,7,7,7,7,7,7,7,7,7,7,7,7,8,8,8,8,8,8,8,8,8,8,8,8,8,8,8,8,8,8,8,8,8,8,8,8,8,8,8,8,8,8,8,8,8,8,8,8,8,8,8,8,8,8,8,8,8,8,8,8,8,8,8,8,8,8,8,8,8,8,8,8,8,8,8,8,8,8,8,8,8,8,8,8,8,8,8,8,8,8,8,8,8,8,8,8,8,8,8,8,8,8,8,8,8,8,8,8,8,8,8,8,8,8,8,8,8,8,8,8,8,8,8,8,8,8,8,8,8,8,8,8,8,8,8,8,8,8,8,8]
def U64(n:Int):SV:=.int .u64 n
def lenB(x:Int):Int:=(len8.getD x.toNat 0).toNat
def lenV(x:Int):Int:=
 if x≥4294967296 then
  if x / 4294967296≥65536 then
   if x / 4294967296 / 65536≥256 then 56+lenB (x / 4294967296 / 65536 / 256)else 48+lenB (x / 4294967296 / 65536)
  else if x / 4294967296≥256 then 40+lenB (x / 4294967296 / 256)else 32+lenB (x / 4294967296)
 else if x≥65536 then
  if x / 65536≥256 then 24+lenB (x / 65536 / 256)else 16+lenB (x / 65536)
 else if x≥256 then 8+lenB (x / 256)else lenB x
def okU(x:Int):Bool:=inR x 0 18446744073709551615
def factU(f:FuncId)(h:Int→Tree SV):Fact:=⟨f,fun args=>match args with
 |[.int .u64 a] =>some (h a)
 |_=>none⟩
theorem factU_ok{P:Program}{f:FuncId}{h:Int→Tree SV}(k:∀a,(h a).says (SCall P f [U64 a])):(factU f h).ok P:=fun args t ht=>by
 simp only[factU]at ht
 split at ht
 ·injection ht with ht;subst ht;exact k _
 ·cases ht
def factUU(f:FuncId)(h:Int→Int→Tree SV):Fact:=⟨f,fun args=>match args with
 |[.int .u64 a,.int .u64 b] =>some (h a b)
 |_=>none⟩
theorem factUU_ok{P:Program}{f:FuncId}{h:Int→Int→Tree SV}(k:∀a b,(h a b).says (SCall P f [U64 a,U64 b])):(factUU f h).ok P:=fun args t ht=>by
 simp only[factUU]at ht
 split at ht
 ·injection ht with ht;subst ht;exact k _ _
 ·cases ht
def factUUU(f:FuncId)(h:Int→Int→Int→Tree SV):Fact:=⟨f,fun args=>match args with
 |[.int .u64 a,.int .u64 b,.int .u64 c] =>some (h a b c)
 |_=>none⟩
theorem factUUU_ok{P:Program}{f:FuncId}{h:Int→Int→Int→Tree SV}(k:∀a b c,(h a b c).says (SCall P f [U64 a,U64 b,U64 c])):(factUUU f h).ok P:=fun args t ht=>by
 simp only[factUUU]at ht
 split at ht
 ·injection ht with ht;subst ht;exact k _ _ _
 ·cases ht
theorem len8_spec:((List.range 256).all fun k=>Nat.ble (len8.getD k 0).toNat 8&& (Nat.beq k 0||(Nat.ble (2 ^ ((len8.getD k 0).toNat-1)) k&& (Nat.blt k (2 ^ (len8.getD k 0).toNat)&&Nat.ble 1 (len8.getD k 0).toNat))))=true:=by kernel_rfl
theorem lenB_spec{x:Int}(h0:1≤x)(h1:x<256):∃t:Nat,lenB x=t∧1≤t∧t≤8∧(2:Int) ^ (t-1)≤x∧x<2 ^ t:=by
 have h:=List.all_eq_true.1 len8_spec x.toNat (List.mem_range.2 (by omega))
 simp only[Bool.and_eq_true,Bool.or_eq_true,Nat.ble_eq,Nat.beq_eq_true_eq,Nat.blt_eq]at h
 obtain⟨h2,h3⟩:=h
 rcases h3 with h3|⟨h3,h4,h5⟩
 ·have:=Nat.eq_of_beq_eq_true h3;omega
 ·refine⟨_,rfl,h5,h2,?_,?_⟩
  ·have:((2 ^ ((len8.getD x.toNat 0).toNat-1):Nat):Int)≤(x.toNat:Int):=Int.ofNat_le.2 h3
   rw[Int.toNat_of_nonneg (by omega)]at this
   simpa using this
  ·have:((x.toNat:Nat):Int)< ((2 ^ ((len8.getD x.toNat 0).toNat):Nat):Int):=Int.ofNat_lt.2 h4
   rw[Int.toNat_of_nonneg (by omega)]at this
   simpa using this
theorem len_up{x:Int}{e t:Nat}(ht:1≤t)(h1:(2:Int) ^ (t-1)≤x / 2 ^ e)(h2:x / 2 ^ e<2 ^ t):(2:Int) ^ (e+t-1)≤x∧x<2 ^ (e+t):=by
 have hp:(0:Int)<2 ^ e:=pow_pos' e
 constructor
 ·rw[Int.le_ediv_iff_mul_le hp]at h1
  rw[show e+t-1=(t-1)+e by omega,Int.pow_add];exact h1
 ·rw[Int.ediv_lt_iff_lt_mul hp]at h2
  rw[show e+t=t+e by omega,Int.pow_add];exact h2
theorem lenV_spec{x:Int}(h0:1≤x)(h1:x<18446744073709551616):∃n:Nat,lenV x=n∧1≤n∧n≤64∧(2:Int) ^ (n-1)≤x∧x<2 ^ n:=by
 have go:∀ (e:Nat) (k:Int),e≤56→k=x / 2 ^ e→1≤k→k<256→∃n:Nat,(e:Int)+lenB k=n∧1≤n∧n≤64∧(2:Int) ^ (n-1)≤x∧x<2 ^ n:=fun e k he hk k1 k2=>by
  obtain⟨t,e1,e2,e3,e4,e5⟩:=lenB_spec k1 k2
  rw[hk]at e4 e5
  obtain⟨u1,u2⟩:=len_up e2 e4 e5
  exact⟨e+t,by rw[e1];simp,by omega,by omega,u1,u2⟩
 unfold lenV
 (repeat' split)
 ·exact go 56 _ (by omega) (by rw[show(2:Int) ^ 56=72057594037927936 by decide];omega) (by omega) (by omega)
 ·exact go 48 _ (by omega) (by rw[show(2:Int) ^ 48=281474976710656 by decide];omega) (by omega) (by omega)
 ·exact go 40 _ (by omega) (by rw[show(2:Int) ^ 40=1099511627776 by decide];omega) (by omega) (by omega)
 ·exact go 32 _ (by omega) (by rw[show(2:Int) ^ 32=4294967296 by decide]) (by omega) (by omega)
 ·exact go 24 _ (by omega) (by rw[show(2:Int) ^ 24=16777216 by decide];omega) (by omega) (by omega)
 ·exact go 16 _ (by omega) (by rw[show(2:Int) ^ 16=65536 by decide]) (by omega) (by omega)
 ·exact go 8 _ (by omega) (by rw[show(2:Int) ^ 8=256 by decide]) (by omega) (by omega)
 ·have:=go 0 x (by omega) (by simp) (by omega) (by omega)
  simpa using this
theorem lenB_rng(x:Int):0≤lenB x∧lenB x≤255:=by unfold lenB;have:=(len8.getD x.toNat 0).toNat_lt;omega
theorem w8{x:Int}(h0:0≤x)(h1:x<256):IntKind.u8.wrap x=x:=by
 have h2:IntKind.wrap .u8 x=if false&&decide (x % 256≥128)then x % 256-256 else x % 256:=rfl
 rw[h2]
 simp only[Bool.false_and,Bool.false_eq_true,if_false]
 omega
theorem wU(x:Int):u64.wrap x=x % 18446744073709551616:=by
 have h2:IntKind.wrap .u64 x=if false&&decide (x % 18446744073709551616≥9223372036854775808)then x % 18446744073709551616-18446744073709551616 else x % 18446744073709551616:=rfl
 rw[h2]
 simp only[Bool.false_and,Bool.false_eq_true,if_false]
theorem and32{x:Int}(h0:0≤x)(h1:x<18446744073709551616):(((BitVec.ofInt 64 x &&&BitVec.ofInt 64 4294967295).toNat:Nat):Int)=x % 4294967296:=by
 obtain⟨m,rfl⟩:=Int.eq_ofNat_of_zero_le h0
 have e1:(BitVec.ofInt 64 (m:Int)).toNat=m:=by
  rw[BitVec.toNat_ofInt]
  have:((2 ^ 64:Nat):Int)=18446744073709551616:=rfl
  rw[this];omega
 have e2:(BitVec.ofInt 64 4294967295).toNat=2 ^ 32-1:=by decide
 rw[BitVec.toNat_and,e1,e2,Nat.and_two_pow_sub_one_eq_mod]
 omega
theorem s_len(x:Int)(h:okU x=true):SCall Tryz.prog 318 [U64 x] (I64 (lenV x)):=
 scall_v mix [] trivial 1000 (.fork (.fork (.fork (.all) (.all)) (.fork (.all) (.all))) (.fork (.fork (.all) (.all)) (.fork (.all) (.all))))
  (t:=.node (decide (x≥4294967296)) (.req true (.node (decide (x.fdiv 4294967296≥65536)) (.req true (.node (decide ((x.fdiv 4294967296).fdiv 65536≥256)) (.req true (.req (decide (0≤IntKind.u8.wrap (((x.fdiv 4294967296).fdiv 65536).fdiv 256))&&decide (IntKind.u8.wrap (((x.fdiv 4294967296).fdiv 65536).fdiv 256)<256)) (.leaf (.int .i64 (i64.wrap (56+i64.wrap (↑(len8.getD (IntKind.u8.wrap (((x.fdiv 4294967296).fdiv 65536).fdiv 256)).toNat 0).toNat:Int))))))) (.req (decide (0≤IntKind.u8.wrap ((x.fdiv 4294967296).fdiv 65536))&&decide (IntKind.u8.wrap ((x.fdiv 4294967296).fdiv 65536)<256)) (.leaf (.int .i64 (i64.wrap (48+i64.wrap (↑(len8.getD (IntKind.u8.wrap ((x.fdiv 4294967296).fdiv 65536)).toNat 0).toNat:Int)))))))) (.node (decide (x.fdiv 4294967296≥256)) (.req true (.req (decide (0≤IntKind.u8.wrap ((x.fdiv 4294967296).fdiv 256))&&decide (IntKind.u8.wrap ((x.fdiv 4294967296).fdiv 256)<256)) (.leaf (.int .i64 (i64.wrap (40+i64.wrap (↑(len8.getD (IntKind.u8.wrap ((x.fdiv 4294967296).fdiv 256)).toNat 0).toNat:Int))))))) (.req (decide (0≤IntKind.u8.wrap (x.fdiv 4294967296))&&decide (IntKind.u8.wrap (x.fdiv 4294967296)<256)) (.leaf (.int .i64 (i64.wrap (32+i64.wrap (↑(len8.getD (IntKind.u8.wrap (x.fdiv 4294967296)).toNat 0).toNat:Int))))))))) (.node (decide (x≥65536)) (.req true (.node (decide (x.fdiv 65536≥256)) (.req true (.req (decide (0≤IntKind.u8.wrap ((x.fdiv 65536).fdiv 256))&&decide (IntKind.u8.wrap ((x.fdiv 65536).fdiv 256)<256)) (.leaf (.int .i64 (i64.wrap (24+i64.wrap (↑(len8.getD (IntKind.u8.wrap ((x.fdiv 65536).fdiv 256)).toNat 0).toNat:Int))))))) (.req (decide (0≤IntKind.u8.wrap (x.fdiv 65536))&&decide (IntKind.u8.wrap (x.fdiv 65536)<256)) (.leaf (.int .i64 (i64.wrap (16+i64.wrap (↑(len8.getD (IntKind.u8.wrap (x.fdiv 65536)).toNat 0).toNat:Int)))))))) (.node (decide (x≥256)) (.req true (.req (decide (0≤IntKind.u8.wrap (x.fdiv 256))&&decide (IntKind.u8.wrap (x.fdiv 256)<256)) (.leaf (.int .i64 (i64.wrap (8+i64.wrap (↑(len8.getD (IntKind.u8.wrap (x.fdiv 256)).toNat 0).toNat:Int))))))) (.req (decide (0≤IntKind.u8.wrap x)&&decide (IntKind.u8.wrap x<256)) (.leaf (.int .i64 (i64.wrap (0+i64.wrap (↑(len8.getD (IntKind.u8.wrap x).toNat 0).toNat:Int)))))))))
  (by kernel_rfl) (by
   have r:=inR_iff.1 h
   have f1:∀y:Int,y.fdiv 4294967296=y / 4294967296:=fun y=>Int.fdiv_eq_ediv_of_nonneg _ (by omega)
   have f2:∀y:Int,y.fdiv 65536=y / 65536:=fun y=>Int.fdiv_eq_ediv_of_nonneg _ (by omega)
   have f3:∀y:Int,y.fdiv 256=y / 256:=fun y=>Int.fdiv_eq_ediv_of_nonneg _ (by omega)
   simp only[f1,f2,f3]
   have g:∀k:Int,0≤k→k<256→i64.wrap (((len8.getD (IntKind.u8.wrap k).toNat 0).toNat:Nat):Int)=lenB k:=fun k h0 h1=>by
    have:=lenB_rng k
    rw[w8 h0 h1];exact w64 (by have:((len8.getD k.toNat 0).toNat:Int)=lenB k:=rfl;omega) (by have:((len8.getD k.toNat 0).toNat:Int)=lenB k:=rfl;omega)
   simp only[Tree.holds,sL,ne_eq,beq_iff_eq,bne_iff_ne,eq_self,beq_eq_false_iff_ne,bne_eq_false_iff_eq,implies_true];(repeat' (first|apply And.intro|intro _));
   all_goals first
    |(rw[w8 (by omega) (by omega)];omega)
    |(rw[g _ (by omega) (by omega)]
      refine sv_int ?_
      have:=lenB_rng
      unfold lenV
      repeat first|rw[if_pos (by omega)] |rw[if_neg (by omega)]
      first
      |(rw[w64 (by have:=lenB_rng (x / 4294967296 / 65536 / 256);omega) (by have:=lenB_rng (x / 4294967296 / 65536 / 256);omega)])
      |(rw[w64 (by have:=lenB_rng (x / 4294967296 / 65536);omega) (by have:=lenB_rng (x / 4294967296 / 65536);omega)])
      |(rw[w64 (by have:=lenB_rng (x / 4294967296 / 256);omega) (by have:=lenB_rng (x / 4294967296 / 256);omega)])
      |(rw[w64 (by have:=lenB_rng (x / 4294967296);omega) (by have:=lenB_rng (x / 4294967296);omega)])
      |(rw[w64 (by have:=lenB_rng (x / 65536 / 256);omega) (by have:=lenB_rng (x / 65536 / 256);omega)])
      |(rw[w64 (by have:=lenB_rng (x / 65536);omega) (by have:=lenB_rng (x / 65536);omega)])
      |(rw[w64 (by have:=lenB_rng (x / 256);omega) (by have:=lenB_rng (x / 256);omega)])
      |(rw[w64 (by have:=lenB_rng x;omega) (by have:=lenB_rng x;omega)];omega))) (by kernel_rfl) (by kernel_rfl)
def fLen:Fact:=factU 318 fun x=>.req (okU x) (.leaf (I64 (lenV x)))
theorem o_len:fLen.ok Tryz.prog:=factU_ok fun x h=>s_len x h
def prodS(x y:Int):SV:=.tuple [U64 (x*y / 18446744073709551616),U64 (x*y % 18446744073709551616)]
theorem pair_u{a b c d:Int}(h:a=c)(k:b=d):SV.tuple [SV.int .u64 a,SV.int .u64 b] =SV.tuple [U64 c,U64 d] :=by subst h k;rfl
theorem s_mul(x y:Int)(hx:okU x=true)(hy:okU y=true):SCall Tryz.prog 331 [U64 x,U64 y] (prodS x y):=
 scall_v mix [] trivial 1000 (.all)
  (t:=let y1:=(↑(BitVec.ofInt 64 x &&&BitVec.ofInt 64 4294967295).toNat:Int);let y2:=(↑(BitVec.ofInt 64 y &&&BitVec.ofInt 64 4294967295).toNat:Int);let y0:=u64.wrap (u64.wrap (x.fdiv 4294967296*u64.wrap y2)+(u64.wrap (u64.wrap y1*u64.wrap y2)).fdiv 4294967296);.req (true) (.req true (.req (true) (.req true (.req (true) (.leaf (.tuple [.int .u64 (u64.wrap (u64.wrap (u64.wrap (x.fdiv 4294967296*y.fdiv 4294967296)+y0.fdiv 4294967296)+(u64.wrap (u64.wrap (↑(BitVec.ofInt 64 y0 &&&BitVec.ofInt 64 4294967295).toNat:Int)+u64.wrap (u64.wrap y1*y.fdiv 4294967296))).fdiv 4294967296)),.int .u64 (u64.wrap (x*y))])))))))
  (by kernel_rfl) (by
   have rx:=inR_iff.1 hx
   have ry:=inR_iff.1 hy
   obtain⟨X,rfl⟩:=Int.eq_ofNat_of_zero_le rx.1
   obtain⟨Y,rfl⟩:=Int.eq_ofNat_of_zero_le ry.1
   have f1:∀y:Int,y.fdiv 4294967296=y / 4294967296:=fun y=>Int.fdiv_eq_ediv_of_nonneg _ (by omega)
   simp only[Tree.holds,f1,and32 rx.1 (by omega),and32 ry.1 (by omega),true_and]
   obtain⟨k1,k2,k3,k4⟩:=Go.Lib.mul64_hi X Y (by omega) (by omega)
   have wN:∀n:Nat,n<18446744073709551616→u64.wrap (n:Int)=(n:Int):=fun n hn=>by rw[wU];omega
   have c1:(X:Int) % 4294967296=((X % 4294967296:Nat):Int):=by omega
   have c2:(Y:Int) % 4294967296=((Y % 4294967296:Nat):Int):=by omega
   have c3:(X:Int) / 4294967296=((X / 4294967296:Nat):Int):=by omega
   have c4:(Y:Int) / 4294967296=((Y / 4294967296:Nat):Int):=by omega
   have q1:=Nat.mul_le_mul (show X / 4294967296≤4294967295 by omega) (show Y % 4294967296≤4294967295 by omega)
   have q2:=Nat.mul_le_mul (show X % 4294967296≤4294967295 by omega) (show Y / 4294967296≤4294967295 by omega)
   have q3:=Nat.mul_le_mul (show X / 4294967296≤4294967295 by omega) (show Y / 4294967296≤4294967295 by omega)
   have q4:=Nat.mul_le_mul (show X % 4294967296≤4294967295 by omega) (show Y % 4294967296≤4294967295 by omega)
   simp only[c1,c2,c3,c4,←Int.natCast_mul,wN _ (show X % 4294967296<18446744073709551616 by omega),wN _ (show Y % 4294967296<18446744073709551616 by omega)]
   generalize ha:X / 4294967296*(Y % 4294967296)=a at *
   generalize hb:X % 4294967296*(Y / 4294967296)=b at *
   generalize hc:X / 4294967296*(Y / 4294967296)=c at *
   generalize hd:X % 4294967296*(Y % 4294967296)=d at *
   simp only[wN a (by omega),wN b (by omega),wN c (by omega),wN d (by omega)]
   have c5:((d:Nat):Int) / 4294967296=((d / 4294967296:Nat):Int):=by omega
   simp only[c5,←Int.natCast_add]
   have ea:=wN (a+d / 4294967296) (by omega)
   simp only[ea]
   have c6:=and32 (x:=((a+d / 4294967296:Nat):Int)) (by omega) (by omega)
   simp only[c6]
   refine pair_u ?_ ?_
   ·simp only[wU];omega
   ·rw[wU];omega) (by kernel_rfl) (by kernel_rfl)
theorem s_mulR(x y:Int)(hx:okU x=true)(hy:okU y=true):SCall Tryz.prog 247 [U64 x,U64 y] (prodS x y):=
 scall_v mix [] trivial 1000 (.all)
  (t:=let y1:=(↑(BitVec.ofInt 64 x &&&BitVec.ofInt 64 4294967295).toNat:Int);let y2:=(↑(BitVec.ofInt 64 y &&&BitVec.ofInt 64 4294967295).toNat:Int);let y0:=u64.wrap (u64.wrap (x.fdiv 4294967296*u64.wrap y2)+(u64.wrap (u64.wrap y1*u64.wrap y2)).fdiv 4294967296);.req (true) (.req true (.req (true) (.req true (.req (true) (.leaf (.tuple [.int .u64 (u64.wrap (u64.wrap (u64.wrap (x.fdiv 4294967296*y.fdiv 4294967296)+y0.fdiv 4294967296)+(u64.wrap (u64.wrap (u64.wrap y1*y.fdiv 4294967296)+u64.wrap (↑(BitVec.ofInt 64 y0 &&&BitVec.ofInt 64 4294967295).toNat:Int))).fdiv 4294967296)),.int .u64 (u64.wrap (x*y))])))))))
  (by kernel_rfl) (by
   have rx:=inR_iff.1 hx
   have ry:=inR_iff.1 hy
   obtain⟨X,rfl⟩:=Int.eq_ofNat_of_zero_le rx.1
   obtain⟨Y,rfl⟩:=Int.eq_ofNat_of_zero_le ry.1
   have f1:∀y:Int,y.fdiv 4294967296=y / 4294967296:=fun y=>Int.fdiv_eq_ediv_of_nonneg _ (by omega)
   simp only[Tree.holds,f1,and32 rx.1 (by omega),and32 ry.1 (by omega),true_and]
   obtain⟨k1,k2,k3,k4⟩:=Go.Lib.mul64_hi X Y (by omega) (by omega)
   have wN:∀n:Nat,n<18446744073709551616→u64.wrap (n:Int)=(n:Int):=fun n hn=>by rw[wU];omega
   have c1:(X:Int) % 4294967296=((X % 4294967296:Nat):Int):=by omega
   have c2:(Y:Int) % 4294967296=((Y % 4294967296:Nat):Int):=by omega
   have c3:(X:Int) / 4294967296=((X / 4294967296:Nat):Int):=by omega
   have c4:(Y:Int) / 4294967296=((Y / 4294967296:Nat):Int):=by omega
   have q1:=Nat.mul_le_mul (show X / 4294967296≤4294967295 by omega) (show Y % 4294967296≤4294967295 by omega)
   have q2:=Nat.mul_le_mul (show X % 4294967296≤4294967295 by omega) (show Y / 4294967296≤4294967295 by omega)
   have q3:=Nat.mul_le_mul (show X / 4294967296≤4294967295 by omega) (show Y / 4294967296≤4294967295 by omega)
   have q4:=Nat.mul_le_mul (show X % 4294967296≤4294967295 by omega) (show Y % 4294967296≤4294967295 by omega)
   simp only[c1,c2,c3,c4,←Int.natCast_mul,wN _ (show X % 4294967296<18446744073709551616 by omega),wN _ (show Y % 4294967296<18446744073709551616 by omega)]
   generalize ha:X / 4294967296*(Y % 4294967296)=a at *
   generalize hb:X % 4294967296*(Y / 4294967296)=b at *
   generalize hc:X / 4294967296*(Y / 4294967296)=c at *
   generalize hd:X % 4294967296*(Y % 4294967296)=d at *
   simp only[wN a (by omega),wN b (by omega),wN c (by omega),wN d (by omega)]
   have c5:((d:Nat):Int) / 4294967296=((d / 4294967296:Nat):Int):=by omega
   simp only[c5,←Int.natCast_add]
   have ea:=wN (a+d / 4294967296) (by omega)
   simp only[ea]
   have c6:=and32 (x:=((a+d / 4294967296:Nat):Int)) (by omega) (by omega)
   simp only[c6]
   refine pair_u ?_ ?_
   ·simp only[wU];omega
   ·rw[wU];omega) (by kernel_rfl) (by kernel_rfl)
def fMul:Fact:=factUU 331 fun x y=>.req (okU x) (.req (okU y) (.leaf (prodS x y)))
def fMulR:Fact:=factUU 247 fun x y=>.req (okU x) (.req (okU y) (.leaf (prodS x y)))
theorem o_mul:fMul.ok Tryz.prog:=factUU_ok (fun x y hx hy=>s_mul x y hx hy)
theorem o_mulR:fMulR.ok Tryz.prog:=factUU_ok (fun x y hx hy=>s_mulR x y hx hy)
def siz(x:Int):Int:=if x<0 then -x else x
def ok63(x:Int):Bool:=inR x (-9223372036854775808) 9223372036854775807
theorem s_siz(x:Int)(h:ok63 x=true):SCall Tryz.prog 332 [I64 x] (U64 (siz x)):=
 scall_v mix [] trivial 1000 (.fork (.all) (.all))
  (t:=.node (decide (x<0))
 (.leaf (SV.int IntKind.u64 (u64.wrap (0-u64.wrap x))))
 (.leaf (SV.int IntKind.u64 (u64.wrap x))))
   (by kernel_rfl) (by
    have r:=inR_iff.1 h
    simp only[Tree.holds,sL,ne_eq,beq_iff_eq,bne_iff_ne,eq_self,beq_eq_false_iff_ne,bne_eq_false_iff_eq,implies_true]
    refine⟨fun hc=>?_,fun hc=>?_⟩<;>unfold siz U64<;>simp only[wU]
    ·rw[if_pos hc];congr 1;omega
    ·rw[if_neg hc];congr 1;omega) (by kernel_rfl) (by kernel_rfl)
theorem s_sizR(x:Int)(h:ok63 x=true):SCall Tryz.prog 248 [I64 x] (U64 (siz x)):=
 scall_v mix [] trivial 1000 (.fork (.all) (.all))
  (t:=.node (decide (x<0))
 (.leaf (SV.int IntKind.u64 (u64.wrap (0-u64.wrap x))))
 (.leaf (SV.int IntKind.u64 (u64.wrap x))))
   (by kernel_rfl) (by
    have r:=inR_iff.1 h
    simp only[Tree.holds,sL,ne_eq,beq_iff_eq,bne_iff_ne,eq_self,beq_eq_false_iff_ne,bne_eq_false_iff_eq,implies_true]
    refine⟨fun hc=>?_,fun hc=>?_⟩<;>unfold siz U64<;>simp only[wU]
    ·rw[if_pos hc];congr 1;omega
    ·rw[if_neg hc];congr 1;omega) (by kernel_rfl) (by kernel_rfl)
def fSiz:Fact:=factI 332 fun x=>.req (ok63 x) (.leaf (U64 (siz x)))
def fSizR:Fact:=factI 248 fun x=>.req (ok63 x) (.leaf (U64 (siz x)))
theorem o_siz:fSiz.ok Tryz.prog:=factI_ok (fun x h=>s_siz x h)
theorem o_sizR:fSizR.ok Tryz.prog:=factI_ok (fun x h=>s_sizR x h)
theorem s_lz(x:Int)(h:(okU x&&decide (1≤x))=true):SCall Tryz.prog 337 [U64 x] (I64 (64-lenV x)):=
 scall_v mix [fLen] ⟨o_len,trivial⟩ 1000 (.all)
  (t:=.req (okU x) (.leaf (SV.int IntKind.i64 (i64.wrap (64-lenV x)))))
  (by kernel_rfl) (by
   rw[Bool.and_eq_true,decide_eq_true_eq]at h
   have r:=inR_iff.1 h.1
   obtain⟨n,e1,e2,e3,_⟩:=lenV_spec h.2 (by omega)
   refine⟨h.1,?_⟩
   rw[w64 (by omega) (by omega)];rfl) (by kernel_rfl) (by kernel_rfl)
def fLz:Fact:=factU 337 fun x=>.req (okU x&&decide (1≤x)) (.leaf (I64 (64-lenV x)))
theorem o_lz:fLz.ok Tryz.prog:=factU_ok fun x h=>s_lz x h
def dv0_p:Plan:=.fork (.all) (.fork (.all) (.fork (.all) (.all)))
noncomputable def dv0_t(h l y:Int):Tree Stop:=let y2:=u64.wrap (64-lenV y);let y0:=(↑(BitVec.ofInt 64 (u64.wrap (h*2 ^ min y2.toNat 64)) |||BitVec.ofInt 64 (l.fdiv (2 ^ min (u64.wrap (64-u64.wrap (64-lenV y))).toNat 64))).toNat:Int);let y1:=u64.wrap (y*2 ^ min y2.toNat 64);let y3:=decide (0≤u64.wrap (64-lenV y)); .node (y==0) (.fail 14) (.node (decide (y≤h)) (.fail 14) (.node (h==0) (.req (!y==0) (.req (!y==0) (.leaf (.done (.tuple [.int .u64 (u64.wrap (l.tdiv y)),.int .u64 (l.tmod y)]))))) (.req (okU y&&decide (1≤y)) (.req y3 (.req true (.req y3 (.req (decide (0≤u64.wrap (64-u64.wrap (64-lenV y)))) (.req y3 (.req true (.req (!y1.fdiv 4294967296==0) (.leaf (.at (loopOf Tryz.prog 333 0) 135 (slotsS 135 [(2,.int .u64 y1),(8,.int .u64 y2),(9,.int .u64 (y1.fdiv 4294967296)),(10,.int .u64 (u64.wrap (↑(BitVec.ofInt 64 y1 &&&BitVec.ofInt 64 4294967295).toNat:Int))),(11,.int .u64 (u64.wrap y0)),(13,.int .u64 ((u64.wrap (l*2 ^ min y2.toNat 64)).fdiv 4294967296)),(14,.int .u64 (u64.wrap (↑(BitVec.ofInt 64 (u64.wrap (l*2 ^ min y2.toNat 64)) &&&BitVec.ofInt 64 4294967295).toNat:Int))),(15,.int .u64 (u64.wrap ((u64.wrap y0).tdiv (y1.fdiv 4294967296)))),(16,.int .u64 (u64.wrap (u64.wrap y0-u64.wrap (u64.wrap ((u64.wrap y0).tdiv (y1.fdiv 4294967296))*y1.fdiv 4294967296))))]) []))))))))))))
theorem dv0(h l y:Int):segR (Env.of Tryz.prog (sumOf [fLz])) 1000 (fnOf Tryz.prog 333) .unit (keepS 135 [2,8,9,10,11,13,14,15,16]) (codeS Tryz.prog 333) dv0_p (startS Tryz.prog 333 [U64 h,U64 l,U64 y]) [] =dv0_t h l y:=by kernel_rfl
def dv1_p:Plan:=.fork (.ln 9 (.fork .all .all)) (.ln 8 (.fork (.fork .all .all) .all))
noncomputable def dv1_t(y s p1 p0 u v1 v0 q r:Int):Tree Stop:=let y1:=u64.wrap (u64.wrap (u*4294967296)+v1)-u64.wrap (u64.wrap (q-1)*y);let y0:Tree Stop:=.node (decide (u64.wrap (r+p1)≥4294967296)) (.req (!p1==0) (.leaf (.at (loopOf Tryz.prog 333 1) 135 (slotsS 135 [(2,.int .u64 y),(8,.int .u64 s),(9,.int .u64 p1),(10,.int .u64 p0),(11,.int .u64 u),(13,.int .u64 v1),(14,.int .u64 v0),(15,.int .u64 (u64.wrap (q-1))),(16,.int .u64 (u64.wrap (u64.wrap y1-u64.wrap (u64.wrap ((u64.wrap y1).tdiv p1)*p1)))),(17,.int .u64 (u64.wrap y1)),(18,.int .u64 (u64.wrap ((u64.wrap y1).tdiv p1)))]) []))) (.leaf (.at (loopOf Tryz.prog 333 0) 135 (slotsS 135 [(2,.int .u64 y),(8,.int .u64 s),(9,.int .u64 p1),(10,.int .u64 p0),(11,.int .u64 u),(13,.int .u64 v1),(14,.int .u64 v0),(15,.int .u64 (u64.wrap (q-1))),(16,.int .u64 (u64.wrap (r+p1)))]) []));let y2:=u64.wrap (u64.wrap (u*4294967296)+v1)-u64.wrap (q*y); .node (decide (q≥4294967296)) y0 (.node (decide (u64.wrap (q*p0)>u64.wrap (u64.wrap (4294967296*r)+v1))) y0 (.req (!p1==0) (.leaf (.at (loopOf Tryz.prog 333 1) 135 (slotsS 135 [(2,.int .u64 y),(8,.int .u64 s),(9,.int .u64 p1),(10,.int .u64 p0),(11,.int .u64 u),(13,.int .u64 v1),(14,.int .u64 v0),(15,.int .u64 q),(16,.int .u64 (u64.wrap (u64.wrap y2-u64.wrap (u64.wrap ((u64.wrap y2).tdiv p1)*p1)))),(17,.int .u64 (u64.wrap y2)),(18,.int .u64 (u64.wrap ((u64.wrap y2).tdiv p1)))]) []))))
theorem dv1(y s p1 p0 u v1 v0 q r:Int):segR (Env.of Tryz.prog (sumOf [])) 1000 (fnOf Tryz.prog 333) .unit (keepS 135 [2,8,9,10,14,15,16,17,18,11,13]) (loopOf Tryz.prog 333 0) dv1_p (slotsS 135 [(2,U64 y),(8,U64 s),(9,U64 p1),(10,U64 p0),(11,U64 u),(13,U64 v1),(14,U64 v0),(15,U64 q),(16,U64 r)]) [] =dv1_t y s p1 p0 u v1 v0 q r:=by kernel_rfl
def dv2_p:Plan:=.fork (.ln 9 (.fork .all .all)) (.ln 8 (.fork (.fork .all .all) .all))
noncomputable def dv2_t(y s p1 p0 u v1 v0 a t q r:Int):Tree Stop:=let y0:Tree Stop:=.node (decide (u64.wrap (r+p1)≥4294967296)) (.req (decide (0≤s)) (.leaf (.done (.tuple [.int .u64 (u64.wrap (u64.wrap (a*4294967296)+u64.wrap (q-1))),.int .u64 ((u64.wrap (u64.wrap (u64.wrap (t*4294967296)+v0)-u64.wrap (u64.wrap (q-1)*y))).fdiv (2 ^ min s.toNat 64))])))) (.leaf (.at (loopOf Tryz.prog 333 1) 135 (slotsS 135 [(2,.int .u64 y),(8,.int .u64 s),(9,.int .u64 p1),(10,.int .u64 p0),(11,.int .u64 u),(13,.int .u64 v1),(14,.int .u64 v0),(15,.int .u64 a),(16,.int .u64 (u64.wrap (r+p1))),(17,.int .u64 t),(18,.int .u64 (u64.wrap (q-1)))]) [])); .node (decide (q≥4294967296)) y0 (.node (decide (u64.wrap (q*p0)>u64.wrap (u64.wrap (4294967296*r)+v0))) y0 (.req (decide (0≤s)) (.leaf (.done (.tuple [.int .u64 (u64.wrap (u64.wrap (a*4294967296)+q)),.int .u64 ((u64.wrap (u64.wrap (u64.wrap (t*4294967296)+v0)-u64.wrap (q*y))).fdiv (2 ^ min s.toNat 64))])))))
theorem dv2(y s p1 p0 u v1 v0 a t q r:Int):segR (Env.of Tryz.prog (sumOf [])) 1000 (fnOf Tryz.prog 333) .unit (keepS 135 [2,8,9,10,14,15,16,17,18,11,13]) (loopOf Tryz.prog 333 1) dv2_p (slotsS 135 [(2,U64 y),(8,U64 s),(9,U64 p1),(10,U64 p0),(11,U64 u),(13,U64 v1),(14,U64 v0),(15,U64 a),(16,U64 r),(17,U64 t),(18,U64 q)]) [] =dv2_t y s p1 p0 u v1 v0 a t q r:=by kernel_rfl
def qt0_p:Plan:=.fork (.all) (.all)
noncomputable def qt0_t(h l d:Int):Tree Stop:= .node (decide (h≥d)) (.leaf (.done (.tuple [.int .u64 0,.int .u64 0,.bool false]))) (.leaf (.at (loopOf Tryz.prog 249 0) 46 (slotsS 46 [(1,.int .u64 l),(2,.int .u64 d),(9,.int .u64 0),(10,.int .u64 h),(11,.int .i64 0)]) []))
theorem qt0(h l d:Int):segR (Env.of Tryz.prog (sumOf [])) 1000 (fnOf Tryz.prog 249) .unit (keepS 46 [1,2,9,10,11]) (codeS Tryz.prog 249) qt0_p (startS Tryz.prog 249 [U64 h,U64 l,U64 d]) [] =qt0_t h l d:=by kernel_rfl
def qt1_p:Plan:=.fork (.fork (.ln 3 (.lit .all)) (.ln 3 (.fork .all .all))) .all
noncomputable def qt1_t(l d q r i:Int):Tree Stop:=let y1:=(↑(BitVec.ofInt 64 (u64.wrap (r*2)) |||BitVec.ofInt 64 (l.fdiv 9223372036854775808)).toNat:Int);let y0:Tree Stop:=.leaf (.at (loopOf Tryz.prog 249 0) 46 (slotsS 46 [(1,.int .u64 (u64.wrap (l*2))),(2,.int .u64 d),(9,.int .u64 (u64.wrap (u64.wrap (q*2)+1))),(10,.int .u64 (u64.wrap (u64.wrap y1-d))),(11,.int .i64 (i64.wrap (i+1)))]) []); .node (decide (i<64)) (.req true (.req (true) (.req true (.req (true) (.req true (.node (r.fdiv 9223372036854775808==1) y0 (.node (decide (u64.wrap y1≥d)) y0 (.leaf (.at (loopOf Tryz.prog 249 0) 46 (slotsS 46 [(1,.int .u64 (u64.wrap (l*2))),(2,.int .u64 d),(9,.int .u64 (u64.wrap (q*2))),(10,.int .u64 (u64.wrap y1)),(11,.int .i64 (i64.wrap (i+1)))]) []))))))))) (.leaf (.done (.tuple [.int .u64 q,.int .u64 r,.bool true])))
theorem qt1(l d q r i:Int):segR (Env.of Tryz.prog (sumOf [])) 1000 (fnOf Tryz.prog 249) .unit (keepS 46 [1,2,9,10,11]) (loopOf Tryz.prog 249 0) qt1_p (slotsS 46 [(1,U64 l),(2,U64 d),(9,U64 q),(10,U64 r),(11,I64 i)]) [] =qt1_t l d q r i:=by kernel_rfl
theorem wN{n:Nat}(hn:n<18446744073709551616):u64.wrap (n:Int)=(n:Int):=by rw[wU];omega
theorem tdivN(a b:Nat):((a:Int).tdiv (b:Int))=((a / b:Nat):Int):=by
 rw[Int.tdiv_eq_ediv_of_nonneg (by omega)];rfl
theorem dig_wrap{U v Q Y R:Nat}(h:U*4294967296+v=Q*Y+R)(hR:R<18446744073709551616):u64.wrap (u64.wrap (u64.wrap ((U:Int)*4294967296)+(v:Int))-u64.wrap ((Q:Int)*(Y:Int)))=((R:Nat):Int):=by
 rw[←Int.natCast_mul Q Y]
 generalize Q*Y=b at h ⊢
 simp only[wU];omega
theorem rest_wrap{t p:Nat}(ht:t<18446744073709551616)(hp:0<p):u64.wrap ((t:Int).tdiv (p:Int))=((t / p:Nat):Int)∧u64.wrap ((t:Int)-u64.wrap (((t / p:Nat):Int)*(p:Int)))=((t-t / p*p:Nat):Int):=by
 have h1:t / p≤t:=Nat.div_le_self _ _
 have h2:=Nat.div_mul_le_self t p
 rw[tdivN,←Int.natCast_mul]
 generalize t / p*p=b at h2 ⊢
 generalize t / p=c at h1 ⊢
 simp only[wU];omega
theorem pred_wrap{q:Nat}(h:1≤q)(h2:q<18446744073709551616):u64.wrap ((q:Int)-1)=((q-1:Nat):Int):=by rw[wU];omega
section
variable {s p1 p0 Y U v1 v0:Nat}
noncomputable def sl1(s p1 p0 Y U v1 v0 q r:Nat):List SV:=slotsS 135 [(2,U64 Y),(8,U64 s),(9,U64 p1),(10,U64 p0),(11,U64 U),(13,U64 v1),(14,U64 v0),(15,U64 q),(16,U64 r)]
noncomputable def sl2(s p1 p0 Y U v1 v0 a t q r:Nat):List SV:=slotsS 135 [(2,U64 Y),(8,U64 s),(9,U64 p1),(10,U64 p0),(11,U64 U),(13,U64 v1),(14,U64 v0),(15,U64 a),(16,U64 r),(17,U64 t),(18,U64 q)]
theorem dv1_step{Q T:Nat}{res:SV}(hQ:(U*4294967296+v1) / Y=Q)(hT:(U*4294967296+v1) % Y=T)(hd:res.data=true)(hY:9223372036854775808≤Y∧Y<18446744073709551616)(e1:p1=Y / 4294967296)(e0:p0=Y % 4294967296)(hU:U<Y)(hv:v1<4294967296)
  (k:RunsR Tryz.prog (fnOf Tryz.prog 333) res (loopOf Tryz.prog 333 1) (sl2 s p1 p0 Y U v1 v0 Q T (T / p1) (T-T / p1*p1)) [])
  (q r:Nat) (h1:q*p1+r=U) (h2:Q≤q) (h3:q≤4294967297) (h4:r<4294967296)
  (ih:∀q' r':Nat,q'<q→q'*p1+r'=U→Q≤q'→r'<4294967296→RunsR Tryz.prog (fnOf Tryz.prog 333) res (loopOf Tryz.prog 333 0) (sl1 s p1 p0 Y U v1 v0 q' r') []):
  RunsR Tryz.prog (fnOf Tryz.prog 333) res (loopOf Tryz.prog 333 0) (sl1 s p1 p0 Y U v1 v0 q r) [] :=by
 have hp1:2147483648≤p1∧p1<4294967296:=by omega
 have hTY:T<Y:=by rw[←hT];exact Nat.mod_lt _ (by omega)
 have D:∀q':Nat,q'=Q→u64.wrap (u64.wrap (u64.wrap ((U:Int)*4294967296)+(v1:Int))-u64.wrap ((q':Int)*(Y:Int)))=((T:Nat):Int):=fun q' h=>by
  subst h;exact dig_wrap (by rw[←hQ,←hT,Nat.div_add_mod']) (by omega)
 obtain⟨R1,R2⟩:=rest_wrap (t:=T) (p:=p1) (by omega) (by omega)
 have wr:u64.wrap ((r:Int)+(p1:Int))=((r+p1:Nat):Int):=by rw[wU];omega
 have np:(!((p1:Int)==0))=true:=by simp;omega
 -- a step down
 have down:Q+1≤q→(q-1)*p1+(r+p1)=U∧Q≤q-1∧u64.wrap ((q:Int)-1)=((q-1:Nat):Int):=fun h=>by
  refine⟨?_,by omega,pred_wrap (by omega) (by omega)⟩
  obtain⟨q',rfl⟩:∃q',q=q'+1:=⟨q-1,by omega⟩
  rw[Nat.add_mul]at h1
  rw[Nat.add_sub_cancel];omega
 have wm:u64.wrap (4294967296*(r:Int))=((4294967296*r:Nat):Int):=by rw[wU];omega
 have wm2:u64.wrap (((4294967296*r:Nat):Int)+(v1:Int))=((4294967296*r+v1:Nat):Int):=by rw[wU];omega
 have wqp:q<4294967296→u64.wrap ((q:Int)*(p0:Int))=((q*p0:Nat):Int):=fun h=>by
  have:q*p0≤4294967295*4294967295:=Nat.mul_le_mul (by omega) (by omega)
  rw[←Int.natCast_mul];exact wN (by omega)
 have less:=dig_less (y:=Y) (u:=U) (u1:=v1) (q:=q) (rh:=r) (by omega) hU hv (by rw[←e1];exact h1)
 rw[hQ]at less
 have out:=dig_out (y:=Y) (u:=U) (u1:=v1) (q:=q) (rh:=r) (by omega) (by rw[←e1];exact h1) (by rw[hQ];exact h2)
 rw[hQ]at out
 have brk:Q+1≤q→4294967296≤r+p1→q-1=Q:=fun h hb=>by have:=dig_break (y:=Y) (u:=U) (u1:=v1) (q:=q-1) (rh:=r+p1) (by omega) (by rw[←e1];exact(down h).1) (by rw[hQ];exact(down h).2.1) (by omega) hb;rw[hQ]at this;exact this
 have stay:Q+1≤q→r+p1<4294967296→RunsR Tryz.prog (fnOf Tryz.prog 333) res (loopOf Tryz.prog 333 0) (sl1 s p1 p0 Y U v1 v0 (q-1) (r+p1)) [] :=fun h hr=>ih _ _ (by omega) (down h).1 (down h).2.1 hr
 refine runsR_seg k0 (n:=1000) (hint:=.unit) (keep:=keepS 135 [2,8,9,10,14,15,16,17,18,11,13]) (p:=dv1_p) hd ?_
 unfold sl1
 erw [dv1 Y s p1 p0 U v1 v0 q r]
 unfold dv1_t
 rw[wr]
 simp only[Tree.holds,decide_eq_true_eq,decide_eq_false_iff_not,np,true_and]
 unfold sl1 at stay
 unfold sl2 at k
 refine⟨fun c=>⟨fun b=>?_,fun b=>?_⟩,fun c=>?_⟩
 ·have hl:=less (.inl (by omega))
  rw[(down hl).2.2,D _ (brk hl (by omega)),R1,R2,brk hl (by omega)]
  exact⟨slotsS_len _ _,k⟩
 ·have hl:=less (.inl (by omega))
  rw[(down hl).2.2]
  exact⟨slotsS_len _ _,stay hl (by omega)⟩
 ·rw[wqp (by omega),wm,wm2]
  refine⟨fun d=>⟨fun b=>?_,fun b=>?_⟩,fun d=>?_⟩
  ·have hl:=less (.inr (by rw[←e0];omega))
   rw[(down hl).2.2,D _ (brk hl (by omega)),R1,R2,brk hl (by omega)]
   exact⟨slotsS_len _ _,k⟩
  ·have hl:=less (.inr (by rw[←e0];omega))
   rw[(down hl).2.2]
   exact⟨slotsS_len _ _,stay hl (by omega)⟩
  ·have ho:=out (by rw[←e0];omega)
   rw[D _ ho,R1,R2,ho]
   exact⟨slotsS_len _ _,k⟩
theorem dv1_loop{Q T:Nat}{res:SV}(hQ:(U*4294967296+v1) / Y=Q)(hT:(U*4294967296+v1) % Y=T)(hd:res.data=true)(hY:9223372036854775808≤Y∧Y<18446744073709551616)(e1:p1=Y / 4294967296)(e0:p0=Y % 4294967296)(hU:U<Y)(hv:v1<4294967296)
  (k:RunsR Tryz.prog (fnOf Tryz.prog 333) res (loopOf Tryz.prog 333 1) (sl2 s p1 p0 Y U v1 v0 Q T (T / p1) (T-T / p1*p1)) []):
  ∀ (n q r:Nat),q<n→q*p1+r=U→Q≤q→q≤4294967297→r<4294967296→RunsR Tryz.prog (fnOf Tryz.prog 333) res (loopOf Tryz.prog 333 0) (sl1 s p1 p0 Y U v1 v0 q r) []
 |0,q,r,hn,_,_,_,_=>by omega
 |n+1,q,r,hn,h1,h2,h3,h4=>dv1_step hQ hT hd hY e1 e0 hU hv k q r h1 h2 h3 h4 fun q' r' h g1 g2 g4=>dv1_loop hQ hT hd hY e1 e0 hU hv k n q' r' (by omega) g1 g2 (by omega) g4
noncomputable def dvR(s a q t:Nat):SV:=.tuple [U64 ((a*4294967296+q:Nat):Int),U64 ((t / 2 ^ s:Nat):Int)]
theorem dv2_step{Q T a t:Nat}(hQ:(t*4294967296+v0) / Y=Q)(hT:(t*4294967296+v0) % Y=T)(hs:s≤64)(hY:9223372036854775808≤Y∧Y<18446744073709551616)(e1:p1=Y / 4294967296)(e0:p0=Y % 4294967296)(ht:t<Y)(hv:v0<4294967296)(ha:a<4294967296)
  (q r:Nat) (h1:q*p1+r=t) (h2:Q≤q) (h3:q≤4294967297) (h4:r<4294967296)
  (ih:∀q' r':Nat,q'<q→q'*p1+r'=t→Q≤q'→r'<4294967296→RunsR Tryz.prog (fnOf Tryz.prog 333) (dvR s a Q T) (loopOf Tryz.prog 333 1) (sl2 s p1 p0 Y U v1 v0 a t q' r') []):
  RunsR Tryz.prog (fnOf Tryz.prog 333) (dvR s a Q T) (loopOf Tryz.prog 333 1) (sl2 s p1 p0 Y U v1 v0 a t q r) [] :=by
 have hp1:2147483648≤p1∧p1<4294967296:=by omega
 have hTY:T<Y:=by rw[←hT];exact Nat.mod_lt _ (by omega)
 have hQl:Q<4294967296:=by rw[←hQ];exact dig_lt (by omega) ht hv
 have D:∀q':Nat,q'=Q→u64.wrap (u64.wrap (u64.wrap ((t:Int)*4294967296)+(v0:Int))-u64.wrap ((q':Int)*(Y:Int)))=((T:Nat):Int):=fun q' h=>by
  subst h;exact dig_wrap (by rw[←hQ,←hT,Nat.div_add_mod']) (by omega)
 have wr:u64.wrap ((r:Int)+(p1:Int))=((r+p1:Nat):Int):=by rw[wU];omega
 have down:Q+1≤q→(q-1)*p1+(r+p1)=t∧Q≤q-1∧u64.wrap ((q:Int)-1)=((q-1:Nat):Int):=fun h=>by
  refine⟨?_,by omega,pred_wrap (by omega) (by omega)⟩
  obtain⟨q',rfl⟩:∃q',q=q'+1:=⟨q-1,by omega⟩
  rw[Nat.add_mul]at h1
  rw[Nat.add_sub_cancel];omega
 have wm:u64.wrap (4294967296*(r:Int))=((4294967296*r:Nat):Int):=by rw[wU];omega
 have wm2:u64.wrap (((4294967296*r:Nat):Int)+(v0:Int))=((4294967296*r+v0:Nat):Int):=by rw[wU];omega
 have wqp:q<4294967296→u64.wrap ((q:Int)*(p0:Int))=((q*p0:Nat):Int):=fun h=>by
  have:q*p0≤4294967295*4294967295:=Nat.mul_le_mul (by omega) (by omega)
  rw[←Int.natCast_mul];exact wN (by omega)
 have less:=dig_less (y:=Y) (u:=t) (u1:=v0) (q:=q) (rh:=r) (by omega) ht hv (by rw[←e1];exact h1)
 rw[hQ]at less
 have out:=dig_out (y:=Y) (u:=t) (u1:=v0) (q:=q) (rh:=r) (by omega) (by rw[←e1];exact h1) (by rw[hQ];exact h2)
 rw[hQ]at out
 have brk:Q+1≤q→4294967296≤r+p1→q-1=Q:=fun h hb=>by have:=dig_break (y:=Y) (u:=t) (u1:=v0) (q:=q-1) (rh:=r+p1) (by omega) (by rw[←e1];exact(down h).1) (by rw[hQ];exact(down h).2.1) (by omega) hb;rw[hQ]at this;exact this
 have stay:=fun(h:Q+1≤q) (hr:r+p1<4294967296)=>ih (q-1) (r+p1) (by omega) (down h).1 (down h).2.1 hr
 have fin:∀q':Nat,q'=Q→u64.wrap (u64.wrap ((a:Int)*4294967296)+(q':Int))=((a*4294967296+Q:Nat):Int):=fun q' h=>by
  subst h
  simp only[wU];omega
 have sh:(((T:Nat):Int)).fdiv (2 ^ min (s:Int).toNat 64)=((T / 2 ^ s:Nat):Int):=by
  rw[show min (s:Int).toNat 64=s by omega,Int.fdiv_eq_ediv_of_nonneg _ (Int.le_of_lt (pow_pos' s))]
  simp
 have n0:decide ((0:Int)≤(s:Int))=true:=decide_eq_true (by omega)
 refine runsR_seg k0 (n:=1000) (hint:=.unit) (keep:=keepS 135 [2,8,9,10,14,15,16,17,18,11,13]) (p:=dv2_p) rfl ?_
 unfold sl2
 erw [dv2 Y s p1 p0 U v1 v0 a t q r]
 unfold dv2_t
 rw[wr]
 simp only[Tree.holds,decide_eq_true_eq,decide_eq_false_iff_not,n0,true_and]
 unfold sl2 at stay
 unfold dvR at stay ⊢
 have p0':(0:Int)≤(s:Int):=by omega
 refine⟨fun c=>⟨fun b=>?_,fun b=>?_⟩,fun c=>?_⟩
 ·have hl:=less (.inl (by omega))
  rw[(down hl).2.2,D _ (brk hl (by omega)),sh,fin _ (brk hl (by omega))]
  rfl
 ·have hl:=less (.inl (by omega))
  rw[(down hl).2.2]
  exact⟨slotsS_len _ _,stay hl (by omega)⟩
 ·rw[wqp (by omega),wm,wm2]
  refine⟨fun d=>⟨fun b=>?_,fun b=>?_⟩,fun d=>?_⟩
  ·have hl:=less (.inr (by rw[←e0];omega))
   rw[(down hl).2.2,D _ (brk hl (by omega)),sh,fin _ (brk hl (by omega))]
   rfl
  ·have hl:=less (.inr (by rw[←e0];omega))
   rw[(down hl).2.2]
   exact⟨slotsS_len _ _,stay hl (by omega)⟩
  ·have ho:=out (by rw[←e0];omega)
   rw[D _ ho,sh,fin _ ho]
   rfl
theorem dv2_loop{Q T a t:Nat}(hQ:(t*4294967296+v0) / Y=Q)(hT:(t*4294967296+v0) % Y=T)(hs:s≤64)(hY:9223372036854775808≤Y∧Y<18446744073709551616)(e1:p1=Y / 4294967296)(e0:p0=Y % 4294967296)(ht:t<Y)(hv:v0<4294967296)(ha:a<4294967296):
  ∀ (n q r:Nat),q<n→q*p1+r=t→Q≤q→q≤4294967297→r<4294967296→RunsR Tryz.prog (fnOf Tryz.prog 333) (dvR s a Q T) (loopOf Tryz.prog 333 1) (sl2 s p1 p0 Y U v1 v0 a t q r) []
 |0,q,r,hn,_,_,_,_=>by omega
 |n+1,q,r,hn,h1,h2,h3,h4=>dv2_step hQ hT hs hY e1 e0 ht hv ha q r h1 h2 h3 h4 fun q' r' h g1 g2 g4=>dv2_loop hQ hT hs hY e1 e0 ht hv ha n q' r' (by omega) g1 g2 (by omega) g4
end
theorem or64N{a b e:Nat}(ha:a*2 ^ e<18446744073709551616)(hb:b<2 ^ e)(hb2:b<18446744073709551616):(((BitVec.ofInt 64 ((a*2 ^ e:Nat):Int) |||BitVec.ofInt 64 ((b:Nat):Int)).toNat:Nat):Int)=((a*2 ^ e+b:Nat):Int):=by
 have e1:∀m:Nat,m<18446744073709551616→(BitVec.ofInt 64 (m:Int)).toNat=m:=fun m hm=>by
  rw[BitVec.toNat_ofInt]
  have:((2 ^ 64:Nat):Int)=18446744073709551616:=rfl
  rw[this];omega
 rw[BitVec.toNat_or,e1 _ ha,e1 _ hb2,Nat.mul_comm a,←Nat.two_pow_add_eq_or_of_lt hb]
theorem s_div{H L Yn:Nat}(h1:H<Yn)(h2:L<18446744073709551616)(h3:Yn<18446744073709551616):SCall Tryz.prog 333 [U64 (H:Int),U64 (L:Int),U64 (Yn:Int)] (.tuple [U64 (((H*18446744073709551616+L) / Yn:Nat):Int),U64 (((H*18446744073709551616+L) % Yn:Nat):Int)]):=by
 refine scallR_loops rfl rfl (by kernel_rfl) (runsR_seg (kW (l:=[fLz]) ⟨o_lz,trivial⟩) (n:=1000) (hint:=.unit) (keep:=keepS 135 [2,8,9,10,11,13,14,15,16]) (p:=dv0_p) (boxes:=[]) rfl ?_)
 have e:=dv0 H L Yn
 unfold startS codeS at e
 erw [e]
 clear e
 unfold dv0_t
 have hy0:((Yn:Int)==0)=false:=by simp;omega
 have hyh:decide ((Yn:Int)≤(H:Int))=false:=decide_eq_false (by omega)
 simp only[Tree.holds,hy0,hyh,Bool.false_eq_true,false_implies,true_implies,true_and,Bool.not_false,and_true]
 refine⟨fun h0=>?_,fun h0=>?_⟩
 ·have h0:H=0:=by simpa using h0
  subst h0
  show SV.tuple _=_
  have hl:L / Yn≤L:=Nat.div_le_self _ _
  rw[tdivN,wN (by omega),Nat.zero_mul,Nat.zero_add,Int.tmod_eq_emod_of_nonneg (by omega)]
  rfl
 ·obtain⟨n,en,n1,n2,n3,n4⟩:=lenV_spec (x:=(Yn:Int)) (by omega) (by omega)
  obtain⟨s,hs⟩:∃s:Nat,s=64-n:=⟨_,rfl⟩
  have ws:u64.wrap (64-lenV (Yn:Int))=(s:Int):=by rw[en,wU];omega
  have ws2:u64.wrap (64-(s:Int))=((64-s:Nat):Int):=by rw[wU];omega
  have m1:min (s:Int).toNat 64=s:=by omega
  have m2:min ((64-s:Nat):Int).toNat 64=64-s:=by omega
  have hp:0<2 ^ s:=Nat.two_pow_pos s
  have pw:∀k:Nat,(2:Int) ^ k=((2 ^ k:Nat):Int):=fun k=>by simp
  -- the divisor, shifted
  have n3':2 ^ (n-1)≤Yn:=by rw[pw]at n3;omega
  have n4':Yn<2 ^ n:=by rw[pw]at n4;omega
  have y1:9223372036854775808≤Yn*2 ^ s:=by
   have:2 ^ (n-1)*2 ^ s≤Yn*2 ^ s:=Nat.mul_le_mul_right _ n3'
   rw[←Nat.pow_add,show n-1+s=63 by omega]at this
   exact this
  have y2:Yn*2 ^ s<18446744073709551616:=by
   have:Yn*2 ^ s<2 ^ n*2 ^ s:=Nat.mul_lt_mul_of_pos_right n4' hp
   rw[←Nat.pow_add,show n+s=64 by omega]at this
   exact this
  -- the upper half, shifted
  have l1:L / 2 ^ (64-s)<2 ^ s:=by
   rw[Nat.div_lt_iff_lt_mul (Nat.two_pow_pos _),←Nat.pow_add,show s+(64-s)=64 by omega];exact h2
  have l2:L / 2 ^ (64-s)≤L:=Nat.div_le_self _ _
  have u0:(H+1)*2 ^ s≤Yn*2 ^ s:=Nat.mul_le_mul_right _ h1
  rw[Nat.add_mul,Nat.one_mul]at u0
  have hU:H*2 ^ s+L / 2 ^ (64-s)<Yn*2 ^ s:=by omega
  have lo:L*2 ^ s=L / 2 ^ (64-s)*18446744073709551616+L*2 ^ s % 18446744073709551616:=by
   have:L / 2 ^ (64-s)=L*2 ^ s / 18446744073709551616:=by
    rw[show(18446744073709551616:Nat)=2 ^ (64-s)*2 ^ s by rw[←Nat.pow_add,show 64-s+s=64 by omega],Nat.mul_div_mul_right _ _ hp]
   rw[this];omega
  have wY:u64.wrap ((Yn:Int)*2 ^ s)=((Yn*2 ^ s:Nat):Int):=by rw[pw,←Int.natCast_mul];exact wN y2
  have wH:u64.wrap ((H:Int)*2 ^ s)=((H*2 ^ s:Nat):Int):=by rw[pw,←Int.natCast_mul];exact wN (by omega)
  have wL:u64.wrap ((L:Int)*2 ^ s)=((L*2 ^ s % 18446744073709551616:Nat):Int):=by rw[pw,←Int.natCast_mul,wU];omega
  have fL:((L:Nat):Int).fdiv (2 ^ (64-s))=((L / 2 ^ (64-s):Nat):Int):=by
   rw[Int.fdiv_eq_ediv_of_nonneg _ (Int.le_of_lt (pow_pos' _)),pw];rfl
  have oU:=or64N (a:=H) (b:=L / 2 ^ (64-s)) (e:=s) (by omega) l1 (by omega)
  have f32:∀m:Nat,((m:Nat):Int).fdiv 4294967296=((m / 4294967296:Nat):Int):=fun m=>by rw[Int.fdiv_eq_ediv_of_nonneg _ (by omega)];rfl
  have a32:∀m:Nat,m<18446744073709551616→u64.wrap ((((BitVec.ofInt 64 ((m:Nat):Int) &&&BitVec.ofInt 64 4294967295).toNat:Nat):Int))=((m % 4294967296:Nat):Int):=fun m hm=>by rw[and32 (by omega) (by omega),wU];omega
  have d0:decide ((0:Int)≤(s:Int))=true:=decide_eq_true (by omega)
  have d1:decide ((0:Int)≤((64-s:Nat):Int))=true:=decide_eq_true (by omega)
  have ok:(okU (Yn:Int)&&decide (1≤(Yn:Int)))=true:=by rw[Bool.and_eq_true,decide_eq_true_eq];exact⟨inR_iff.2 (by omega),by omega⟩
  generalize hYY:Yn*2 ^ s=Y at *
  generalize hUU:H*2 ^ s+L / 2 ^ (64-s)=U at *
  generalize hLL:L*2 ^ s % 18446744073709551616=LO at *
  have hLO:LO<18446744073709551616:=by omega
  have np:(!((Y / 4294967296:Nat):Int)==0)=true:=by simp;omega
  obtain⟨R1,R2⟩:=rest_wrap (t:=U) (p:=Y / 4294967296) (by omega) (by omega)
  have wU2:u64.wrap ((U:Nat):Int)=(U:Int):=wN (by omega)
  simp only[ws,ws2,m1,m2,wY,wH,wL,fL,oU,f32,a32 Y y2,a32 LO hLO,d0,d1,ok,np,wU2,R1,R2,true_and]
  refine⟨slotsS_len _ _,?_⟩
  have g1:=dig_first (y:=Y) (u:=U) (u1:=LO / 4294967296) y1 y2 hU (by omega)
  have hT:(U*4294967296+LO / 4294967296) % Y<Y:=Nat.mod_lt _ (by omega)
  have g2:=dig_first (y:=Y) (u:=(U*4294967296+LO / 4294967296) % Y) (u1:=LO % 4294967296) y1 y2 hT (by omega)
  have hQ1:(U*4294967296+LO / 4294967296) / Y<4294967296:=dig_lt (by omega) hU (by omega)
  have two:=two_digits (y:=Y) (u:=U) (u1:=LO / 4294967296) (u0:=LO % 4294967296) (by omega)
  have key:=dv2_loop (v1:=LO / 4294967296) (U:=U) (s:=s) rfl rfl (by omega) ⟨y1,y2⟩ rfl rfl hT (show LO % 4294967296<4294967296 by omega) hQ1 _ _ _ (Nat.lt_succ_self _) g2.1 g2.2.1 g2.2.2.1 g2.2.2.2
  have key2:=dv1_loop (v0:=LO % 4294967296) (s:=s) rfl rfl (by rfl) ⟨y1,y2⟩ rfl rfl hU (show LO / 4294967296<4294967296 by omega) key _ _ _ (Nat.lt_succ_self _) g1.1 g1.2.1 g1.2.2.1 g1.2.2.2
  have eN:U*18446744073709551616+(LO / 4294967296*4294967296+LO % 4294967296)=(H*18446744073709551616+L)*2 ^ s:=by
   rw[Nat.add_mul,lo,←hUU,Nat.mul_right_comm H,Nat.add_mul];omega
  rw[eN,←hYY,Nat.mul_div_mul_right _ _ hp,Nat.mul_mod_mul_right]at two
  have res:dvR s ((U*4294967296+LO / 4294967296) / Y) (((U*4294967296+LO / 4294967296) % Y*4294967296+LO % 4294967296) / Y) (((U*4294967296+LO / 4294967296) % Y*4294967296+LO % 4294967296) % Y)=.tuple [U64 (((H*18446744073709551616+L) / Yn:Nat):Int),U64 (((H*18446744073709551616+L) % Yn:Nat):Int)] :=by
   unfold dvR
   rw[←hYY,two.1,two.2,Nat.mul_div_cancel _ hp]
  rw[res]at key2
  exact key2
def fDiv:Fact:=factUUU 333 fun h l y=>.req (inR h 0 (y-1)&& (okU l&&okU y)) (.leaf (.tuple [U64 ((h*18446744073709551616+l) / y),U64 ((h*18446744073709551616+l) % y)]))
theorem o_div:fDiv.ok Tryz.prog:=factUUU_ok fun h l y k=>by
 simp only[Bool.and_eq_true,inR_iff,okU]at k
 obtain⟨H,rfl⟩:=Int.eq_ofNat_of_zero_le k.1.1
 obtain⟨L,rfl⟩:=Int.eq_ofNat_of_zero_le k.2.1.1
 obtain⟨Y,rfl⟩:=Int.eq_ofNat_of_zero_le k.2.2.1
 have:=s_div (H:=H) (L:=L) (Yn:=Y) (by omega) (by omega) (by omega)
 simp at this
 exact this
theorem top_bit{low i k:Nat}(h:i+(k+1)=64):(low*2 ^ i % 18446744073709551616) / 9223372036854775808=low / 2 ^ k % 2:=by
 have e:(18446744073709551616:Nat)=9223372036854775808*2:=by decide
 rw[e,Nat.mod_mul_right_div_self]
 have e2:(9223372036854775808:Nat)=2 ^ k*2 ^ i:=by rw[←Nat.pow_add,show k+i=63 by omega]
 rw[e2,Nat.mul_div_mul_right _ _ (Nat.two_pow_pos i)]
theorem or_bit{x b:Nat}(hx:x<18446744073709551616)(h2:x % 2=0)(hb:b<2):(((BitVec.ofInt 64 ((x:Nat):Int) |||BitVec.ofInt 64 ((b:Nat):Int)).toNat:Nat):Int)=((x+b:Nat):Int):=by
 have:=or64N (a:=x / 2) (b:=b) (e:=1) (by omega) (by omega) (by omega)
 rw[show x / 2*2 ^ 1=x by omega]at this
 exact this
noncomputable def slQ(d low q r i:Nat):List SV:=slotsS 46 [(1,U64 ((low*2 ^ i % 18446744073709551616:Nat):Int)),(2,U64 d),(9,U64 q),(10,U64 r),(11,I64 i)]
theorem q_loop{d low:Nat}(hd:d<18446744073709551616)(hl:low<18446744073709551616):∀ (k i q r:Nat),i+k=64→r<d→q<2 ^ i→
  RunsR Tryz.prog (fnOf Tryz.prog 249) (.tuple [U64 ((quoL d low k q r).1:Int),U64 ((quoL d low k q r).2:Int),.bool true]) (loopOf Tryz.prog 249 0) (slQ d low q r i) []
 |0,i,q,r,hi,hr,hq=>by
  refine runsR_seg k0 (n:=1000) (hint:=.unit) (keep:=keepS 46 [1,2,9,10,11]) (p:=qt1_p) rfl ?_
  unfold slQ
  erw [qt1 _ d q r i]
  unfold qt1_t
  refine⟨fun c=>?_,fun _=>rfl⟩
  have:=of_decide_eq_true c
  omega
 |k+1,i,q,r,hi,hr,hq=>by
  have hp:2 ^ i≤9223372036854775808:=by
   have:2 ^ i≤2 ^ 63:=Nat.pow_le_pow_right (by decide) (by omega)
   exact this
  have e2:2 ^ (i+1)=2 ^ i*2:=Nat.pow_succ 2 i
  have hb:=top_bit (low:=low) hi
  have hb2:low / 2 ^ k % 2<2:=Nat.mod_lt _ (by decide)
  have ht:low*2 ^ i % 18446744073709551616<18446744073709551616:=Nat.mod_lt _ (by decide)
  have en:low*2 ^ (i+1) % 18446744073709551616=(low*2 ^ i % 18446744073709551616*2) % 18446744073709551616:=by
   rw[e2,←Nat.mul_assoc];omega
  generalize hL:low*2 ^ i % 18446744073709551616=L at *
  generalize hB:low / 2 ^ k % 2=B at *
  have w1:u64.wrap ((L:Int)*2)=((low*2 ^ (i+1) % 18446744073709551616:Nat):Int):=by rw[en,wU];omega
  have f1:((L:Nat):Int).fdiv 9223372036854775808=((B:Nat):Int):=by rw[Int.fdiv_eq_ediv_of_nonneg _ (by omega)];omega
  have f2:((r:Nat):Int).fdiv 9223372036854775808=((r / 9223372036854775808:Nat):Int):=by rw[Int.fdiv_eq_ediv_of_nonneg _ (by omega)];rfl
  have w2:u64.wrap ((r:Int)*2)=((r*2 % 18446744073709551616:Nat):Int):=by rw[wU];omega
  have w3:u64.wrap ((q:Int)*2)=((2*q:Nat):Int):=by rw[wU];omega
  have w4:u64.wrap (((2*q:Nat):Int)+1)=((2*q+1:Nat):Int):=by rw[wU];omega
  have o1:=or_bit (x:=r*2 % 18446744073709551616) (b:=B) (by omega) (by omega) hb2
  have w5:u64.wrap ((r*2 % 18446744073709551616+B:Nat):Int)=((r*2 % 18446744073709551616+B:Nat):Int):=wN (by omega)
  have w6:d≤2*r+B→u64.wrap (((r*2 % 18446744073709551616+B:Nat):Int)-(d:Int))=((2*r+B-d:Nat):Int):=fun h=>by rw[wU];omega
  have w7:i64.wrap ((i:Int)+1)=((i+1:Nat):Int):=by rw[w64 (by omega) (by omega)];rfl
  have yes:d≤2*r+B→RunsR Tryz.prog (fnOf Tryz.prog 249) (.tuple [U64 ((quoL d low (k+1) q r).1:Int),U64 ((quoL d low (k+1) q r).2:Int),.bool true]) (loopOf Tryz.prog 249 0) (slQ d low (2*q+1) (2*r+B-d) (i+1)) [] :=fun h=>by
   have:=q_loop hd hl k (i+1) (2*q+1) (2*r+B-d) (by omega) (by omega) (by omega)
   rw[quoL,hB,if_pos h];exact this
  have no:¬d≤2*r+B→RunsR Tryz.prog (fnOf Tryz.prog 249) (.tuple [U64 ((quoL d low (k+1) q r).1:Int),U64 ((quoL d low (k+1) q r).2:Int),.bool true]) (loopOf Tryz.prog 249 0) (slQ d low (2*q) (2*r+B) (i+1)) [] :=fun h=>by
   have:=q_loop hd hl k (i+1) (2*q) (2*r+B) (by omega) (by omega) (by omega)
   rw[quoL,hB,if_neg h];exact this
  unfold slQ at yes no ⊢
  refine runsR_seg k0 (n:=1000) (hint:=.unit) (keep:=keepS 46 [1,2,9,10,11]) (p:=qt1_p) rfl ?_
  rw[hL]
  erw [qt1 L d q r i]
  unfold qt1_t
  simp only[w1,f1,f2,w2,w3,w4,o1,w5,w7]
  refine⟨fun c=>⟨rfl,rfl,rfl,rfl,rfl,fun d1=>?_,fun d1=>⟨fun d2=>?_,fun d2=>?_⟩⟩,fun c=>?_⟩
  ·have d1:((r / 9223372036854775808:Nat):Int)=1:=by simpa using d1
   have hc:d≤2*r+B:=by omega
   rw[w6 hc]
   exact⟨slotsS_len _ _,yes hc⟩
  ·have d1:¬((r / 9223372036854775808:Nat):Int)=1:=by simpa using d1
   have d2:=of_decide_eq_true d2
   have hc:d≤2*r+B:=by omega
   rw[w6 hc]
   exact⟨slotsS_len _ _,yes hc⟩
  ·have d1:¬((r / 9223372036854775808:Nat):Int)=1:=by simpa using d1
   have d2:=of_decide_eq_false d2
   have hc:¬d≤2*r+B:=by omega
   rw[show r*2 % 18446744073709551616+B=2*r+B by omega]
   exact⟨slotsS_len _ _,no hc⟩
  ·have:=of_decide_eq_false c
   omega
theorem s_quo{H L D:Nat}(h1:H<D)(h2:L<18446744073709551616)(h3:D<18446744073709551616):SCall Tryz.prog 249 [U64 (H:Int),U64 (L:Int),U64 (D:Int)] (.tuple [U64 (((H*18446744073709551616+L) / D:Nat):Int),U64 (((H*18446744073709551616+L) % D:Nat):Int),.bool true]):=by
 refine scallR_loops rfl rfl (by kernel_rfl) (runsR_seg k0 (n:=1000) (hint:=.unit) (keep:=keepS 46 [1,2,9,10,11]) (p:=qt0_p) (boxes:=[]) rfl ?_)
 have e:=qt0 H L D
 unfold startS codeS at e
 erw [e]
 have q:=q_loop (low:=L) h3 h2 64 0 0 H (by omega) h1 (by decide)
 rw[quoL_64 h1 h2]at q
 refine⟨fun c=>?_,fun _=>⟨slotsS_len _ _,?_⟩⟩
 ·have:=of_decide_eq_true c;omega
 ·unfold slQ at q
  rw[show L*2 ^ 0 % 18446744073709551616=L by omega]at q
  exact q
theorem s_quoN{H L D:Int}(h1:¬H<D):SCall Tryz.prog 249 [U64 H,U64 L,U64 D] (.tuple [U64 0,U64 0,.bool false]):=by
 refine scallR_loops rfl rfl (by kernel_rfl) (runsR_seg k0 (n:=1000) (hint:=.unit) (keep:=keepS 46 [1,2,9,10,11]) (p:=qt0_p) (boxes:=[]) rfl ?_)
 have e:=qt0 H L D
 unfold startS codeS at e
 erw [e]
 exact⟨fun _=>rfl,fun c=>absurd (of_decide_eq_false c) (by omega)⟩
def fQuo:Fact:=factUUU 249 fun h l y=>.req (okU h&& (okU l&&okU y)) (.node (decide (h<y)) (.leaf (.tuple [U64 ((h*18446744073709551616+l) / y),U64 ((h*18446744073709551616+l) % y),.bool true])) (.leaf (.tuple [U64 0,U64 0,.bool false])))
theorem o_quo:fQuo.ok Tryz.prog:=factUUU_ok fun h l y k=>by
 simp only[Bool.and_eq_true,inR_iff,okU]at k
 refine⟨fun c=>?_,fun c=>s_quoN (of_decide_eq_false c)⟩
 have c:=of_decide_eq_true c
 obtain⟨H,rfl⟩:=Int.eq_ofNat_of_zero_le k.1.1
 obtain⟨L,rfl⟩:=Int.eq_ofNat_of_zero_le k.2.1.1
 obtain⟨Y,rfl⟩:=Int.eq_ofNat_of_zero_le k.2.2.1
 have:=s_quo (H:=H) (L:=L) (D:=Y) (by omega) (by omega) (by omega)
 simp at this
 exact this
def mdS(a b c:Int):SV:=if a*b / c<9223372036854775808 then .tuple [I64 (a*b / c),I64 0]else .tuple [I64 0,I64 3]
def okMD(a b c:Int):Bool:=inR a 0 9223372036854775807&& (inR b 0 9223372036854775807&&inR c 1 9223372036854775807)
theorem okMD_iff{a b c:Int}:okMD a b c=true↔(0≤a∧a≤9223372036854775807)∧(0≤b∧b≤9223372036854775807)∧1≤c∧c≤9223372036854775807:=by simp only[okMD,Bool.and_eq_true,inR_iff]
theorem mdS_yes{a b c:Int}(h:a*b / c<9223372036854775808):mdS a b c=.tuple [I64 (a*b / c),I64 0] :=if_pos h
theorem mdS_no{a b c:Int}(h:¬a*b / c<9223372036854775808):mdS a b c=.tuple [I64 0,I64 3] :=if_neg h
theorem halves{a b:Int}(ha:0≤a∧a≤9223372036854775807)(hb:0≤b∧b≤9223372036854775807):0≤a*b / 18446744073709551616∧a*b / 18446744073709551616<18446744073709551616∧a*b / 18446744073709551616*18446744073709551616+a*b % 18446744073709551616=a*b∧0≤a*b:=by
 have h0:0≤a*b:=Int.mul_nonneg ha.1 hb.1
 have h1:a*b≤9223372036854775807*9223372036854775807:=Int.mul_le_mul ha.2 hb.2 hb.1 (by omega)
 generalize a*b=x at *
 omega
theorem md_hi{x c:Int}(hx:0≤x)(hc:1≤c)(h:c≤x / 18446744073709551616):¬x / c<9223372036854775808:=by
 have h1:c*18446744073709551616≤x:=by omega
 have:18446744073709551616≤x / c:=Int.le_ediv_of_mul_le (by omega) (by omega)
 omega
theorem s_md(a b c:Int)(h:okMD a b c=true):SCall Tryz.prog 319 [I64 a,I64 b,I64 c] (mdS a b c):=
 scall_v mix [fMul,fSiz,fDiv] ⟨o_mul,o_siz,o_div,trivial⟩ 1000 (.fork .all (.fork .all (.fork (.fork .all .all) (.fork (.ln 4 (.lit .all)) (.lit (.lit (.fork (.ln 4 (.fork .all (.fork .all .all))) (.ln 5 (.fork .all .all)))))))))
  (t:=let y0:=siz a*siz b / 18446744073709551616*18446744073709551616+siz a*siz b % 18446744073709551616;let y1:Tree SV:=.node (decide (y0 % siz c>0)) (.leaf (.tuple [.int .i64 (i64.wrap (u64.wrap (0-u64.wrap (y0 / siz c+1)))),.int .i64 0])) (.leaf (.tuple [.int .i64 (i64.wrap (u64.wrap (0-y0 / siz c))),.int .i64 0]));let y2:Tree SV:=.leaf (.tuple [.int .i64 0,.int .i64 3]);.node (c==0) (.leaf (.tuple [.int .i64 0,.int .i64 4])) (.req (ok63 a) (.req (ok63 b) (.req (okU (siz a)) (.req (okU (siz b)) (.req (ok63 c) (.node (decide (siz a*siz b / 18446744073709551616≥siz c)) y2 (.req (ok63 c) (.req (inR (siz a*siz b / 18446744073709551616) 0 (siz c-1)&& (okU (siz a*siz b % 18446744073709551616)&&okU (siz c))) (.node ((!decide (a<0)==decide (b<0))==decide (c<0)) (.node (decide (y0 / siz c≥9223372036854775808)) y2 (.leaf (.tuple [.int .i64 (i64.wrap (y0 / siz c)),.int .i64 0]))) (.node (decide (y0 / siz c>9223372036854775808)) y2 (.node (y0 / siz c==9223372036854775808) (.node (decide (y0 % siz c>0)) y2 y1) y1))))))))))))
  (by kernel_rfl) (by
   have o:=okMD_iff.1 h
   obtain⟨h1,h2,h3,h4⟩:=halves o.1 o.2.1
   have sa:siz a=a:=if_neg (by omega)
   have sb:siz b=b:=if_neg (by omega)
   have sc:siz c=c:=if_neg (by omega)
   have m0:0≤a*b / c:=Int.ediv_nonneg h4 (by omega)
   have m1:a*b / c≤a*b:=Int.ediv_le_self _ h4
   have hi:=md_hi h4 o.2.2.1
   have k1:ok63 a=true:=inR_iff.2 (by omega)
   have k2:ok63 b=true:=inR_iff.2 (by omega)
   have k3:ok63 c=true:=inR_iff.2 (by omega)
   have k4:okU a=true:=inR_iff.2 (by omega)
   have k5:okU b=true:=inR_iff.2 (by omega)
   have k6:okU c=true:=inR_iff.2 (by omega)
   have k7:okU (a*b / 18446744073709551616)=true:=inR_iff.2 (by omega)
   have k8:okU (a*b % 18446744073709551616)=true:=inR_iff.2 (by omega)
   have na:decide (a<0)=false:=decide_eq_false (by omega)
   have nb:decide (b<0)=false:=decide_eq_false (by omega)
   have nc:decide (c<0)=false:=decide_eq_false (by omega)
   have n0:(c==0)=false:=by simp;omega
   simp only[Tree.holds,sa,sb,sc,h3,k1,k2,k3,k4,k5,k6,k7,k8,na,nb,nc,n0,show(false==false)=true from rfl,show(true==false)=false from rfl,show(false==true)=false from rfl,sL,ne_eq,beq_iff_eq,bne_iff_ne,eq_self,beq_eq_false_iff_ne,bne_eq_false_iff_eq,implies_true];(repeat' (first|apply And.intro|intro _));
   all_goals first
    |(rw[mdS_no (by first|omega|exact hi (by omega))];rfl)
    |(have lt:a*b / c<9223372036854775808:=by omega
      rw[mdS_yes lt,w64 (by omega) (by omega)];rfl)
    |(rw[inR_iff];omega)) (by kernel_rfl) (by unfold mdS;split<;>rfl)
theorem s_mdR(a b c:Int)(h:okMD a b c=true):SCall Tryz.prog 188 [I64 a,I64 b,I64 c] (mdS a b c):=
 scall_v mix [fMulR,fSizR,fQuo] ⟨o_mulR,o_sizR,o_quo,trivial⟩ 1000 (.fork .all (.fork (.lit (.fork (.fork .all .all) (.fork (.ln 4 (.lit .all)) (.lit (.lit (.fork (.ln 4 (.fork .all (.fork .all .all))) (.ln 5 (.fork .all .all)))))))) (.lit .all)))
  (t:=let y0:=siz a*siz b / 18446744073709551616*18446744073709551616+siz a*siz b % 18446744073709551616;let y1:Tree SV:=.node (decide (y0 % siz c>0)) (.leaf (.tuple [.int .i64 (i64.wrap (u64.wrap (0-u64.wrap (y0 / siz c+1)))),.int .i64 0])) (.leaf (.tuple [.int .i64 (i64.wrap (u64.wrap (0-y0 / siz c))),.int .i64 0]));let y2:Tree SV:=.leaf (.tuple [.int .i64 0,.int .i64 3]);.node (c==0) (.leaf (.tuple [.int .i64 0,.int .i64 4])) (.req (ok63 a) (.req (ok63 b) (.req (okU (siz a)) (.req (okU (siz b)) (.req (ok63 c) (.req (okU (siz a*siz b / 18446744073709551616)&& (okU (siz a*siz b % 18446744073709551616)&&okU (siz c))) (.node (decide (siz a*siz b / 18446744073709551616<siz c)) (.node (!!decide (a<0)==!decide (b<0)==decide (c<0)) (.node (decide (y0 / siz c>9223372036854775807)) y2 (.leaf (.tuple [.int .i64 (i64.wrap (y0 / siz c)),.int .i64 0]))) (.node (decide (y0 / siz c>9223372036854775808)) y2 (.node (y0 / siz c==9223372036854775808) (.node (decide (y0 % siz c>0)) y2 y1) y1))) y2))))))))
  (by kernel_rfl) (by
   have o:=okMD_iff.1 h
   obtain⟨h1,h2,h3,h4⟩:=halves o.1 o.2.1
   have sa:siz a=a:=if_neg (by omega)
   have sb:siz b=b:=if_neg (by omega)
   have sc:siz c=c:=if_neg (by omega)
   have m0:0≤a*b / c:=Int.ediv_nonneg h4 (by omega)
   have m1:a*b / c≤a*b:=Int.ediv_le_self _ h4
   have hi:=md_hi h4 o.2.2.1
   have k1:ok63 a=true:=inR_iff.2 (by omega)
   have k2:ok63 b=true:=inR_iff.2 (by omega)
   have k3:ok63 c=true:=inR_iff.2 (by omega)
   have k4:okU a=true:=inR_iff.2 (by omega)
   have k5:okU b=true:=inR_iff.2 (by omega)
   have k6:okU c=true:=inR_iff.2 (by omega)
   have k7:okU (a*b / 18446744073709551616)=true:=inR_iff.2 (by omega)
   have k8:okU (a*b % 18446744073709551616)=true:=inR_iff.2 (by omega)
   have na:decide (a<0)=false:=decide_eq_false (by omega)
   have nb:decide (b<0)=false:=decide_eq_false (by omega)
   have nc:decide (c<0)=false:=decide_eq_false (by omega)
   have n0:(c==0)=false:=by simp;omega
   simp only[Tree.holds,sa,sb,sc,h3,k1,k2,k3,k4,k5,k6,k7,k8,na,nb,nc,n0,show(false==false)=true from rfl,show(true==false)=false from rfl,show(false==true)=false from rfl,sL,ne_eq,beq_iff_eq,bne_iff_ne,eq_self,beq_eq_false_iff_ne,bne_eq_false_iff_eq,implies_true];(repeat' (first|apply And.intro|intro _));
   all_goals first
    |(rw[mdS_no (by first|omega|exact hi (by omega))];rfl)
    |(have lt:a*b / c<9223372036854775808:=by omega
      rw[mdS_yes lt,w64 (by omega) (by omega)];rfl)
    |(rw[inR_iff];omega)) (by kernel_rfl) (by unfold mdS;split<;>rfl)
def fMd:Fact:=factIII 319 fun a b c=>.req (okMD a b c) (.node (decide (a*b / c<9223372036854775808)) (.leaf (.tuple [I64 (a*b / c),I64 0])) (.leaf (.tuple [I64 0,I64 3])))
def fMdR:Fact:=factIII 188 fun a b c=>.req (okMD a b c) (.node (decide (a*b / c<9223372036854775808)) (.leaf (.tuple [I64 (a*b / c),I64 0])) (.leaf (.tuple [I64 0,I64 3])))
theorem o_md:fMd.ok Tryz.prog:=factIII_ok (fun a b c h=>⟨fun k=>mdS_yes (of_decide_eq_true k)▸s_md a b c h,fun k=>mdS_no (of_decide_eq_false k)▸s_md a b c h⟩)
theorem o_mdR:fMdR.ok Tryz.prog:=factIII_ok (fun a b c h=>⟨fun k=>mdS_yes (of_decide_eq_true k)▸s_mdR a b c h,fun k=>mdS_no (of_decide_eq_false k)▸s_mdR a b c h⟩)
def fStp:Fact:=factMII 135 fun m i p=>.req (inR i 0 3) (.node (stOk m p) (.leaf (.tuple [I64 (stepsN (axM m i) p),I64 0])) (.leaf (.tuple [I64 0,I64 1])))
def fStpR:Fact:=factMII 303 fun m i p=>.req (inR i 0 3) (.node (stOk m p) (.leaf (.tuple [I64 (stepsN (axM m i) p),I64 0])) (.leaf (.tuple [I64 0,I64 1])))
theorem o_stp:fStp.ok Tryz.prog:=factMII_ok (fun m i p h=>by
 have h:=inR_iff.1 h
 have hi:i=0∨i=1∨i=2∨i=3:=by omega
 rcases hi with rfl|rfl|rfl|rfl
 ·exact⟨fun hk=>errI_yes hk▸s_st0 m p,fun hk=>errI_no hk▸s_st0 m p⟩
 ·exact⟨fun hk=>errI_yes hk▸s_st1 m p,fun hk=>errI_no hk▸s_st1 m p⟩
 ·exact⟨fun hk=>errI_yes hk▸s_st2 m p,fun hk=>errI_no hk▸s_st2 m p⟩
 ·exact⟨fun hk=>errI_yes hk▸s_st3 m p,fun hk=>errI_no hk▸s_st3 m p⟩)
theorem o_stpR:fStpR.ok Tryz.prog:=factMII_ok (fun m i p h=>by
 have h:=inR_iff.1 h
 have hi:i=0∨i=1∨i=2∨i=3:=by omega
 rcases hi with rfl|rfl|rfl|rfl
 ·exact⟨fun hk=>errI_yes hk▸s_st0R m p,fun hk=>errI_no hk▸s_st0R m p⟩
 ·exact⟨fun hk=>errI_yes hk▸s_st1R m p,fun hk=>errI_no hk▸s_st1R m p⟩
 ·exact⟨fun hk=>errI_yes hk▸s_st2R m p,fun hk=>errI_no hk▸s_st2R m p⟩
 ·exact⟨fun hk=>errI_yes hk▸s_st3R m p,fun hk=>errI_no hk▸s_st3R m p⟩)
def fUni:Fact:=factMII 192 fun m i p=>.req (inR i 0 3) (.node (unOk m p) (.leaf (.tuple [I64 (unitsN (axM m i) p),I64 0])) (.leaf (.tuple [I64 0,I64 1])))
def fUniR:Fact:=factMII 112 fun m i p=>.req (inR i 0 3) (.node (unOk m p) (.leaf (.tuple [I64 (unitsN (axM m i) p),I64 0])) (.leaf (.tuple [I64 0,I64 1])))
theorem o_uni:fUni.ok Tryz.prog:=factMII_ok (fun m i p h=>by
 have h:=inR_iff.1 h
 have hi:i=0∨i=1∨i=2∨i=3:=by omega
 rcases hi with rfl|rfl|rfl|rfl
 ·exact⟨fun hk=>errI_yes hk▸s_un0 m p,fun hk=>errI_no hk▸s_un0 m p⟩
 ·exact⟨fun hk=>errI_yes hk▸s_un1 m p,fun hk=>errI_no hk▸s_un1 m p⟩
 ·exact⟨fun hk=>errI_yes hk▸s_un2 m p,fun hk=>errI_no hk▸s_un2 m p⟩
 ·exact⟨fun hk=>errI_yes hk▸s_un3 m p,fun hk=>errI_no hk▸s_un3 m p⟩)
theorem o_uniR:fUniR.ok Tryz.prog:=factMII_ok (fun m i p h=>by
 have h:=inR_iff.1 h
 have hi:i=0∨i=1∨i=2∨i=3:=by omega
 rcases hi with rfl|rfl|rfl|rfl
 ·exact⟨fun hk=>errI_yes hk▸s_un0R m p,fun hk=>errI_no hk▸s_un0R m p⟩
 ·exact⟨fun hk=>errI_yes hk▸s_un1R m p,fun hk=>errI_no hk▸s_un1R m p⟩
 ·exact⟨fun hk=>errI_yes hk▸s_un2R m p,fun hk=>errI_no hk▸s_un2R m p⟩
 ·exact⟨fun hk=>errI_yes hk▸s_un3R m p,fun hk=>errI_no hk▸s_un3R m p⟩)
theorem s_mot(m:Ma)(v:V3)(e:Int):SCall Tryz.prog 63 [m.sv,V3.sv v,I64 e] (motS m v e):=
 scall_v mix [fStp] ⟨o_stp,trivial⟩ 1000 (.go (.lit (.fork (.lit (.go (.lit (.fork (.lit (.go (.lit (.fork (.lit (.go (.lit (.fork (.lit (.go (.lit (.fork (.all) (.all))))) (.lit (.all)))))) (.lit (.all)))))) (.lit (.all)))))) (.lit (.all)))))
  (t:=.req (true) (.req true (.node (stOk m v.1) (.req true (.req (true) (.req true (.node (stOk m v.2.1) (.req true (.req (true) (.req true (.node (stOk m v.2.2) (.req true (.req (true) (.req true (.node (stOk m e) (.req true (.node (m.xy) (.req true (.req (true) (.req true (.req (true) (.req true (.req (true) (.leaf (.tuple [.agg [.int .i64 (i64.wrap (stepsN (axM m 0) v.1+stepsN (axM m 1) v.2.1)),.int .i64 (i64.wrap (stepsN (axM m 0) v.1-stepsN (axM m 1) v.2.1)),.int .i64 (stepsN (axM m 2) v.2.2),.int .i64 (stepsN (axM m 3) e)],.int .i64 0])))))))) (.leaf (.tuple [.agg [.int .i64 (stepsN (axM m 0) v.1),.int .i64 (stepsN (axM m 1) v.2.1),.int .i64 (stepsN (axM m 2) v.2.2),.int .i64 (stepsN (axM m 3) e)],.int .i64 0])))) (.leaf (.tuple [.agg [.int .i64 0,.int .i64 0,.int .i64 0,.int .i64 0],.int .i64 1])))))) (.leaf (.tuple [.agg [.int .i64 0,.int .i64 0,.int .i64 0,.int .i64 0],.int .i64 1])))))) (.leaf (.tuple [.agg [.int .i64 0,.int .i64 0,.int .i64 0,.int .i64 0],.int .i64 1])))))) (.leaf (.tuple [.agg [.int .i64 0,.int .i64 0,.int .i64 0,.int .i64 0],.int .i64 1])))))
  (by kernel_rfl) (by
   have ax0:axM m 0=m.x:=rfl
   have ax1:axM m 1=m.y:=rfl
   have ax2:axM m 2=m.z:=rfl
   have ax3:axM m 3=m.e:=rfl
   simp only[Tree.holds,sL,ne_eq,beq_iff_eq,bne_iff_ne,eq_self,beq_eq_false_iff_ne,bne_eq_false_iff_eq,implies_true];simp only[ax0,ax1,ax2,ax3];(repeat' (first|apply And.intro|intro _));
   all_goals first
    |(rw[motS_no (Bool.eq_false_iff.2 (by rw[ne_eq,motOk_iff];first|omega|grind))];rfl)
    |(have hk:=motOk_iff.1 (show motOk m v e=true by rw[motOk_iff];grind)
      have ho:=(Ma.ok_iff m).1 (stOk_iff.1 hk.1).1
      have r1:=(st_rng ho.1 (stOk_iff.1 hk.1).2).2
      have r2:=(st_rng ho.2.1 (stOk_iff.1 hk.2.1).2).2
      rw[motS_yes (motOk_iff.2 hk)]
      have w1:=w64 (x:=stepsN m.x v.1+stepsN m.y v.2.1) (by omega) (by omega)
      have w2:=w64 (x:=stepsN m.x v.1-stepsN m.y v.2.1) (by omega) (by omega)
      unfold motV core
      rename_i hxy
      simp only[hxy,w1,w2];rfl)) (by kernel_rfl) (by unfold motS;split<;>rfl)
theorem s_motR(m:Ma)(v:V3)(e:Int):SCall Tryz.prog 271 [m.sv,V3.sv v,I64 e] (motS m v e):=
 scall_v mix [fStpR] ⟨o_stpR,trivial⟩ 1000 (.go (.lit (.fork (.lit (.go (.lit (.fork (.lit (.go (.lit (.fork (.lit (.go (.lit (.fork (.lit (.go (.lit (.fork (.all) (.all))))) (.lit (.all)))))) (.lit (.all)))))) (.lit (.all)))))) (.lit (.all)))))
  (t:=.req (true) (.req true (.node (stOk m v.1) (.req true (.req (true) (.req true (.node (stOk m v.2.1) (.req true (.req (true) (.req true (.node (stOk m v.2.2) (.req true (.req (true) (.req true (.node (stOk m e) (.req true (.node (m.xy) (.req true (.req (true) (.req true (.req (true) (.leaf (.tuple [.agg [.int .i64 (i64.wrap (stepsN (axM m 0) v.1+stepsN (axM m 1) v.2.1)),.int .i64 (i64.wrap (stepsN (axM m 0) v.1-stepsN (axM m 1) v.2.1)),.int .i64 (stepsN (axM m 2) v.2.2),.int .i64 (stepsN (axM m 3) e)],.int .i64 0])))))) (.leaf (.tuple [.agg [.int .i64 (stepsN (axM m 0) v.1),.int .i64 (stepsN (axM m 1) v.2.1),.int .i64 (stepsN (axM m 2) v.2.2),.int .i64 (stepsN (axM m 3) e)],.int .i64 0])))) (.leaf (.tuple [.agg [.int .i64 0,.int .i64 0,.int .i64 0,.int .i64 0],.int .i64 1])))))) (.leaf (.tuple [.agg [.int .i64 0,.int .i64 0,.int .i64 0,.int .i64 0],.int .i64 1])))))) (.leaf (.tuple [.agg [.int .i64 0,.int .i64 0,.int .i64 0,.int .i64 0],.int .i64 1])))))) (.leaf (.tuple [.agg [.int .i64 0,.int .i64 0,.int .i64 0,.int .i64 0],.int .i64 1])))))
  (by kernel_rfl) (by
   have ax0:axM m 0=m.x:=rfl
   have ax1:axM m 1=m.y:=rfl
   have ax2:axM m 2=m.z:=rfl
   have ax3:axM m 3=m.e:=rfl
   simp only[Tree.holds,sL,ne_eq,beq_iff_eq,bne_iff_ne,eq_self,beq_eq_false_iff_ne,bne_eq_false_iff_eq,implies_true];simp only[ax0,ax1,ax2,ax3];(repeat' (first|apply And.intro|intro _));
   all_goals first
    |(rw[motS_no (Bool.eq_false_iff.2 (by rw[ne_eq,motOk_iff];first|omega|grind))];rfl)
    |(have hk:=motOk_iff.1 (show motOk m v e=true by rw[motOk_iff];grind)
      have ho:=(Ma.ok_iff m).1 (stOk_iff.1 hk.1).1
      have r1:=(st_rng ho.1 (stOk_iff.1 hk.1).2).2
      have r2:=(st_rng ho.2.1 (stOk_iff.1 hk.2.1).2).2
      rw[motS_yes (motOk_iff.2 hk)]
      have w1:=w64 (x:=stepsN m.x v.1+stepsN m.y v.2.1) (by omega) (by omega)
      have w2:=w64 (x:=stepsN m.x v.1-stepsN m.y v.2.1) (by omega) (by omega)
      unfold motV core
      rename_i hxy
      simp only[hxy,w1,w2];rfl)) (by kernel_rfl) (by unfold motS;split<;>rfl)
def fMot:Fact:=factMVI 63 fun m v e=>.node (motOk m v e) (.leaf (.tuple [V4.sv (motV m v e),I64 0])) (.leaf (.tuple [V4.sv z4,I64 1]))
def fMotR:Fact:=factMVI 271 fun m v e=>.node (motOk m v e) (.leaf (.tuple [V4.sv (motV m v e),I64 0])) (.leaf (.tuple [V4.sv z4,I64 1]))
theorem o_mot:fMot.ok Tryz.prog:=factMVI_ok (fun m v e=>⟨fun hk=>motS_yes hk▸s_mot m v e,fun hk=>motS_no hk▸s_mot m v e⟩)
theorem o_motR:fMotR.ok Tryz.prog:=factMVI_ok (fun m v e=>⟨fun hk=>motS_yes hk▸s_motR m v e,fun hk=>motS_no hk▸s_motR m v e⟩)
theorem s_ins(m:Ma)(v:V3):SCall Tryz.prog 214 [m.sv,V3.sv v] (.bool (insB m v)):=
 scall_v mix [fMaOk] ⟨o_maOk,trivial⟩ 1000 (.go (.lit (.fork (.ln 7 (.lit .all)) (.ln 7 (.fork .all (.go (.lit (.fork (.ln 7 (.lit .all)) (.ln 7 (.fork .all (.go (.lit (.fork (.ln 7 (.lit .all)) (.ln 7 (.fork .all (.go (.lit .all)))))))))))))))))
  (t:=.req (true) (.req true (.node (decide (v.1<m.x.min)) (.leaf (.bool false)) (.req true (.node (decide (v.1>m.x.max)) (.leaf (.bool false)) (.req true (.req (true) (.node (decide (v.2.1<m.y.min)) (.leaf (.bool false)) (.req true (.node (decide (v.2.1>m.y.max)) (.leaf (.bool false)) (.req true (.req (true) (.node (decide (v.2.2<m.z.min)) (.leaf (.bool false)) (.req true (.node (decide (v.2.2>m.z.max)) (.leaf (.bool false)) (.leaf (.bool m.ok)))))))))))))))))
  (by kernel_rfl) (by simp only[Tree.holds,sL,ne_eq,beq_iff_eq,bne_iff_ne,eq_self,beq_eq_false_iff_ne,bne_eq_false_iff_eq,implies_true];(repeat' (first|apply And.intro|intro _));all_goals(refine holds_bool ?_;rw[insB_iff];(try simp only[sL,ne_eq,beq_iff_eq,bne_iff_ne,eq_self,beq_eq_false_iff_ne,bne_eq_false_iff_eq,implies_true]); first|omega|grind)) (by kernel_rfl) (by kernel_rfl)
theorem s_insR(m:Ma)(v:V3):SCall Tryz.prog 272 [m.sv,V3.sv v] (.bool (insB m v)):=
 scall_v mix [fMaOkR] ⟨o_maOkR,trivial⟩ 1000 (.fork (.ln 5 (.fork (.ln 5 (.fork (.ln 5 (.fork (.ln 5 (.fork (.ln 5 (.fork (.ln 4 (.lit .all)) (.ln 4 (.lit .all)))) (.ln 5 (.lit .all)))) (.ln 11 (.lit .all)))) (.ln 12 (.lit .all)))) (.ln 18 (.lit .all)))) (.ln 19 (.lit .all)))
  (t:=.node (m.ok) (.req true (.node (decide (v.1≥m.x.min)) (.node (decide (v.1≤m.x.max)) (.req true (.node (decide (v.2.1≥m.y.min)) (.node (decide (v.2.1≤m.y.max)) (.req true (.node (decide (v.2.2≥m.z.min)) (.leaf (.bool (decide (v.2.2≤m.z.max)))) (.leaf (.bool false)))) (.leaf (.bool false))) (.leaf (.bool false)))) (.leaf (.bool false))) (.leaf (.bool false)))) (.leaf (.bool false)))
  (by kernel_rfl) (by simp only[Tree.holds,sL,ne_eq,beq_iff_eq,bne_iff_ne,eq_self,beq_eq_false_iff_ne,bne_eq_false_iff_eq,implies_true];(repeat' (first|apply And.intro|intro _));all_goals(refine holds_bool ?_;rw[insB_iff];(try simp only[sL,ne_eq,beq_iff_eq,bne_iff_ne,eq_self,beq_eq_false_iff_ne,bne_eq_false_iff_eq,implies_true]); first|omega|grind)) (by kernel_rfl) (by kernel_rfl)
def fIns:Fact:=factMV 214 fun m v=>.leaf (.bool (insB m v))
def fInsR:Fact:=factMV 272 fun m v=>.leaf (.bool (insB m v))
theorem o_ins:fIns.ok Tryz.prog:=factMV_ok (s_ins)
theorem o_insR:fInsR.ok Tryz.prog:=factMV_ok (s_insR)
theorem s_pos(m:Ma)(p:V4)(h:(m.ok&&near4 p)=true):SCall Tryz.prog 193 [m.sv,V4.sv p] (.tuple [V3.sv ((posV m p).1,(posV m p).2.1,(posV m p).2.2.1),I64 (posV m p).2.2.2,I64 0]):=
 scall_v mix [fUni,fFlo,fMaOk] ⟨o_uni,o_flo,o_maOk,trivial⟩ 1000 (.go (.lit (.fork (.ln 3 (.fork .all (.go (.lit (.fork (.ln 3 (.fork .all (.go (.lit (.fork (.ln 3 (.fork .all (.go (.lit (.fork (.ln 3 (.fork .all (.go (.lit (.fork (.go (.lit (.fork (.lit (.go (.lit (.fork (.lit (.go (.lit (.fork (.lit (.go (.lit (.fork (.lit (.go (.lit .all))) (.lit .all))))) (.lit .all))))) (.lit .all))))) (.lit .all)))) (.go (.lit (.fork (.lit (.go (.lit (.fork (.lit (.go (.lit (.fork (.lit (.go (.lit (.fork (.lit (.go (.lit .all))) (.lit .all))))) (.lit .all))))) (.lit .all))))) (.lit .all))))))))) (.ln 3 (.lit .all))))))) (.ln 3 (.lit .all))))))) (.ln 3 (.lit .all))))))) (.ln 3 (.lit .all)))))
  (t:=let y0:Tree SV:=.leaf (.tuple [.agg [.int .i64 0,.int .i64 0,.int .i64 0],.int .i64 0,.int .i64 1]);.req (true) (.node (decide (p.1≥-281474976710656)) (.node (!decide (p.1≤281474976710656)) y0 (.req true (.node (decide (p.2.1≥-281474976710656)) (.node (!decide (p.2.1≤281474976710656)) y0 (.req true (.node (decide (p.2.2.1≥-281474976710656)) (.node (!decide (p.2.2.1≤281474976710656)) y0 (.req true (.node (decide (p.2.2.2≥-281474976710656)) (.node (!decide (p.2.2.2≤281474976710656)) y0 (.node (m.xy) (.req true (.req (true) (.req (inR (i64.wrap (p.1+p.2.1)) (-4611686018427387904) 4611686018427387904) (.req true (.req (true) (.req (inR (i64.wrap (p.1-p.2.1)) (-4611686018427387904) 4611686018427387904) (.req true (.req (true) (.req true (.req (true) (.node (unOk m (i64.wrap (p.1+p.2.1) / 2)) (.req true (.req (true) (.req true (.node (unOk m (i64.wrap (p.1-p.2.1) / 2)) (.req true (.req (true) (.req true (.node (unOk m p.2.2.1) (.req true (.req (true) (.req true (.node (unOk m p.2.2.2) (.req true (.req (true) (.req true (.req (true) (.req true (.leaf (.tuple [.agg [.int .i64 (unitsN (axM m 0) (i64.wrap (p.1+p.2.1) / 2)),.int .i64 (unitsN (axM m 1) (i64.wrap (p.1-p.2.1) / 2)),.int .i64 (unitsN (axM m 2) p.2.2.1)],.int .i64 (unitsN (axM m 3) p.2.2.2),.int .i64 0]))))))) y0)))) y0)))) y0)))) y0))))))))))) (.req true (.req (true) (.node (unOk m p.1) (.req true (.req (true) (.req true (.node (unOk m p.2.1) (.req true (.req (true) (.req true (.node (unOk m p.2.2.1) (.req true (.req (true) (.req true (.node (unOk m p.2.2.2) (.req true (.req (true) (.req true (.req (true) (.req true (.leaf (.tuple [.agg [.int .i64 (unitsN (axM m 0) p.1),.int .i64 (unitsN (axM m 1) p.2.1),.int .i64 (unitsN (axM m 2) p.2.2.1)],.int .i64 (unitsN (axM m 3) p.2.2.2),.int .i64 0]))))))) y0)))) y0)))) y0)))) y0))))) y0))) y0))) y0))) y0))
  (by kernel_rfl) (by
   rw[Bool.and_eq_true,near4_iff]at h
   have ho:=h.1
   have n1:=w64 (x:=p.1+p.2.1) (by omega) (by omega)
   have n2:=w64 (x:=p.1-p.2.1) (by omega) (by omega)
   have d1:=ediv_rng (a:=p.1+p.2.1) (b:=2) (M:=33554432) (by omega) (by omega) (by omega)
   have d2:=ediv_rng (a:=p.1-p.2.1) (b:=2) (M:=33554432) (by omega) (by omega) (by omega)
   have u:∀n:Int,-33554432≤n∧n≤33554432→unOk m n=true:=fun n hn=>unOk_iff.2 ⟨ho,by omega⟩
   have u1:=u _ d1
   have u2:=u _ d2
   have u3:=u p.1 (by omega)
   have u4:=u p.2.1 (by omega)
   have u5:=u p.2.2.1 (by omega)
   have u6:=u p.2.2.2 (by omega)
   have ax0:axM m 0=m.x:=rfl
   have ax1:axM m 1=m.y:=rfl
   have ax2:axM m 2=m.z:=rfl
   have ax3:axM m 3=m.e:=rfl
   have i1:inR (p.1+p.2.1) (-4611686018427387904) 4611686018427387904=true:=inR_iff.2 (by omega)
   have i2:inR (p.1-p.2.1) (-4611686018427387904) 4611686018427387904=true:=inR_iff.2 (by omega)
   have q0:∀n:Int,-16777216≤n∧n≤16777216→decide (n≥-281474976710656)=true∧decide (n≤281474976710656)=true∧decide (n < -281474976710656)=false∧decide (n>281474976710656)=false:=fun n hn=>⟨decide_eq_true (by omega),decide_eq_true (by omega),decide_eq_false (by omega),decide_eq_false (by omega)⟩
   obtain⟨q1,q2,q3,q4⟩:=q0 p.1 (by omega)
   obtain⟨q5,q6,q7,q8⟩:=q0 p.2.1 (by omega)
   obtain⟨q9,qa,qb,qc⟩:=q0 p.2.2.1 (by omega)
   obtain⟨qd,qe,qf,qg⟩:=q0 p.2.2.2 (by omega)
   cases hxy:m.xy
   all_goals simp only[Tree.holds,posV,unco,V3.sv,I64,hxy,ho,n1,n2,u1,u2,u3,u4,u5,u6,ax0,ax1,ax2,ax3,i1,i2,q1,q2,q3,q4,q5,q6,q7,q8,q9,qa,qb,qc,qd,qe,qf,qg,sL,ne_eq,beq_iff_eq,bne_iff_ne,eq_self,beq_eq_false_iff_ne,bne_eq_false_iff_eq,implies_true]) (by kernel_rfl) (by kernel_rfl)
theorem s_posR(m:Ma)(p:V4)(h:(m.ok&&near4 p)=true):SCall Tryz.prog 198 [m.sv,V4.sv p] (.tuple [V3.sv ((posV m p).1,(posV m p).2.1,(posV m p).2.2.1),I64 (posV m p).2.2.2,I64 0]):=
 scall_v mix [fUniR,fFloR,fMaOkR] ⟨o_uniR,o_floR,o_maOkR,trivial⟩ 1000 (.go (.lit (.fork (.ln 5 (.lit .all)) (.lit (.lit (.fork (.lit (.lit (.lit .all))) (.lit (.lit (.fork .all (.go (.lit (.fork (.ln 5 (.lit .all)) (.lit (.lit (.fork (.lit (.lit (.lit .all))) (.lit (.lit (.fork .all (.go (.lit (.fork (.ln 5 (.lit .all)) (.lit (.lit (.fork (.lit (.lit (.lit .all))) (.lit (.lit (.fork .all (.go (.lit (.fork (.ln 5 (.lit .all)) (.lit (.lit (.fork (.lit (.lit (.lit .all))) (.lit (.lit (.fork .all (.go (.lit (.fork (.go (.lit (.fork (.lit (.go (.lit (.fork (.lit (.go (.lit (.fork (.lit (.go (.lit (.fork (.lit (.go (.lit .all))) (.lit .all))))) (.lit .all))))) (.lit .all))))) (.lit .all)))) (.go (.lit (.fork (.lit (.go (.lit (.fork (.lit (.go (.lit (.fork (.lit (.go (.lit (.fork (.lit (.go (.lit .all))) (.lit .all))))) (.lit .all))))) (.lit .all))))) (.lit .all)))))))))))))))))))))))))))))))))))))))))))
  (t:=let y0:Tree SV:=.leaf (.tuple [.agg [.int .i64 0,.int .i64 0,.int .i64 0],.int .i64 0,.int .i64 1]);.req (true) (.node (!m.ok) y0 (.node (decide (p.1 < -281474976710656)) y0 (.node (decide (p.1>281474976710656)) y0 (.req true (.node (!m.ok) y0 (.node (decide (p.2.1 < -281474976710656)) y0 (.node (decide (p.2.1>281474976710656)) y0 (.req true (.node (!m.ok) y0 (.node (decide (p.2.2.1 < -281474976710656)) y0 (.node (decide (p.2.2.1>281474976710656)) y0 (.req true (.node (!m.ok) y0 (.node (decide (p.2.2.2 < -281474976710656)) y0 (.node (decide (p.2.2.2>281474976710656)) y0 (.node (m.xy) (.req true (.req (true) (.req (inR (i64.wrap (p.1+p.2.1)) (-4611686018427387904) 4611686018427387904) (.req true (.req (true) (.req (inR (i64.wrap (p.1-p.2.1)) (-4611686018427387904) 4611686018427387904) (.req true (.req (true) (.req true (.req (true) (.node (unOk m (i64.wrap (p.1+p.2.1) / 2)) (.req true (.req (true) (.req true (.node (unOk m (i64.wrap (p.1-p.2.1) / 2)) (.req true (.req (true) (.req true (.node (unOk m p.2.2.1) (.req true (.req (true) (.req true (.node (unOk m p.2.2.2) (.req true (.req (true) (.req true (.req (true) (.req true (.leaf (.tuple [.agg [.int .i64 (unitsN (axM m 0) (i64.wrap (p.1+p.2.1) / 2)),.int .i64 (unitsN (axM m 1) (i64.wrap (p.1-p.2.1) / 2)),.int .i64 (unitsN (axM m 2) p.2.2.1)],.int .i64 (unitsN (axM m 3) p.2.2.2),.int .i64 0]))))))) y0)))) y0)))) y0)))) y0))))))))))) (.req true (.req (true) (.node (unOk m p.1) (.req true (.req (true) (.req true (.node (unOk m p.2.1) (.req true (.req (true) (.req true (.node (unOk m p.2.2.1) (.req true (.req (true) (.req true (.node (unOk m p.2.2.2) (.req true (.req (true) (.req true (.req (true) (.req true (.leaf (.tuple [.agg [.int .i64 (unitsN (axM m 0) p.1),.int .i64 (unitsN (axM m 1) p.2.1),.int .i64 (unitsN (axM m 2) p.2.2.1)],.int .i64 (unitsN (axM m 3) p.2.2.2),.int .i64 0]))))))) y0)))) y0)))) y0)))) y0))))))))))))))))))))
  (by kernel_rfl) (by
   rw[Bool.and_eq_true,near4_iff]at h
   have ho:=h.1
   have n1:=w64 (x:=p.1+p.2.1) (by omega) (by omega)
   have n2:=w64 (x:=p.1-p.2.1) (by omega) (by omega)
   have d1:=ediv_rng (a:=p.1+p.2.1) (b:=2) (M:=33554432) (by omega) (by omega) (by omega)
   have d2:=ediv_rng (a:=p.1-p.2.1) (b:=2) (M:=33554432) (by omega) (by omega) (by omega)
   have u:∀n:Int,-33554432≤n∧n≤33554432→unOk m n=true:=fun n hn=>unOk_iff.2 ⟨ho,by omega⟩
   have u1:=u _ d1
   have u2:=u _ d2
   have u3:=u p.1 (by omega)
   have u4:=u p.2.1 (by omega)
   have u5:=u p.2.2.1 (by omega)
   have u6:=u p.2.2.2 (by omega)
   have ax0:axM m 0=m.x:=rfl
   have ax1:axM m 1=m.y:=rfl
   have ax2:axM m 2=m.z:=rfl
   have ax3:axM m 3=m.e:=rfl
   have i1:inR (p.1+p.2.1) (-4611686018427387904) 4611686018427387904=true:=inR_iff.2 (by omega)
   have i2:inR (p.1-p.2.1) (-4611686018427387904) 4611686018427387904=true:=inR_iff.2 (by omega)
   have q0:∀n:Int,-16777216≤n∧n≤16777216→decide (n≥-281474976710656)=true∧decide (n≤281474976710656)=true∧decide (n < -281474976710656)=false∧decide (n>281474976710656)=false:=fun n hn=>⟨decide_eq_true (by omega),decide_eq_true (by omega),decide_eq_false (by omega),decide_eq_false (by omega)⟩
   obtain⟨q1,q2,q3,q4⟩:=q0 p.1 (by omega)
   obtain⟨q5,q6,q7,q8⟩:=q0 p.2.1 (by omega)
   obtain⟨q9,qa,qb,qc⟩:=q0 p.2.2.1 (by omega)
   obtain⟨qd,qe,qf,qg⟩:=q0 p.2.2.2 (by omega)
   cases hxy:m.xy
   all_goals simp only[Tree.holds,posV,unco,V3.sv,I64,hxy,ho,n1,n2,u1,u2,u3,u4,u5,u6,ax0,ax1,ax2,ax3,i1,i2,q1,q2,q3,q4,q5,q6,q7,q8,q9,qa,qb,qc,qd,qe,qf,qg,sL,ne_eq,beq_iff_eq,bne_iff_ne,eq_self,beq_eq_false_iff_ne,bne_eq_false_iff_eq,implies_true]) (by kernel_rfl) (by kernel_rfl)
def fPos:Fact:=factMV4 193 fun m p=>.req (m.ok&&near4 p) (.leaf (.tuple [V3.sv ((posV m p).1,(posV m p).2.1,(posV m p).2.2.1),I64 (posV m p).2.2.2,I64 0]))
def fPosR:Fact:=factMV4 198 fun m p=>.req (m.ok&&near4 p) (.leaf (.tuple [V3.sv ((posV m p).1,(posV m p).2.1,(posV m p).2.2.1),I64 (posV m p).2.2.2,I64 0]))
theorem o_pos:fPos.ok Tryz.prog:=factMV4_ok (fun m p h=>s_pos m p h)
theorem o_posR:fPosR.ok Tryz.prog:=factMV4_ok (fun m p h=>s_posR m p h)
def lst(v a b c:Int):Int:=if a*b / c<v then a*b / c else v
def factI4(f:FuncId)(h:Int→Int→Int→Int→Tree SV):Fact:=⟨f,fun args=>match args with
 |[.int .i64 a,.int .i64 b,.int .i64 c,.int .i64 d] =>some (h a b c d)
 |_=>none⟩
theorem factI4_ok{P:Program}{f:FuncId}{h:Int→Int→Int→Int→Tree SV}(k:∀a b c d,(h a b c d).says (SCall P f [I64 a,I64 b,I64 c,I64 d])):(factI4 f h).ok P:=fun args t ht=>by
 simp only[factI4]at ht
 split at ht
 ·injection ht with ht;subst ht;exact k _ _ _ _
 ·cases ht
def okB(v a b c:Int):Bool:=okMD a b c&&inR v 0 16777216
theorem okB_iff{v a b c:Int}:okB v a b c=true↔okMD a b c=true∧0≤v∧v≤16777216:=by simp only[okB,Bool.and_eq_true,inR_iff]
theorem s_szL(n:Int)(hn:inR n (-4611686018427387904) 4611686018427387904=true):SCall Tryz.prog 290 [I64 n] (I64 (sz n)):=
 scall_v mix [] trivial 1000 (.all)
  (t:=.leaf (SV.int IntKind.i64 (if i64.wrap (0-n)>n then i64.wrap (0-n)else n)))
  (by kernel_rfl) (by
   rw[inR_iff]at hn
   have e:i64.wrap (0-n)= -n:=by rw[w64 (by omega) (by omega)];omega
   simp only[Tree.holds,sL,ne_eq,beq_iff_eq,bne_iff_ne,eq_self,beq_eq_false_iff_ne,bne_eq_false_iff_eq,implies_true];(repeat' (first|apply And.intro|intro _));all_goals((try simp only[e]);refine sv_int ?_;unfold sz;(repeat' split)<;>omega)) (by kernel_rfl) (by kernel_rfl)
theorem s_szLR(n:Int)(hn:inR n (-4611686018427387904) 4611686018427387904=true):SCall Tryz.prog 99 [I64 n] (I64 (sz n)):=
 scall_v mix [] trivial 1000 (.fork (.all) (.all))
  (t:=.node (decide (n<0))
 (.leaf (SV.int IntKind.i64 (i64.wrap (0-n))))
 (.leaf (SV.int IntKind.i64 n)))
   (by kernel_rfl) (by
    rw[inR_iff]at hn
    have e:i64.wrap (0-n)= -n:=by rw[w64 (by omega) (by omega)];omega
    simp only[Tree.holds,sL,ne_eq,beq_iff_eq,bne_iff_ne,eq_self,beq_eq_false_iff_ne,bne_eq_false_iff_eq,implies_true];(repeat' (first|apply And.intro|intro _));all_goals((try simp only[e]);refine sv_int ?_;unfold sz;(repeat' split)<;>omega)) (by kernel_rfl) (by kernel_rfl)
theorem o_szL:(fSz 290).ok Tryz.prog:=factI_ok fun n h=>s_szL n h
theorem o_szLR:(fSz 99).ok Tryz.prog:=factI_ok fun n h=>s_szLR n h
theorem s_bnd(a b c v:Int)(h:okB v a b c=true):SCall Tryz.prog 289 [I64 a,I64 b,I64 c,I64 v] (I64 (lst v a b c)):=
 scall_v mix [fMd] ⟨o_md,trivial⟩ 1000 (.fork (.lit (.all)) (.lit (.all)))
  (t:=.req (okMD a b c) (.node (decide (a*b / c<9223372036854775808))
 (.leaf (SV.int IntKind.i64 (if v<a*b / c then v else a*b / c)))
 (.leaf (SV.int IntKind.i64 v))))
  (by kernel_rfl) (by
   have o:=okB_iff.1 h
   have m:=okMD_iff.1 o.1
   simp only[Tree.holds,sL,ne_eq,beq_iff_eq,bne_iff_ne,eq_self,beq_eq_false_iff_ne,bne_eq_false_iff_eq,implies_true];(repeat' (first|apply And.intro|intro _));
   all_goals first
    |exact o.1
    |(refine sv_int ?_;unfold lst;(repeat' split)<;>omega)) (by kernel_rfl) (by kernel_rfl)
theorem s_lst(v a b c:Int)(h:okB v a b c=true):SCall Tryz.prog 98 [I64 v,I64 a,I64 b,I64 c] (I64 (lst v a b c)):=
 scall_v mix [fMdR] ⟨o_mdR,trivial⟩ 1000 (.fork (.ln 4 (.fork .all .all)) (.ln 4 (.lit .all)))
  (t:=.req (okMD a b c) (.node (decide (a*b / c<9223372036854775808))
 (.node (decide (a*b / c<v))
  (.leaf (SV.int IntKind.i64 (a*b / c)))
  (.leaf (SV.int IntKind.i64 v)))
 (.leaf (SV.int IntKind.i64 v))))
  (by kernel_rfl) (by
   have o:=okB_iff.1 h
   have m:=okMD_iff.1 o.1
   simp only[Tree.holds,sL,ne_eq,beq_iff_eq,bne_iff_ne,eq_self,beq_eq_false_iff_ne,bne_eq_false_iff_eq,implies_true];(repeat' (first|apply And.intro|intro _));
   all_goals first
    |exact o.1
    |(refine sv_int ?_;unfold lst;(repeat' split)<;>omega)) (by kernel_rfl) (by kernel_rfl)
def fBnd:Fact:=factI4 289 fun a b c v=>.req (okB v a b c) (.leaf (I64 (lst v a b c)))
def fLst:Fact:=factI4 98 fun v a b c=>.req (okB v a b c) (.leaf (I64 (lst v a b c)))
theorem o_bnd:fBnd.ok Tryz.prog:=factI4_ok fun a b c v h=>s_bnd a b c v h
theorem o_lst:fLst.ok Tryz.prog:=factI4_ok fun v a b c h=>s_lst v a b c h
def stS(n v s k:Int):Int:=if k=0 then v else lst v s n (sz k)
def acc0(m:Ma)(c:V4):Int:=stS (dom c) (stS (dom c) (stS (dom c) (stS (dom c) 16777216 m.x.accel c.1) m.y.accel c.2.1) m.z.accel c.2.2.1) m.e.accel c.2.2.2
theorem lst_nn{v a b c:Int}(h:okB v a b c=true):0≤lst v a b c∧lst v a b c≤v:=by
 have o:=okB_iff.1 h
 have m:=okMD_iff.1 o.1
 have:0≤a*b / c:=Int.ediv_nonneg (Int.mul_nonneg m.1.1 m.2.1.1) (by omega)
 unfold lst;split<;>omega
theorem lst_rng{v a b c:Int}(h:okB v a b c=true)(hc:c≤a*b)(hv:1≤v):1≤lst v a b c∧lst v a b c≤v:=by
 have o:=okB_iff.1 h
 have m:=okMD_iff.1 o.1
 have:1≤a*b / c:=Int.le_ediv_of_mul_le (by omega) (by omega)
 unfold lst;split<;>omega
theorem ax_b{v s n k:Int}(hs:1≤s∧s≤16777216)(hn:1≤n∧n≤16777216)(hv:1≤v∧v≤16777216)(hk:¬k=0)(hz:sz k≤n):okB v s n (sz k)=true∧sz k≤s*n:=by
 have:1≤sz k:=by unfold sz;split<;>omega
 have h2:1*n≤s*n:=Int.mul_le_mul_of_nonneg_right hs.1 (by omega)
 exact⟨okB_iff.2 ⟨okMD_iff.2 (by omega),by omega⟩,by omega⟩
theorem stS_rng{n v s k:Int}(hs:1≤s∧s≤16777216)(hn:1≤n∧n≤16777216)(hv:1≤v∧v≤16777216)(hz:sz k≤n):1≤stS n v s k∧stS n v s k≤v:=by
 unfold stS
 split
 ·omega
 ·rename_i hk
  obtain⟨h1,h2⟩:=ax_b hs hn hv hk hz
  exact lst_rng h1 h2 hv.1
theorem lst_st{n v s k:Int}(h:¬k=0):lst v s n (sz k)=stS n v s k:=(if_neg h).symm
theorem st_no{n v s k:Int}(h:k=0):v=stS n v s k:=(if_pos h).symm
structure Four (M:Int) (m:Ma) (c:V4) (s:Ax→Int):Prop where
 h1:∀v,1≤v∧v≤M→1≤stS (dom c) v (s m.x) c.1∧stS (dom c) v (s m.x) c.1≤M
 h2:∀v,1≤v∧v≤M→1≤stS (dom c) v (s m.y) c.2.1∧stS (dom c) v (s m.y) c.2.1≤M
 h3:∀v,1≤v∧v≤M→1≤stS (dom c) v (s m.z) c.2.2.1∧stS (dom c) v (s m.z) c.2.2.1≤M
 h4:∀v,1≤v∧v≤M→1≤stS (dom c) v (s m.e) c.2.2.2∧stS (dom c) v (s m.e) c.2.2.2≤M
 k1:∀v,1≤v∧v≤M→¬c.1=0→okB v (s m.x) (dom c) (sz c.1)=true
 k2:∀v,1≤v∧v≤M→¬c.2.1=0→okB v (s m.y) (dom c) (sz c.2.1)=true
 k3:∀v,1≤v∧v≤M→¬c.2.2.1=0→okB v (s m.z) (dom c) (sz c.2.2.1)=true
 k4:∀v,1≤v∧v≤M→¬c.2.2.2=0→okB v (s m.e) (dom c) (sz c.2.2.2)=true
theorem four{M:Int}{m:Ma}{c:V4}{s:Ax→Int}(hM:M≤16777216)(hc:okC c=true)(hs:∀a:Ax,a.ok=true→1≤s a∧s a≤16777216)(hm:m.ok=true):Four M m c s:=by
 have o:=(Ma.ok_iff m).1 hm
 have d:=mx4_bounds hc
 rw[←dom_ok hc]at d
 have n1:1≤dom c∧dom c≤16777216:=by omega
 refine⟨fun v hv=>?_,fun v hv=>?_,fun v hv=>?_,fun v hv=>?_,fun v hv k=>(ax_b (hs _ o.1) n1 (by omega) k (by omega)).1,fun v hv k=>(ax_b (hs _ o.2.1) n1 (by omega) k (by omega)).1,fun v hv k=>(ax_b (hs _ o.2.2.1) n1 (by omega) k (by omega)).1,fun v hv k=>(ax_b (hs _ o.2.2.2.1) n1 (by omega) k (by omega)).1⟩
 ·have:=stS_rng (hs _ o.1) n1 (v:=v) (by omega) (k:=c.1) (by omega);omega
 ·have:=stS_rng (hs _ o.2.1) n1 (v:=v) (by omega) (k:=c.2.1) (by omega);omega
 ·have:=stS_rng (hs _ o.2.2.1) n1 (v:=v) (by omega) (k:=c.2.2.1) (by omega);omega
 ·have:=stS_rng (hs _ o.2.2.2.1) n1 (v:=v) (by omega) (k:=c.2.2.2) (by omega);omega
theorem ax_sp(a:Ax)(h:a.ok=true):1≤a.speed∧a.speed≤16777216:=by have:=(Ax.ok_iff a).1 h;omega
theorem ax_ac(a:Ax)(h:a.ok=true):1≤a.accel∧a.accel≤16777216:=by have:=(Ax.ok_iff a).1 h;omega
theorem ax_je(a:Ax)(h:a.ok=true):1≤a.jerk∧a.jerk≤1048576:=by have:=(Ax.ok_iff a).1 h;omega
def okL(m:Ma)(c:V4):Bool:=m.ok&&okC c
theorem okL_iff{m:Ma}{c:V4}:okL m c=true↔m.ok=true∧okC c=true:=by simp only[okL,Bool.and_eq_true]
def accV(m:Ma)(c:V4):Int:=match okL m c with
 |true=>acc0 m c
 |false=>0
theorem accV_yes{m:Ma}{c:V4}(h:okL m c=true):accV m c=acc0 m c:=by unfold accV;rw[h]
theorem accV_no{m:Ma}{c:V4}(h:okL m c=false):accV m c=0:=by unfold accV;rw[h]
def stepT(n v s k:Int)(K:Int→Tree SV):Tree SV:=.req true (.node (k != 0) (.req true (.req true (.req (inR k (-4611686018427387904) 4611686018427387904) (.req (okB v s n (sz k)) (K (lst v s n (sz k))))))) (K v))
theorem stepT_holds{n v s k:Int}{K:Int→Tree SV}{L:SV→Prop}(hk:inR k (-4611686018427387904) 4611686018427387904=true)(hb:¬k=0→okB v s n (sz k)=true)(h:(K (stS n v s k)).holds L):(stepT n v s k K).holds L:=by
 refine⟨rfl,fun c=>⟨rfl,rfl,hk,hb ?_,?_⟩,fun c=>?_⟩
 ·simpa using c
 ·rw[lst_st (by simpa using c)];exact h
 ·rw[st_no (n:=n) (v:=v) (s:=s) (k:=k) (by simpa using c)];exact h
def fourT(m:Ma)(c:V4)(s:Ax→Int)(v:Int)(K:Int→Tree SV):Tree SV:=stepT (dom c) v (s m.x) c.1 fun v=>stepT (dom c) v (s m.y) c.2.1 fun v=>stepT (dom c) v (s m.z) c.2.2.1 fun v=>stepT (dom c) v (s m.e) c.2.2.2 K
def fourV(m:Ma)(c:V4)(s:Ax→Int)(v:Int):Int:=stS (dom c) (stS (dom c) (stS (dom c) (stS (dom c) v (s m.x) c.1) (s m.y) c.2.1) (s m.z) c.2.2.1) (s m.e) c.2.2.2
theorem fourT_holds{M:Int}{m:Ma}{c:V4}{s:Ax→Int}{K:Int→Tree SV}{L:SV→Prop}(f:Four M m c s)(hc:okC c=true){v:Int}(hv:1≤v∧v≤M)(h:(K (fourV m c s v)).holds L):(fourT m c s v K).holds L:=by
 have b:=(okC_iff.1 hc).1
 have v1:=f.h1 v hv
 have v2:=f.h2 _ v1
 have v3:=f.h3 _ v2
 exact stepT_holds (inR_iff.2 (by omega)) (f.k1 v hv) (stepT_holds (inR_iff.2 (by omega)) (f.k2 _ v1) (stepT_holds (inR_iff.2 (by omega)) (f.k3 _ v2) (stepT_holds (inR_iff.2 (by omega)) (f.k4 _ v3) h)))
theorem fourV_rng{M:Int}{m:Ma}{c:V4}{s:Ax→Int}(f:Four M m c s){v:Int}(hv:1≤v∧v≤M):1≤fourV m c s v∧fourV m c s v≤M:=f.h4 _ (f.h3 _ (f.h2 _ (f.h1 v hv)))
theorem s_acc(m:Ma)(c:V4):SCall Tryz.prog 260 [m.sv,V4.sv c] (I64 (accV m c)):=
 scall_v mix [fDom,fOkC,fMaOk,fBnd,fSz 290] ⟨o_dom,o_okC,o_maOk,o_bnd,o_szL,trivial⟩ 1000 (.go (.lit (.fork (.lit (.all)) (.go (.lit (.fork (.all) (.go (.lit (.fork (.go (.lit (.fork (.go (.lit (.fork (.go (.lit (.fork (.go (.lit (.all))) (.go (.lit (.all)))))) (.go (.lit (.fork (.go (.lit (.all))) (.go (.lit (.all))))))))) (.go (.lit (.fork (.go (.lit (.fork (.go (.lit (.all))) (.go (.lit (.all)))))) (.go (.lit (.fork (.go (.lit (.all))) (.go (.lit (.all)))))))))))) (.go (.lit (.fork (.go (.lit (.fork (.go (.lit (.fork (.go (.lit (.all))) (.go (.lit (.all)))))) (.go (.lit (.fork (.go (.lit (.all))) (.go (.lit (.all))))))))) (.go (.lit (.fork (.go (.lit (.fork (.go (.lit (.all))) (.go (.lit (.all)))))) (.go (.lit (.fork (.go (.lit (.all))) (.go (.lit (.all)))))))))))))))))))))
  (t:=.req true (.node (!okC c) (.leaf (I64 0)) (.node (!m.ok) (.leaf (I64 0)) (fourT m c Ax.accel 16777216 fun v=>.leaf (I64 v)))))
  (by kernel_rfl) (by
   cases hl:okL m c with
   |false=>
    have:=mt okL_iff.2 (by rw[hl];exact Bool.false_ne_true)
    simp only[Tree.holds,accV_no hl,sL,ne_eq,beq_iff_eq,bne_iff_ne,eq_self,beq_eq_false_iff_ne,bne_eq_false_iff_eq,implies_true]
    (repeat' (first|apply And.intro|intro _))<;>first|rfl|(exfalso;simp_all)
   |true=>
    obtain⟨hm,hc⟩:=okL_iff.1 hl
    simp only[Tree.holds,accV_yes hl,hm,hc,sL,ne_eq,beq_iff_eq,bne_iff_ne,eq_self,beq_eq_false_iff_ne,bne_eq_false_iff_eq,implies_true]
    exact fourT_holds (M:=16777216) (four (by omega) hc ax_ac hm) hc (by omega) rfl) (by kernel_rfl) (by kernel_rfl)
theorem s_accR(m:Ma)(c:V4):SCall Tryz.prog 36 [m.sv,V4.sv c] (I64 (accV m c)):=
 scall_v mix [fDomR,fOkCR,fMaOkR,fLst,fSz 99] ⟨o_domR,o_okCR,o_maOkR,o_lst,o_szLR,trivial⟩ 1000 (.fork (.ln 3 (.lit .all)) (.ln 3 (.fork .all (.go (.lit (.fork (.go (.lit (.fork (.go (.lit (.fork (.go (.lit (.fork (.go (.lit .all)) (.go (.lit .all))))) (.go (.lit (.fork (.go (.lit .all)) (.go (.lit .all)))))))) (.go (.lit (.fork (.go (.lit (.fork (.go (.lit .all)) (.go (.lit .all))))) (.go (.lit (.fork (.go (.lit .all)) (.go (.lit .all))))))))))) (.go (.lit (.fork (.go (.lit (.fork (.go (.lit (.fork (.go (.lit .all)) (.go (.lit .all))))) (.go (.lit (.fork (.go (.lit .all)) (.go (.lit .all)))))))) (.go (.lit (.fork (.go (.lit (.fork (.go (.lit .all)) (.go (.lit .all))))) (.go (.lit (.fork (.go (.lit .all)) (.go (.lit .all)))))))))))))))))
  (t:=.node (!m.ok) (.leaf (I64 0)) (.node (!okC c) (.leaf (I64 0)) (fourT m c Ax.accel 16777216 fun v=>.leaf (I64 v))))
  (by kernel_rfl) (by
   cases hl:okL m c with
   |false=>
    have:=mt okL_iff.2 (by rw[hl];exact Bool.false_ne_true)
    simp only[Tree.holds,accV_no hl,sL,ne_eq,beq_iff_eq,bne_iff_ne,eq_self,beq_eq_false_iff_ne,bne_eq_false_iff_eq,implies_true]
    (repeat' (first|apply And.intro|intro _))<;>first|rfl|(exfalso;simp_all)
   |true=>
    obtain⟨hm,hc⟩:=okL_iff.1 hl
    simp only[Tree.holds,accV_yes hl,hm,hc,sL,ne_eq,beq_iff_eq,bne_iff_ne,eq_self,beq_eq_false_iff_ne,bne_eq_false_iff_eq,implies_true]
    exact fourT_holds (M:=16777216) (four (by omega) hc ax_ac hm) hc (by omega) rfl) (by kernel_rfl) (by kernel_rfl)
def fAcc:Fact:=factMV4 260 fun m c=>.leaf (I64 (accV m c))
def fAccR:Fact:=factMV4 36 fun m c=>.leaf (I64 (accV m c))
theorem o_acc:fAcc.ok Tryz.prog:=factMV4_ok (s_acc)
theorem o_accR:fAccR.ok Tryz.prog:=factMV4_ok (s_accR)
def spdK(v n l f:Int):Int:=if 0<l∧0<f then(if lst v f n l<1 then 1 else lst v f n l)else v
def spdV(m:Ma)(c:V4)(l f:Int):Int:=match okL m c with
 |true=>spdK (fourV m c Ax.speed 1048576) (dom c) l f
 |false=>0
theorem spdV_yes{m:Ma}{c:V4}{l f:Int}(h:okL m c=true):spdV m c l f=spdK (fourV m c Ax.speed 1048576) (dom c) l f:=by unfold spdV;rw[h]
theorem spdV_no{m:Ma}{c:V4}{l f:Int}(h:okL m c=false):spdV m c l f=0:=by unfold spdV;rw[h]
theorem dom16{c:V4}(hc:okC c=true):1≤dom c∧dom c≤16777216:=⟨dom_pos hc,(dom_range c).2⟩
theorem spd_okB{v n l f:Int}(hv:1≤v∧v≤1048576)(hn:1≤n∧n≤16777216)(hl:0<l∧l≤9223372036854775807)(hf:0<f∧f≤9223372036854775807):okB v f n l=true:=okB_iff.2 ⟨okMD_iff.2 (by omega),by omega⟩
def jS(v A B x:Int):Int:=if sz x=0 then v else lst v A B (sz x)
def jd(a b:V4)(x y:Int):Int:=x*dom b-y*dom a
def junV(m:Ma)(a b:V4):Int:=match okL m a&&okC b with
 |true=>jS (jS (jS (jS 1048576 (m.x.jerk*dom a) (dom b) (jd a b a.1 b.1)) (m.y.jerk*dom a) (dom b) (jd a b a.2.1 b.2.1)) (m.z.jerk*dom a) (dom b) (jd a b a.2.2.1 b.2.2.1)) (m.e.jerk*dom a) (dom b) (jd a b a.2.2.2 b.2.2.2)
 |false=>0
theorem junV_no{m:Ma}{a b:V4}(h:(okL m a&&okC b)=false):junV m a b=0:=by unfold junV;rw[h]
theorem junV_yes{m:Ma}{a b:V4}(h:(okL m a&&okC b)=true):junV m a b=jS (jS (jS (jS 1048576 (m.x.jerk*dom a) (dom b) (jd a b a.1 b.1)) (m.y.jerk*dom a) (dom b) (jd a b a.2.1 b.2.1)) (m.z.jerk*dom a) (dom b) (jd a b a.2.2.1 b.2.2.1)) (m.e.jerk*dom a) (dom b) (jd a b a.2.2.2 b.2.2.2):=by unfold junV;rw[h]
def jT(e:Int→Bool)(x A B v:Int)(K:Int→Tree SV):Tree SV:=.req true (.req true (.req (inR x (-4611686018427387904) 4611686018427387904) (.node (e (sz x)) (.req true (.req (okB v A B (sz x)) (K (lst v A B (sz x))))) (K v))))
theorem jT_holds{e:Int→Bool}(he:∀n,0≤n→(e n=true↔¬n=0)){x A B v:Int}{K:Int→Tree SV}{L:SV→Prop}(hx:inR x (-4611686018427387904) 4611686018427387904=true)(hb:¬sz x=0→okB v A B (sz x)=true)(h:(K (jS v A B x)).holds L):(jT e x A B v K).holds L:=by
 have z:=sz_nonneg x
 refine⟨rfl,rfl,hx,fun c=>⟨rfl,hb ((he _ z).1 c),?_⟩,fun c=>?_⟩
 ·rw[show lst v A B (sz x)=jS v A B x from(if_neg ((he _ z).1 c)).symm];exact h
 ·have:sz x=0:=by
   have hn:=mt (he _ z).2 (by rw[c];exact Bool.false_ne_true)
   omega
  rw[show v=jS v A B x from(if_pos this).symm];exact h
theorem jS_rng{v A B x:Int}(hv:0≤v∧v≤1048576)(h:¬sz x=0→okB v A B (sz x)=true):0≤jS v A B x∧jS v A B x≤1048576:=by
 unfold jS
 split
 ·exact hv
 ·rename_i c
  have:=lst_nn (h c);omega
theorem jd_rng{a b:V4}{x y:Int}(hx: -16777216≤x∧x≤16777216)(hy: -16777216≤y∧y≤16777216):(-281474976710656≤x*dom b∧x*dom b≤281474976710656)∧(-281474976710656≤y*dom a∧y*dom a≤281474976710656):=by
 have h1:=mul_rng (A:=16777216) (B:=16777216) (by omega) hx (dom_range b)
 have h2:=mul_rng (A:=16777216) (B:=16777216) (by omega) hy (dom_range a)
 omega
theorem jd_wrap{a b:V4}{x y:Int}(hx: -16777216≤x∧x≤16777216)(hy: -16777216≤y∧y≤16777216):i64.wrap (i64.wrap (x*dom b)-i64.wrap (y*dom a))=jd a b x y∧inR (jd a b x y) (-4611686018427387904) 4611686018427387904=true∧sz (jd a b x y)≤562949953421312:=by
 have r:=jd_rng (a:=a) (b:=b) hx hy
 unfold jd
 rw[w64 (x:=x*dom b) (by omega) (by omega),w64 (x:=y*dom a) (by omega) (by omega),w64 (by omega) (by omega)]
 refine⟨rfl,inR_iff.2 (by omega),?_⟩
 unfold sz;split<;>omega
theorem lst_assoc{v j n k c:Int}:lst v j (n*k) c=lst v (j*n) k c:=by unfold lst;rw[Int.mul_assoc]
theorem jS_assoc{v j n k x:Int}:jS v j (n*k) x=jS v (j*n) k x:=by unfold jS;rw[lst_assoc]
theorem jer_rng{j n:Int}(hj:1≤j∧j≤1048576)(hn:1≤n∧n≤16777216):0≤j*n∧j*n≤17592186044416:=by
 have h1:0≤j*n:=Int.mul_nonneg (by omega) (by omega)
 have h2:j*n≤1048576*16777216:=Int.mul_le_mul hj.2 hn.2 (by omega) (by omega)
 omega
theorem dom_mul{n k:Int}(hn:1≤n∧n≤16777216)(hk:1≤k∧k≤16777216):0≤n*k∧n*k≤281474976710656:=by
 have h1:0≤n*k:=Int.mul_nonneg (by omega) (by omega)
 have h2:n*k≤16777216*16777216:=Int.mul_le_mul hn.2 hk.2 (by omega) (by omega)
 omega
theorem s_spd(m:Ma)(c:V4)(l f:Int)(h:(ok63 l&&ok63 f)=true):SCall Tryz.prog 259 [m.sv,V4.sv c,I64 l,I64 f] (I64 (spdV m c l f)):=
 scall_v mix [fDom,fOkC,fMaOk,fBnd,fSz 290] ⟨o_dom,o_okC,o_maOk,o_bnd,o_szL,trivial⟩ 1000 (.go (.lit (.fork (.lit .all) (.go (.lit (.fork .all (.go (.lit (.fork (.go (.lit (.fork (.go (.lit (.fork (.go (.lit (.fork (.go (.lit (.fork (.lit (.lit (.fork .all .all))) (.lit (.lit (.lit .all)))))) (.go (.lit (.fork (.lit (.lit (.fork .all .all))) (.lit (.lit (.lit .all))))))))) (.go (.lit (.fork (.go (.lit (.fork (.lit (.lit (.fork .all .all))) (.lit (.lit (.lit .all)))))) (.go (.lit (.fork (.lit (.lit (.fork .all .all))) (.lit (.lit (.lit .all)))))))))))) (.go (.lit (.fork (.go (.lit (.fork (.go (.lit (.fork (.lit (.lit (.fork .all .all))) (.lit (.lit (.lit .all)))))) (.go (.lit (.fork (.lit (.lit (.fork .all .all))) (.lit (.lit (.lit .all))))))))) (.go (.lit (.fork (.go (.lit (.fork (.lit (.lit (.fork .all .all))) (.lit (.lit (.lit .all)))))) (.go (.lit (.fork (.lit (.lit (.fork .all .all))) (.lit (.lit (.lit .all))))))))))))))) (.go (.lit (.fork (.go (.lit (.fork (.go (.lit (.fork (.go (.lit (.fork (.lit (.lit (.fork .all .all))) (.lit (.lit (.lit .all)))))) (.go (.lit (.fork (.lit (.lit (.fork .all .all))) (.lit (.lit (.lit .all))))))))) (.go (.lit (.fork (.go (.lit (.fork (.lit (.lit (.fork .all .all))) (.lit (.lit (.lit .all)))))) (.go (.lit (.fork (.lit (.lit (.fork .all .all))) (.lit (.lit (.lit .all)))))))))))) (.go (.lit (.fork (.go (.lit (.fork (.go (.lit (.fork (.lit (.lit (.fork .all .all))) (.lit (.lit (.lit .all)))))) (.go (.lit (.fork (.lit (.lit (.fork .all .all))) (.lit (.lit (.lit .all))))))))) (.go (.lit (.fork (.go (.lit (.fork (.lit (.lit (.fork .all .all))) (.lit (.lit (.lit .all)))))) (.go (.lit (.fork (.lit (.lit (.fork .all .all))) (.lit (.lit (.lit .all))))))))))))))))))))))))
  (t:=.req true (.node (!okC c) (.leaf (I64 0)) (.node (!m.ok) (.leaf (I64 0)) (fourT m c Ax.speed 1048576 fun v=>.node (decide (l>0)) (.node (decide (f>0)) (.req (okB v f (dom c) l) (.leaf (I64 (if(if lst v f (dom c) l>1 then lst v f (dom c) l else 1)<v then(if lst v f (dom c) l>1 then lst v f (dom c) l else 1)else v)))) (.leaf (I64 v))) (.leaf (I64 v))))))
  (by kernel_rfl) (by
   rw[Bool.and_eq_true]at h
   have h1:=inR_iff.1 h.1
   have h2:=inR_iff.1 h.2
   cases hl:okL m c with
   |false=>
    have:=mt okL_iff.2 (by rw[hl];exact Bool.false_ne_true)
    simp only[Tree.holds,spdV_no hl,sL,ne_eq,beq_iff_eq,bne_iff_ne,eq_self,beq_eq_false_iff_ne,bne_eq_false_iff_eq,implies_true]
    (repeat' (first|apply And.intro|intro _))<;>first|rfl|(exfalso;simp_all)
   |true=>
    obtain⟨hm,hc⟩:=okL_iff.1 hl
    simp only[Tree.holds,spdV_yes hl,hm,hc,sL,ne_eq,beq_iff_eq,bne_iff_ne,eq_self,beq_eq_false_iff_ne,bne_eq_false_iff_eq,implies_true]
    have F:=four (M:=1048576) (m:=m) (c:=c) (s:=Ax.speed) (by omega) hc ax_sp hm
    have fv:=fourV_rng F (v:=1048576) (by omega)
    refine fourT_holds (M:=1048576) F hc (by omega) ?_
    unfold spdK
    generalize fourV m c Ax.speed 1048576=v at fv ⊢
    have dn:=dom16 hc
    have ob:=fun(a:0<l) (b:0<f)=>spd_okB (v:=v) (n:=dom c) (l:=l) (f:=f) (by omega) dn (by omega) (by omega)
    simp only[Tree.holds,sL,ne_eq,beq_iff_eq,bne_iff_ne,eq_self,beq_eq_false_iff_ne,bne_eq_false_iff_eq,implies_true]
    refine⟨fun a=>⟨fun b=>⟨ob a b,?_⟩,fun b=>?_⟩,fun a=>?_⟩
    ·have ln:=lst_nn (ob a b)
     rw[if_pos (show 0<l∧0<f from⟨a,b⟩)]
     refine sv_int ?_;(repeat' split)<;>omega
    ·rw[if_neg (show ¬(0<l∧0<f) by omega)]
    ·rw[if_neg (show ¬(0<l∧0<f) by omega)]) (by kernel_rfl) (by kernel_rfl)
theorem s_spdR(m:Ma)(c:V4)(l f:Int)(h:(ok63 l&&ok63 f)=true):SCall Tryz.prog 35 [m.sv,V4.sv c,I64 l,I64 f] (I64 (spdV m c l f)):=
 scall_v mix [fDomR,fOkCR,fMaOkR,fLst,fSz 99] ⟨o_domR,o_okCR,o_maOkR,o_lst,o_szLR,trivial⟩ 1000 (.fork (.ln 3 (.lit .all)) (.ln 3 (.fork .all (.go (.lit (.fork (.go (.lit (.fork (.go (.lit (.fork (.go (.lit (.fork (.go (.lit (.fork (.lit (.lit (.fork (.fork .all .all) .all))) (.lit (.lit (.lit .all)))))) (.go (.lit (.fork (.lit (.lit (.fork (.fork .all .all) .all))) (.lit (.lit (.lit .all))))))))) (.go (.lit (.fork (.go (.lit (.fork (.lit (.lit (.fork (.fork .all .all) .all))) (.lit (.lit (.lit .all)))))) (.go (.lit (.fork (.lit (.lit (.fork (.fork .all .all) .all))) (.lit (.lit (.lit .all)))))))))))) (.go (.lit (.fork (.go (.lit (.fork (.go (.lit (.fork (.lit (.lit (.fork (.fork .all .all) .all))) (.lit (.lit (.lit .all)))))) (.go (.lit (.fork (.lit (.lit (.fork (.fork .all .all) .all))) (.lit (.lit (.lit .all))))))))) (.go (.lit (.fork (.go (.lit (.fork (.lit (.lit (.fork (.fork .all .all) .all))) (.lit (.lit (.lit .all)))))) (.go (.lit (.fork (.lit (.lit (.fork (.fork .all .all) .all))) (.lit (.lit (.lit .all))))))))))))))) (.go (.lit (.fork (.go (.lit (.fork (.go (.lit (.fork (.go (.lit (.fork (.lit (.lit (.fork (.fork .all .all) .all))) (.lit (.lit (.lit .all)))))) (.go (.lit (.fork (.lit (.lit (.fork (.fork .all .all) .all))) (.lit (.lit (.lit .all))))))))) (.go (.lit (.fork (.go (.lit (.fork (.lit (.lit (.fork (.fork .all .all) .all))) (.lit (.lit (.lit .all)))))) (.go (.lit (.fork (.lit (.lit (.fork (.fork .all .all) .all))) (.lit (.lit (.lit .all)))))))))))) (.go (.lit (.fork (.go (.lit (.fork (.go (.lit (.fork (.lit (.lit (.fork (.fork .all .all) .all))) (.lit (.lit (.lit .all)))))) (.go (.lit (.fork (.lit (.lit (.fork (.fork .all .all) .all))) (.lit (.lit (.lit .all))))))))) (.go (.lit (.fork (.go (.lit (.fork (.lit (.lit (.fork (.fork .all .all) .all))) (.lit (.lit (.lit .all)))))) (.go (.lit (.fork (.lit (.lit (.fork (.fork .all .all) .all))) (.lit (.lit (.lit .all)))))))))))))))))))))
  (t:=.node (!m.ok) (.leaf (I64 0)) (.node (!okC c) (.leaf (I64 0)) (fourT m c Ax.speed 1048576 fun v=>.node (decide (l>0)) (.node (decide (f>0)) (.req (okB v f (dom c) l) (.node (decide (lst v f (dom c) l<1)) (.leaf (I64 1)) (.leaf (I64 (lst v f (dom c) l))))) (.leaf (I64 v))) (.leaf (I64 v)))))
  (by kernel_rfl) (by
   rw[Bool.and_eq_true]at h
   have h1:=inR_iff.1 h.1
   have h2:=inR_iff.1 h.2
   cases hl:okL m c with
   |false=>
    have:=mt okL_iff.2 (by rw[hl];exact Bool.false_ne_true)
    simp only[Tree.holds,spdV_no hl,sL,ne_eq,beq_iff_eq,bne_iff_ne,eq_self,beq_eq_false_iff_ne,bne_eq_false_iff_eq,implies_true]
    (repeat' (first|apply And.intro|intro _))<;>first|rfl|(exfalso;simp_all)
   |true=>
    obtain⟨hm,hc⟩:=okL_iff.1 hl
    simp only[Tree.holds,spdV_yes hl,hm,hc,sL,ne_eq,beq_iff_eq,bne_iff_ne,eq_self,beq_eq_false_iff_ne,bne_eq_false_iff_eq,implies_true]
    have F:=four (M:=1048576) (m:=m) (c:=c) (s:=Ax.speed) (by omega) hc ax_sp hm
    have fv:=fourV_rng F (v:=1048576) (by omega)
    refine fourT_holds (M:=1048576) F hc (by omega) ?_
    unfold spdK
    generalize fourV m c Ax.speed 1048576=v at fv ⊢
    have dn:=dom16 hc
    have ob:=fun(a:0<l) (b:0<f)=>spd_okB (v:=v) (n:=dom c) (l:=l) (f:=f) (by omega) dn (by omega) (by omega)
    simp only[Tree.holds,sL,ne_eq,beq_iff_eq,bne_iff_ne,eq_self,beq_eq_false_iff_ne,bne_eq_false_iff_eq,implies_true]
    refine⟨fun a=>⟨fun b=>⟨ob a b,?_⟩,fun b=>?_⟩,fun a=>?_⟩
    ·have ln:=lst_nn (ob a b)
     rw[if_pos (show 0<l∧0<f from⟨a,b⟩)]
     exact⟨fun d=>by rw[if_pos d],fun d=>by rw[if_neg d]⟩
    ·rw[if_neg (show ¬(0<l∧0<f) by omega)]
    ·rw[if_neg (show ¬(0<l∧0<f) by omega)]) (by kernel_rfl) (by kernel_rfl)
theorem s_jun(m:Ma)(a b:V4):SCall Tryz.prog 261 [m.sv,V4.sv a,V4.sv b] (I64 (junV m a b)):=
 scall_v mix [fDom,fOkC,fMaOk,fBnd,fSz 290] ⟨o_dom,o_okC,o_maOk,o_bnd,o_szL,trivial⟩ 1000 (.go (.lit (.fork (.lit (.all)) (.go (.lit (.fork (.lit (.all)) (.go (.lit (.fork (.all) (.go (.lit (.fork (.go (.lit (.fork (.go (.lit (.fork (.go (.lit (.fork (.go (.lit (.all))) (.go (.lit (.all)))))) (.go (.lit (.fork (.go (.lit (.all))) (.go (.lit (.all))))))))) (.go (.lit (.fork (.go (.lit (.fork (.go (.lit (.all))) (.go (.lit (.all)))))) (.go (.lit (.fork (.go (.lit (.all))) (.go (.lit (.all)))))))))))) (.go (.lit (.fork (.go (.lit (.fork (.go (.lit (.fork (.go (.lit (.all))) (.go (.lit (.all)))))) (.go (.lit (.fork (.go (.lit (.all))) (.go (.lit (.all))))))))) (.go (.lit (.fork (.go (.lit (.fork (.go (.lit (.all))) (.go (.lit (.all)))))) (.go (.lit (.fork (.go (.lit (.all))) (.go (.lit (.all))))))))))))))))))))))))
  (t:=.req true (.node (!okC a) (.leaf (I64 0)) (.req true (.node (!okC b) (.leaf (I64 0)) (.node (!m.ok) (.leaf (I64 0)) (jT (fun n=>decide (n>0)) (i64.wrap (i64.wrap (a.1*dom b)-i64.wrap (b.1*dom a))) (i64.wrap (m.x.jerk*dom a)) (dom b) 1048576 (fun v=>jT (fun n=>decide (n>0)) (i64.wrap (i64.wrap (a.2.1*dom b)-i64.wrap (b.2.1*dom a))) (i64.wrap (m.y.jerk*dom a)) (dom b) v (fun v=>jT (fun n=>decide (n>0)) (i64.wrap (i64.wrap (a.2.2.1*dom b)-i64.wrap (b.2.2.1*dom a))) (i64.wrap (m.z.jerk*dom a)) (dom b) v (fun v=>jT (fun n=>decide (n>0)) (i64.wrap (i64.wrap (a.2.2.2*dom b)-i64.wrap (b.2.2.2*dom a))) (i64.wrap (m.e.jerk*dom a)) (dom b) v (fun v=>.leaf (I64 v)))))))))))
  (by kernel_rfl) (by
   cases hl:okL m a&&okC b with
   |false=>
    have hn:¬((m.ok=true∧okC a=true)∧okC b=true):=fun k=>by
     have:(okL m a&&okC b)=true:=by rw[Bool.and_eq_true];exact⟨okL_iff.2 k.1,k.2⟩
     rw[hl]at this;cases this
    simp only[Tree.holds,junV_no hl,sL,ne_eq,beq_iff_eq,bne_iff_ne,eq_self,beq_eq_false_iff_ne,bne_eq_false_iff_eq,implies_true]
    (repeat' (first|apply And.intro|intro _))<;>first|rfl|(exfalso;simp_all)
   |true=>
    have h2:=hl
    rw[Bool.and_eq_true]at h2
    obtain⟨hm,ha⟩:=okL_iff.1 h2.1
    have hb:=h2.2
    have mo:=(Ma.ok_iff m).1 hm
    have ra:=(okC_iff.1 ha).1
    have rb:=(okC_iff.1 hb).1
    have da:=dom16 ha
    have db:=dom16 hb
    have j1:=ax_je _ mo.1
    have j2:=ax_je _ mo.2.1
    have j3:=ax_je _ mo.2.2.1
    have j4:=ax_je _ mo.2.2.2.1
    obtain⟨w1,i1,z1⟩:=jd_wrap (a:=a) (b:=b) (x:=a.1) (y:=b.1) (by omega) (by omega)
    obtain⟨w2,i2,z2⟩:=jd_wrap (a:=a) (b:=b) (x:=a.2.1) (y:=b.2.1) (by omega) (by omega)
    obtain⟨w3,i3,z3⟩:=jd_wrap (a:=a) (b:=b) (x:=a.2.2.1) (y:=b.2.2.1) (by omega) (by omega)
    obtain⟨w4,i4,z4'⟩:=jd_wrap (a:=a) (b:=b) (x:=a.2.2.2) (y:=b.2.2.2) (by omega) (by omega)
    have m1:=jer_rng j1 da
    have m2:=jer_rng j2 da
    have m3:=jer_rng j3 da
    have m4:=jer_rng j4 da
    have mm:=dom_mul da db
    have ob:∀{v A B x:Int},0≤v∧v≤1048576→0≤A∧A≤17592186044416→0≤B∧B≤281474976710656→sz x≤562949953421312→¬sz x=0→okB v A B (sz x)=true:=fun {v A B x} hv hA hB hx h0=>okB_iff.2 ⟨okMD_iff.2 (by have:=sz_nonneg x;omega),by omega⟩
    rw[w1,w2,w3,w4]
    simp only[Tree.holds,junV_yes hl,hm,ha,hb,sL,ne_eq,beq_iff_eq,bne_iff_ne,eq_self,beq_eq_false_iff_ne,bne_eq_false_iff_eq,implies_true]
    rw[w64 (x:=m.x.jerk*dom a) (by omega) (by omega),w64 (x:=m.y.jerk*dom a) (by omega) (by omega),w64 (x:=m.z.jerk*dom a) (by omega) (by omega),w64 (x:=m.e.jerk*dom a) (by omega) (by omega)]
    have v0:(0:Int)≤1048576∧(1048576:Int)≤1048576:=by omega
    have b1:=ob (x:=jd a b a.1 b.1) v0 (A:=m.x.jerk*dom a) (B:=dom b) m1 (by omega) z1
    have v1:=jS_rng v0 b1
    have b2:=ob (x:=jd a b a.2.1 b.2.1) v1 (A:=m.y.jerk*dom a) (B:=dom b) m2 (by omega) z2
    have v2:=jS_rng v1 b2
    have b3:=ob (x:=jd a b a.2.2.1 b.2.2.1) v2 (A:=m.z.jerk*dom a) (B:=dom b) m3 (by omega) z3
    have v3:=jS_rng v2 b3
    have b4:=ob (x:=jd a b a.2.2.2 b.2.2.2) v3 (A:=m.e.jerk*dom a) (B:=dom b) m4 (by omega) z4'
    exact jT_holds (fun n hn=>⟨fun k=>by have:=of_decide_eq_true k;omega,fun k=>decide_eq_true (by omega)⟩) i1 b1 (jT_holds (fun n hn=>⟨fun k=>by have:=of_decide_eq_true k;omega,fun k=>decide_eq_true (by omega)⟩) i2 b2 (jT_holds (fun n hn=>⟨fun k=>by have:=of_decide_eq_true k;omega,fun k=>decide_eq_true (by omega)⟩) i3 b3 (jT_holds (fun n hn=>⟨fun k=>by have:=of_decide_eq_true k;omega,fun k=>decide_eq_true (by omega)⟩) i4 b4 rfl)))) (by kernel_rfl) (by kernel_rfl)
theorem s_junR(m:Ma)(a b:V4):SCall Tryz.prog 37 [m.sv,V4.sv a,V4.sv b] (I64 (junV m a b)):=
 scall_v mix [fDomR,fOkCR,fMaOkR,fLst,fSz 99] ⟨o_domR,o_okCR,o_maOkR,o_lst,o_szLR,trivial⟩ 1000 (.fork (.ln 7 (.lit .all)) (.ln 3 (.fork (.ln 3 (.lit .all)) (.ln 3 (.fork .all (.go (.lit (.fork (.go (.lit (.fork (.go (.lit (.fork (.go (.lit (.fork (.go (.lit .all)) (.go (.lit .all))))) (.go (.lit (.fork (.go (.lit .all)) (.go (.lit .all)))))))) (.go (.lit (.fork (.go (.lit (.fork (.go (.lit .all)) (.go (.lit .all))))) (.go (.lit (.fork (.go (.lit .all)) (.go (.lit .all))))))))))) (.go (.lit (.fork (.go (.lit (.fork (.go (.lit (.fork (.go (.lit .all)) (.go (.lit .all))))) (.go (.lit (.fork (.go (.lit .all)) (.go (.lit .all)))))))) (.go (.lit (.fork (.go (.lit (.fork (.go (.lit .all)) (.go (.lit .all))))) (.go (.lit (.fork (.go (.lit .all)) (.go (.lit .all)))))))))))))))))))
  (t:=.node (!m.ok) (.leaf (I64 0)) (.node (!okC a) (.leaf (I64 0)) (.node (!okC b) (.leaf (I64 0)) (jT (fun n=>n != 0) (i64.wrap (i64.wrap (a.1*dom b)-i64.wrap (b.1*dom a))) m.x.jerk (i64.wrap (dom a*dom b)) 1048576 (fun v=>jT (fun n=>n != 0) (i64.wrap (i64.wrap (a.2.1*dom b)-i64.wrap (b.2.1*dom a))) m.y.jerk (i64.wrap (dom a*dom b)) v (fun v=>jT (fun n=>n != 0) (i64.wrap (i64.wrap (a.2.2.1*dom b)-i64.wrap (b.2.2.1*dom a))) m.z.jerk (i64.wrap (dom a*dom b)) v (fun v=>jT (fun n=>n != 0) (i64.wrap (i64.wrap (a.2.2.2*dom b)-i64.wrap (b.2.2.2*dom a))) m.e.jerk (i64.wrap (dom a*dom b)) v (fun v=>.leaf (I64 v)))))))))
  (by kernel_rfl) (by
   cases hl:okL m a&&okC b with
   |false=>
    have hn:¬((m.ok=true∧okC a=true)∧okC b=true):=fun k=>by
     have:(okL m a&&okC b)=true:=by rw[Bool.and_eq_true];exact⟨okL_iff.2 k.1,k.2⟩
     rw[hl]at this;cases this
    simp only[Tree.holds,junV_no hl,sL,ne_eq,beq_iff_eq,bne_iff_ne,eq_self,beq_eq_false_iff_ne,bne_eq_false_iff_eq,implies_true]
    (repeat' (first|apply And.intro|intro _))<;>first|rfl|(exfalso;simp_all)
   |true=>
    have h2:=hl
    rw[Bool.and_eq_true]at h2
    obtain⟨hm,ha⟩:=okL_iff.1 h2.1
    have hb:=h2.2
    have mo:=(Ma.ok_iff m).1 hm
    have ra:=(okC_iff.1 ha).1
    have rb:=(okC_iff.1 hb).1
    have da:=dom16 ha
    have db:=dom16 hb
    have j1:=ax_je _ mo.1
    have j2:=ax_je _ mo.2.1
    have j3:=ax_je _ mo.2.2.1
    have j4:=ax_je _ mo.2.2.2.1
    obtain⟨w1,i1,z1⟩:=jd_wrap (a:=a) (b:=b) (x:=a.1) (y:=b.1) (by omega) (by omega)
    obtain⟨w2,i2,z2⟩:=jd_wrap (a:=a) (b:=b) (x:=a.2.1) (y:=b.2.1) (by omega) (by omega)
    obtain⟨w3,i3,z3⟩:=jd_wrap (a:=a) (b:=b) (x:=a.2.2.1) (y:=b.2.2.1) (by omega) (by omega)
    obtain⟨w4,i4,z4'⟩:=jd_wrap (a:=a) (b:=b) (x:=a.2.2.2) (y:=b.2.2.2) (by omega) (by omega)
    have m1:=jer_rng j1 da
    have m2:=jer_rng j2 da
    have m3:=jer_rng j3 da
    have m4:=jer_rng j4 da
    have mm:=dom_mul da db
    have ob:∀{v A B x:Int},0≤v∧v≤1048576→0≤A∧A≤17592186044416→0≤B∧B≤281474976710656→sz x≤562949953421312→¬sz x=0→okB v A B (sz x)=true:=fun {v A B x} hv hA hB hx h0=>okB_iff.2 ⟨okMD_iff.2 (by have:=sz_nonneg x;omega),by omega⟩
    rw[w1,w2,w3,w4]
    simp only[Tree.holds,junV_yes hl,hm,ha,hb,sL,ne_eq,beq_iff_eq,bne_iff_ne,eq_self,beq_eq_false_iff_ne,bne_eq_false_iff_eq,implies_true]
    rw[w64 (x:=dom a*dom b) (by omega) (by omega)]
    simp only[←jS_assoc]
    have v0:(0:Int)≤1048576∧(1048576:Int)≤1048576:=by omega
    have b1:=ob (x:=jd a b a.1 b.1) v0 (A:=m.x.jerk) (B:=dom a*dom b) (by omega) mm z1
    have v1:=jS_rng v0 b1
    have b2:=ob (x:=jd a b a.2.1 b.2.1) v1 (A:=m.y.jerk) (B:=dom a*dom b) (by omega) mm z2
    have v2:=jS_rng v1 b2
    have b3:=ob (x:=jd a b a.2.2.1 b.2.2.1) v2 (A:=m.z.jerk) (B:=dom a*dom b) (by omega) mm z3
    have v3:=jS_rng v2 b3
    have b4:=ob (x:=jd a b a.2.2.2 b.2.2.2) v3 (A:=m.e.jerk) (B:=dom a*dom b) (by omega) mm z4'
    exact jT_holds (fun n hn=>by simp) i1 b1 (jT_holds (fun n hn=>by simp) i2 b2 (jT_holds (fun n hn=>by simp) i3 b3 (jT_holds (fun n hn=>by simp) i4 b4 rfl)))) (by kernel_rfl) (by kernel_rfl)
def factMV4II(f:FuncId)(h:Ma→V4→Int→Int→Tree SV):Fact:=⟨f,fun args=>match args with
 |[.agg [.int .i64 a0,.int .i64 a1,.int .i64 a2,.int .i64 a3,.int .i64 a4,.int .i64 a5,.int .i64 a6,.int .i64 b0,.int .i64 b1,.int .i64 b2,.int .i64 b3,.int .i64 b4,.int .i64 b5,.int .i64 b6,.int .i64 c0,.int .i64 c1,.int .i64 c2,.int .i64 c3,.int .i64 c4,.int .i64 c5,.int .i64 c6,.int .i64 d0,.int .i64 d1,.int .i64 d2,.int .i64 d3,.int .i64 d4,.int .i64 d5,.int .i64 d6,.bool xy,.int .i64 t],.agg [.int .i64 x,.int .i64 y,.int .i64 z,.int .i64 w],.int .i64 i,.int .i64 j] =>some (h ⟨⟨a0,a1,a2,a3,a4,a5,a6⟩,⟨b0,b1,b2,b3,b4,b5,b6⟩,⟨c0,c1,c2,c3,c4,c5,c6⟩,⟨d0,d1,d2,d3,d4,d5,d6⟩,xy,t⟩ (x,y,z,w) i j)
 |_=>none⟩
theorem factMV4II_ok{P:Program}{f:FuncId}{h:Ma→V4→Int→Int→Tree SV}(k:∀m v i j,(h m v i j).says (SCall P f [m.sv,V4.sv v,I64 i,I64 j])):(factMV4II f h).ok P:=fun args t ht=>by
 simp only[factMV4II]at ht
 split at ht
 ·injection ht with ht;subst ht;exact k ⟨⟨_,_,_,_,_,_,_⟩,⟨_,_,_,_,_,_,_⟩,⟨_,_,_,_,_,_,_⟩,⟨_,_,_,_,_,_,_⟩,_,_⟩ (_,_,_,_) _ _
 ·cases ht
def factMV44(f:FuncId)(h:Ma→V4→V4→Tree SV):Fact:=⟨f,fun args=>match args with
 |[.agg [.int .i64 a0,.int .i64 a1,.int .i64 a2,.int .i64 a3,.int .i64 a4,.int .i64 a5,.int .i64 a6,.int .i64 b0,.int .i64 b1,.int .i64 b2,.int .i64 b3,.int .i64 b4,.int .i64 b5,.int .i64 b6,.int .i64 c0,.int .i64 c1,.int .i64 c2,.int .i64 c3,.int .i64 c4,.int .i64 c5,.int .i64 c6,.int .i64 d0,.int .i64 d1,.int .i64 d2,.int .i64 d3,.int .i64 d4,.int .i64 d5,.int .i64 d6,.bool xy,.int .i64 t],.agg [.int .i64 x,.int .i64 y,.int .i64 z,.int .i64 w],.agg [.int .i64 x2,.int .i64 y2,.int .i64 z2,.int .i64 w2]] =>some (h ⟨⟨a0,a1,a2,a3,a4,a5,a6⟩,⟨b0,b1,b2,b3,b4,b5,b6⟩,⟨c0,c1,c2,c3,c4,c5,c6⟩,⟨d0,d1,d2,d3,d4,d5,d6⟩,xy,t⟩ (x,y,z,w) (x2,y2,z2,w2))
 |_=>none⟩
theorem factMV44_ok{P:Program}{f:FuncId}{h:Ma→V4→V4→Tree SV}(k:∀m v u,(h m v u).says (SCall P f [m.sv,V4.sv v,V4.sv u])):(factMV44 f h).ok P:=fun args t ht=>by
 simp only[factMV44]at ht
 split at ht
 ·injection ht with ht;subst ht;exact k ⟨⟨_,_,_,_,_,_,_⟩,⟨_,_,_,_,_,_,_⟩,⟨_,_,_,_,_,_,_⟩,⟨_,_,_,_,_,_,_⟩,_,_⟩ (_,_,_,_) (_,_,_,_)
 ·cases ht
def fSpd:Fact:=factMV4II 259 fun m c l f=>.req (ok63 l&&ok63 f) (.leaf (I64 (spdV m c l f)))
def fSpdR:Fact:=factMV4II 35 fun m c l f=>.req (ok63 l&&ok63 f) (.leaf (I64 (spdV m c l f)))
theorem o_spd:fSpd.ok Tryz.prog:=factMV4II_ok (fun m c l f h=>s_spd m c l f h)
theorem o_spdR:fSpdR.ok Tryz.prog:=factMV4II_ok (fun m c l f h=>s_spdR m c l f h)
def fJun:Fact:=factMV44 261 fun m a b=>.leaf (I64 (junV m a b))
def fJunR:Fact:=factMV44 37 fun m a b=>.leaf (I64 (junV m a b))
theorem o_jun:fJun.ok Tryz.prog:=factMV44_ok (s_jun)
theorem o_junR:fJunR.ok Tryz.prog:=factMV44_ok (s_junR)
section
variable {m:Ma} {c:V4}
theorem accV_rng(h:okL m c=true):1≤accV m c∧accV m c≤16777216:=by
 obtain⟨hm,hc⟩:=okL_iff.1 h
 rw[accV_yes h]
 exact fourV_rng (four (M:=16777216) (by omega) hc ax_ac hm) (v:=16777216) (by omega)
theorem spd_top(h:okL m c=true):1≤fourV m c Ax.speed 1048576∧fourV m c Ax.speed 1048576≤1048576:=by
 obtain⟨hm,hc⟩:=okL_iff.1 h
 exact fourV_rng (four (M:=1048576) (by omega) hc ax_sp hm) (v:=1048576) (by omega)
theorem spdV_zero(h:okL m c=true):spdV m c 0 0=fourV m c Ax.speed 1048576:=by
 rw[spdV_yes h];unfold spdK;rw[if_neg (by omega)]
theorem spdV_rng(h:okL m c=true){l f:Int}(hl:l≤9223372036854775807)(hf:f≤9223372036854775807):1≤spdV m c l f∧spdV m c l f≤spdV m c 0 0∧spdV m c 0 0≤1048576:=by
 have t:=spd_top h
 have hc:=(okL_iff.1 h).2
 rw[spdV_zero h]
 refine⟨?_,?_,t.2⟩
 all_goals
  rw[spdV_yes h];unfold spdK
  split
  ·rename_i k
   have b:=spd_okB (v:=fourV m c Ax.speed 1048576) (n:=dom c) (l:=l) (f:=f) (by omega) (dom16 hc) (by omega) (by omega)
   have n:=lst_nn b
   split<;>omega
  ·omega
theorem junV_rng(m:Ma)(a b:V4):0≤junV m a b∧junV m a b≤1048576:=by
 cases hl:okL m a&&okC b with
 |false=>rw[junV_no hl];omega
 |true=>
  have h2:=hl
  rw[Bool.and_eq_true]at h2
  obtain⟨hm,ha⟩:=okL_iff.1 h2.1
  have hb:=h2.2
  have mo:=(Ma.ok_iff m).1 hm
  have ra:=(okC_iff.1 ha).1
  have rb:=(okC_iff.1 hb).1
  have da:=dom16 ha
  have db:=dom16 hb
  have j1:=ax_je _ mo.1
  have j2:=ax_je _ mo.2.1
  have j3:=ax_je _ mo.2.2.1
  have j4:=ax_je _ mo.2.2.2.1
  obtain⟨w1,i1,z1⟩:=jd_wrap (a:=a) (b:=b) (x:=a.1) (y:=b.1) (by omega) (by omega)
  obtain⟨w2,i2,z2⟩:=jd_wrap (a:=a) (b:=b) (x:=a.2.1) (y:=b.2.1) (by omega) (by omega)
  obtain⟨w3,i3,z3⟩:=jd_wrap (a:=a) (b:=b) (x:=a.2.2.1) (y:=b.2.2.1) (by omega) (by omega)
  obtain⟨w4,i4,z4'⟩:=jd_wrap (a:=a) (b:=b) (x:=a.2.2.2) (y:=b.2.2.2) (by omega) (by omega)
  have m1:=jer_rng j1 da
  have m2:=jer_rng j2 da
  have m3:=jer_rng j3 da
  have m4:=jer_rng j4 da
  have ob:∀{v A B x:Int},0≤v∧v≤1048576→0≤A∧A≤17592186044416→0≤B∧B≤281474976710656→sz x≤562949953421312→1≤B→¬sz x=0→okB v A B (sz x)=true:=fun {v A B x} hv hA hB hx _ h0=>okB_iff.2 ⟨okMD_iff.2 (by have:=sz_nonneg x;omega),by omega⟩
  rw[junV_yes hl]
  have v0:(0:Int)≤1048576∧(1048576:Int)≤1048576:=by omega
  have v1:=jS_rng v0 (ob (A:=m.x.jerk*dom a) (B:=dom b) (x:=jd a b a.1 b.1) v0 m1 (by omega) z1 db.1)
  have v2:=jS_rng v1 (ob (A:=m.y.jerk*dom a) (B:=dom b) (x:=jd a b a.2.1 b.2.1) v1 m2 (by omega) z2 db.1)
  have v3:=jS_rng v2 (ob (A:=m.z.jerk*dom a) (B:=dom b) (x:=jd a b a.2.2.1 b.2.2.1) v2 m3 (by omega) z3 db.1)
  exact jS_rng v3 (ob (A:=m.e.jerk*dom a) (B:=dom b) (x:=jd a b a.2.2.2 b.2.2.2) v3 m4 (by omega) z4' db.1)
theorem sq_rng{v M:Int}(hv:0≤v∧v≤M):0≤v*v∧v*v≤M*M:=⟨Int.mul_nonneg hv.1 hv.1,Int.mul_le_mul hv.2 hv.2 hv.1 (by omega)⟩
theorem sq_pos{v M:Int}(hv:1≤v∧v≤M):1≤v*v∧v*v≤M*M:=by
 have h1:1*1≤v*v:=Int.mul_le_mul hv.1 hv.1 (by omega) (by omega)
 exact⟨by omega,(sq_rng (v:=v) (M:=M) (by omega)).2⟩
end
def firstL:List Int→Int→Int
 |[],d=>d
 |n::l,d=>if 0<n then n else firstL l d
def headZ:List Int→Bool
 |[] =>false
 |n::_=>n==0
def openV(f:Fw):Int:=if f.moving=true∧0<f.active then f.active else firstL f.lines (f.line+1)
def returnsB(f:Fw):Bool:=match f.moving with
 |true=>f.active==0
 |false=>headZ f.lines
theorem returnsB_on{f:Fw}(h:f.moving=true):returnsB f=(f.active==0):=by unfold returnsB;rw[h]
theorem returnsB_off{f:Fw}(h:f.moving=false):returnsB f=headZ f.lines:=by unfold returnsB;rw[h]
def shapeB(f:Fw):Bool:=big4 f.pos&& (decide (f.lines.length=f.queue.length)&& (decide (f.queue.length≤32)&& (inR f.line 0 1099511627776&& (inR f.active 0 1099511627776&&f.lines.all fun n=>inR n 0 1099511627776))))
theorem shapeB_iff{f:Fw}:shapeB f=true↔big4 f.pos=true∧f.lines.length=f.queue.length∧f.queue.length≤32∧(0≤f.line∧f.line≤1099511627776)∧(0≤f.active∧f.active≤1099511627776)∧∀n∈f.lines,0≤n∧n≤1099511627776:=by
 simp only[shapeB,Bool.and_eq_true,decide_eq_true_eq,inR_iff,List.all_eq_true]
theorem firstL_rng:∀ (l:List Int) (d:Int),(∀n∈l,0≤n∧n≤1099511627776)→0≤d∧d≤1099511627777→0≤firstL l d∧firstL l d≤1099511627777
 |[],d,_,h=>h
 |n::l,d,k,h=>by
  unfold firstL
  have:=k n List.mem_cons_self
  split
  ·omega
  ·exact firstL_rng l d (fun x hx=>k x (List.mem_cons_of_mem _ hx)) h
theorem openV_rng{f:Fw}(h:shapeB f=true):0≤openV f∧openV f≤1099511627777:=by
 obtain⟨_,_,_,h1,h2,h3⟩:=shapeB_iff.1 h
 unfold openV
 split
 ·omega
 ·exact firstL_rng _ _ h3 (by omega)
def loseRet(f:Fw):V4:=if f.moving=true∧0<f.active then begin4 f else if f.homed=true∧returnsB f=false then f.pos else f.ret
def loseF(f:Fw):Fw:={f with ret:=loseRet f,line:=openV f-1,back:=f.back||f.homed,homed:=false,moving:=false,queue:=[],lines:=[],mo:=m0,active:=0,dwell:=0,waits:=0}
def startMo(b:Bk)(t:Int):Mo:=match okS b t with
 |true=>startM b t
 |false=>m0
theorem startMo_yes{b:Bk}{t:Int}(h:okS b t=true):startMo b t=startM b t:=by unfold startMo;rw[h]
theorem startMo_no{b:Bk}{t:Int}(h:okS b t=false):startMo b t=m0:=by unfold startMo;rw[h]
def canStart(f:Fw):Bool:=!f.moving&& (!f.queue.isEmpty&& (!(f.mode==3)&&f.dwell==0))
theorem canStart_iff{f:Fw}:canStart f=true↔f.moving=false∧¬f.queue.length=0∧¬f.mode=3∧f.dwell=0:=by
 simp only[canStart,Bool.and_eq_true,Bool.not_eq_true',beq_iff_eq,beq_eq_false_iff_ne,ne_eq,List.isEmpty_eq_false_iff,List.length_eq_zero_iff]
def startF(f:Fw):Fw:={f with mo:=startMo (f.queue.getD 0 dBk) f.ma.ticks,moving:=true,active:=f.lines.getD 0 0,queue:=f.queue.drop 1,lines:=f.lines.drop 1}
def begF(f:Fw):Fw:=match canStart f with
 |true=>startF f
 |false=>f
theorem begF_yes{f:Fw}(h:canStart f=true):begF f=startF f:=by unfold begF;rw[h]
theorem begF_no{f:Fw}(h:canStart f=false):begF f=f:=by unfold begF;rw[h]
def resG(g:Gu)(r:Int):Gu:=if g.fault=0 then g else g.rest r
def resOk(g:Gu)(r:Int):Bool:=g.fault==0||g.resE r==0
theorem resOk_iff{g:Gu}{r:Int}:resOk g r=true↔g.fault=0∨g.resE r=0:=by simp only[resOk,Bool.or_eq_true,beq_iff_eq]
def touchF(f:Fw):Fw:={f with g0:=f.g0.touch,g1:=f.g1.touch}
def stopG(f:Fw):Fw:={f with g0:=f.g0.stop,g1:=f.g1.stop}
def stopF(f:Fw):Fw:={loseF (stopG f)with mode:=3}
def newB(m:Ma)(c:V4)(len feed:Int):Bk:=(c,accV m c,0,spdV m c len feed*spdV m c len feed,0)
def capJ(m:Ma)(q:List Bk)(i:Nat):Int:=if i=0 then 0 else junV m (q.getD (i-1) dBk).1 (q.getD i dBk).1*junV m (q.getD (i-1) dBk).1 (q.getD i dBk).1
def capsV(m:Ma)(q:List Bk):List Int:=(List.range q.length).map (capJ m q)
def entryV(f:Fw):Int:=if f.moving=true then f.mo.1.2.2.2.2 else if f.queue.length=0 then 0 else(f.queue.getD 0 dBk).2.2.1
def addQ(f:Fw)(c:V4)(len:Int):List Bk:=f.queue++[newB f.ma c len f.feed]
def addOk(f:Fw)(c:V4)(len:Int):Bool:=decide (entryV f≤crL (addQ f c len) 0)&&decide (gL (addQ f c len) (capsV f.ma (addQ f c len)) (entryV f) 0=entryV f)
theorem addOk_iff{f:Fw}{c:V4}{len:Int}:addOk f c len=true↔entryV f≤crL (addQ f c len) 0∧gL (addQ f c len) (capsV f.ma (addQ f c len)) (entryV f) 0=entryV f:=by simp only[addOk,Bool.and_eq_true,decide_eq_true_eq]
def addF(f:Fw)(c:V4)(len line:Int):Fw:={f with queue:=plB (addQ f c len) (gL (addQ f c len) (capsV f.ma (addQ f c len)) (entryV f)),lines:=f.lines++[line]}
theorem nilC_ok(f:Fw)(h:f.queue=[])(k:f.lines=[]):NilLs (nilC f) f.cells:=by
 obtain⟨⟩:=f
 dsimp only at h k
 subst h k
 repeat(first|exact trivial|refine⟨.same _,?_⟩|refine⟨.nil _,?_⟩)
def hasW(h k:Int):Bool:=!(i64.wrap ((BitVec.ofInt 64 h &&&BitVec.ofInt 64 k).toNat:Int)==0)
theorem hasW_iff{h k:Int}:hasW h k=true↔¬i64.wrap ((BitVec.ofInt 64 h &&&BitVec.ofInt 64 k).toNat:Int)=0:=by simp only[hasW,Bool.not_eq_true',beq_eq_false_iff_ne,ne_eq]
def tgtV(f:Fw)(c:Gc.C):V3:=(if hasW c.has 1=true then c.x else f.loc.1,if hasW c.has 2=true then c.y else f.loc.2.1,if hasW c.has 4=true then c.z else f.loc.2.2)
def tgtE(f:Fw)(c:Gc.C):Int:=if hasW c.has 8=true then c.e else f.e
def sqs(a b:V3):Int:=(b.1-a.1)*(b.1-a.1)+(b.2.1-a.2.1)*(b.2.1-a.2.1)+(b.2.2-a.2.2)*(b.2.2-a.2.2)
def lenM(f:Fw)(p:V3)(e:Int):Int:=if isq (sqs f.loc p)=0 then(if e-f.e<f.e-e then f.e-e else e-f.e)else isq (sqs f.loc p)
def feedF(f:Fw)(c:Gc.C):Fw:=if hasW c.has 16=true then {f with feed:=c.f} else f
def moveP(f:Fw)(c:Gc.C):V4:=motV f.ma (tgtV f c) (tgtE f c)
def moveD(f:Fw)(c:Gc.C):V4:=sub4 (moveP f c) (goal4 f)
def tlE(g:Fw)(u:V3)(e:Int)(p d:V4):Int:=match near4 p&&near4 d with
 |false=>2
 |true=>match nz4 d with
  |false=>0
  |true=>if 32≤g.queue.length then 18 else if addOk g d (lenM g u e)=true then 0 else 2
def tlF(g:Fw)(line:Int)(u:V3)(e:Int)(d:V4):Fw:=match nz4 d with
 |false=>{g with loc:=u,e:=e}
 |true=>{addF g d (lenM g u e) line with loc:=u,e:=e}
def tlO(g:Fw)(line:Int)(u:V3)(e:Int)(p d:V4):Fw:=if tlE g u e p d=0 then tlF g line u e d else g
def moveE(f:Fw)(line:Int)(c:Gc.C):Int:=
 if line<1∨f.homed=false∨f.back=true∨¬f.mode=1 then 14
 else if insB f.ma (tgtV f c)=false∨motOk f.ma (tgtV f c) (tgtE f c)=false then 8
 else if f.e<tgtE f c∧f.r0<f.cold then 15
 else 0
def moveA(f:Fw)(line:Int)(c:Gc.C):Int:=if moveE f line c=0 then tlE (feedF f c) (tgtV f c) (tgtE f c) (moveP f c) (moveD f c)else moveE f line c
def moveF(f:Fw)(line:Int)(c:Gc.C):Fw:=tlF (feedF f c) line (tgtV f c) (tgtE f c) (moveD f c)
def moveO(f:Fw)(line:Int)(c:Gc.C):Fw:=if moveE f line c=0 then tlO (feedF f c) line (tgtV f c) (tgtE f c) (moveP f c) (moveD f c)else if moveE f line c=14 then f else feedF f c
def homeE(f:Fw):Int:=if unOk f.ma f.pos.2.2.2=true then unitsN f.ma.e f.pos.2.2.2 else 0
def homeB(f:Fw)(line:Int):Bool:=(line==0&&f.homed)||f.back
def homeR(f:Fw)(line:Int):V4:=if line=0∧f.homed=true then f.pos else f.ret
def home0(f:Fw)(line:Int):Fw:={f with ret:=homeR f line,back:=false,pos:=(0,0,0,f.pos.2.2.2),homed:=true,loc:=(0,0,0),e:=homeE f}
def homeC(f:Fw)(line:Int):V4:=(0,0,(homeR f line).2.2.1,0)
def homeD(f:Fw)(line:Int):V4:=((homeR f line).1,(homeR f line).2.1,0,0)
def backOk(f:Fw)(c:V4):Bool:=!nz4 c||addOk f c 0
def backF(f:Fw)(c:V4):Fw:=if nz4 c=true then addF f c 0 0 else f
def homeX(f:Fw)(line:Int):Int:=
 if homeB f line=false then 0
 else if backOk (home0 f line) (homeC f line)=false then 2
 else if backOk (backF (home0 f line) (homeC f line)) (homeD f line)=false then 2 else 0
def posL(m:Ma)(p:V4):V3:=((posV m p).1,(posV m p).2.1,(posV m p).2.2.1)
def homeF(f:Fw)(line:Int):Fw:=
 if homeB f line=false then home0 f line
 else {backF (backF (home0 f line) (homeC f line)) (homeD f line)with loc:=posL f.ma (homeR f line)}
def resE(f:Fw):Int:=if ¬f.mode=3 then 14 else if resOk f.g0 f.r0=false∨resOk f.g1 f.r1=false then 16 else 0
def resF(f:Fw):Fw:={f with g0:=resG f.g0 f.r0,g1:=resG f.g1 f.r1,mode:=1}
def homeA(f:Fw)(line:Int):Int:=if idleB f=false then 18 else if ¬f.mode=1 then 14 else homeX f line
def orB(a b:Int):Int:=i64.wrap ((BitVec.ofInt 64 a |||BitVec.ofInt 64 b).toNat:Int)
def lineF(f:Fw)(line:Int):Fw:=if line=0 then f else {f with line:=line}
def doE(f:Fw)(line:Int)(c:Gc.C):Int:=
 if c.code=1112 then 0
 else if c.code=1999 then resE f
 else if f.mode=3 then 16
 else if c.code=1025 then(if f.mode=1 then 0 else 14)
 else if c.code=1024 then(if f.mode=2 then 0 else 14)
 else if ¬f.waits=0∨¬f.dwell=0 then 18
 else if c.code=0∨c.code=1 then moveA f line c
 else if c.code=4 then(if idleB f=true then 0 else 18)
 else if c.code=28 then homeA f line
 else 0
def doF(f:Fw)(line:Int)(c:Gc.C):Fw:=
 if c.code=1112 then stopF (lineF f line)
 else if c.code=1999 then resF f
 else if c.code=1025 then {f with mode:=2}
 else if c.code=1024 then {f with mode:=1}
 else if c.code=0∨c.code=1 then moveF f line c
 else if c.code=4 then {f with dwell:=c.s}
 else if c.code=28 then homeF f line
 else if c.code=1104 then {f with c0:=f.c0.aim c.s}
 else if c.code=1109 then {f with c0:=f.c0.aim c.s,waits:=orB f.waits 1}
 else if c.code=1140 then {f with c1:=f.c1.aim c.s}
 else if c.code=1190 then {f with c1:=f.c1.aim c.s,waits:=orB f.waits 2}
 else {f with fan:=c.s}
def accE(f:Fw)(line:Int)(c:Gc.C):Int:=
 if validF f=false∨c.valid=false∨(¬line=0∧¬line=f.line+1)∨1099511627776<line then 1 else doE f line c
def accF(f:Fw)(line:Int)(c:Gc.C):Fw:=touchF (if c.code=1112 then doF f line c else lineF (doF f line c) line)
def readF(f:Fw)(r s:Int):Fw:={f with r0:=r,r1:=s,ticks:=if f.ticks+1<1099511627776 then f.ticks+1 else 1099511627776}
def heatF(f:Fw):Fw:={f with c0:=f.c0.step f.r0,c1:=f.c1.step f.r1,g0:=f.g0.step f.r0 (f.c0.step f.r0).target (f.c0.duty f.r0),g1:=f.g1.step f.r1 (f.c1.step f.r1).target (f.c1.duty f.r1)}
def duty0(f:Fw):Int:=f.g0.duty f.r0 (f.c0.step f.r0).target (f.c0.duty f.r0)
def duty1(f:Fw):Int:=f.g1.duty f.r1 (f.c1.step f.r1).target (f.c1.duty f.r1)
def newFault(a b:Gu):Bool:=a.fault==0&&!(b.fault==0)
def lostB(f:Fw):Bool:=newFault f.g0 (heatF f).g0||newFault f.g1 (heatF f).g1
def lostF(f:Fw):Fw:=if lostB f=true then {loseF (heatF f)with mode:=3} else heatF f
def warm(c:Co)(g:Gu)(r:Int):Bool:=decide (c.target-g.band≤r)
def waitF(f:Fw):Fw:={f with waits:=if warm f.c1 f.g1 f.r1=true then Gc.andNot (if warm f.c0 f.g0 f.r0=true then Gc.andNot f.waits 1 else f.waits) 2 else(if warm f.c0 f.g0 f.r0=true then Gc.andNot f.waits 1 else f.waits)}
def stepF(f:Fw):Fw:=if endedM (tickM f.mo f.ma.ticks)=true then {f with pos:=add4 f.pos (tickP f.mo f.ma.ticks),mo:=m0,moving:=false,active:=0} else {f with pos:=add4 f.pos (tickP f.mo f.ma.ticks),mo:=tickM f.mo f.ma.ticks}
def runF(f:Fw):Fw:=if 0<f.dwell then {f with dwell:=f.dwell-1} else if(begF f).moving=true then stepF (begF f)else begF f
def runP(f:Fw):V4:=if 0<f.dwell then z4 else if(begF f).moving=true then tickP (begF f).mo (begF f).ma.ticks else z4
def hotF(f:Fw)(r s:Int):Fw:=waitF (lostF (readF f r s))
def tickF(f:Fw)(r s:Int):Fw:=if validF f=false then f else if(hotF f r s).mode=3 then hotF f r s else runF (hotF f r s)
def tickQ(f:Fw)(r s:Int):V4:=if validF f=false then z4 else if(hotF f r s).mode=3 then z4 else runP (hotF f r s)
def tickD(f:Fw)(r s:Int):Int×Int:=if validF f=false then(0,0)else if(hotF f r s).mode=3 then(0,0)else(duty0 (readF f r s),duty1 (readF f r s))
theorem headZ_iff{l:List Int}:headZ l=true↔0<l.length∧l.getD 0 0=0:=by
 cases l with
 |nil=>simp[headZ]
 |cons n l=>simp[headZ]
def lensB(f:Fw):Bool:=decide (f.lines.length=f.queue.length)
theorem returnsB_iff{f:Fw}:returnsB f=true↔(f.moving=true∧f.active=0)∨(f.moving=false∧0<f.lines.length∧f.lines.getD 0 0=0):=by
 cases hm:f.moving
 ·rw[returnsB_off hm,headZ_iff];simp
 ·rw[returnsB_on hm];simp
theorem lensB_iff{f:Fw}:lensB f=true↔f.lines.length=f.queue.length:=by simp only[lensB,decide_eq_true_eq]
def s_returns_x_p:Plan:=.fork .all (.fork (.ln 7 (.lit .all)) (.ln 7 (.lit .all)))
noncomputable def s_returns_x_t(f:Fw):Tree StopX:= .node (f.moving) (.leaf (.fin (.ret (.bool (f.active==0)) [some (.cells (Fw.cells f))]))) (.node (decide ((↑f.queue.length:Int)>0)) (.req (decide (0< (↑f.lines.length:Int))) (.leaf (.fin (.ret (.bool (f.lines.getD 0 0==0)) [some (.cells (Fw.cells f))])))) (.leaf (.fin (.ret (.bool false) [some (.cells (Fw.cells f))]))))
theorem s_returns_x(f:Fw):segX (Env.ofB Tryz.prog (sumOf []) (wrOf []) (pnOf []) (bxOf []) (rdOf []) (rdOf []) (rdOf []) (rdOf [])) 1000 (fnOf Tryz.prog 227) 1 (keepS 31 []) (codeS Tryz.prog 227) s_returns_x_p (startS Tryz.prog 227 [.ptr 0 0]) [some (.cells f.cells)] =s_returns_x_t f:=by kernel_rfl
theorem s_returns(f:Fw)(h:lensB f=true):FCall Tryz.prog 227 [] f (.bool (returnsB f),f):=
 fcall_v (hB (l:=[]) (k:=[]) (j:=[]) (i:=[]) ([] :List Nat) ([] :List Nat) ([] :List Nat) ([] :List Nat) (trivial) noneOk noneOk noneOk) 1000 s_returns_x_p (keep:=(keepS 31 [])) (t:=s_returns_x_t f) (s_returns_x f) (by
  unfold s_returns_x_t
  have z:=headZ_iff (l:=f.lines)
  have hl:=lensB_iff.1 h
  cases hm:f.moving
  ·rw[returnsB_off hm]
   simp only[Tree.holds,hm,sL,ne_eq,beq_iff_eq,bne_iff_ne,eq_self,beq_eq_false_iff_ne,bne_eq_false_iff_eq,implies_true];(repeat' (first|apply And.intro|intro _));
   all_goals first
    |omega
    |(refine ends (congrArg SV.bool ?_) (NilLs.refl _) rfl;rw[Bool.eq_iff_iff,z];first|(simp_all;done)|(simp_all;omega)|grind)
  ·rw[returnsB_on hm]
   simp only[Tree.holds,hm,sL,ne_eq,beq_iff_eq,bne_iff_ne,eq_self,beq_eq_false_iff_ne,bne_eq_false_iff_eq,implies_true];(repeat' (first|apply And.intro|intro _));
   all_goals exact ends rfl (NilLs.refl _) rfl) (by kernel_rfl) (by kernel_rfl) (by kernel_rfl)
theorem s_returnsR(f:Fw):SCall Tryz.prog 169 [f.sv] (.bool (returnsB f)):=
 scall_v mix [] trivial 1000 (.fork .all (.fork (.ln 4 (.lit .all)) (.ln 4 (.lit .all))))
  (t:=.node (f.moving)
 (.leaf (SV.bool (f.active==0)))
 (.node (decide ((↑f.lines.length:Int)>0))
  (.req (decide (0< (↑f.lines.length:Int))) (.leaf (SV.bool (f.lines.getD 0 0==0))))
  (.leaf (SV.bool false))))
   (by kernel_rfl) (by
    have z:=headZ_iff (l:=f.lines)
    cases hm:f.moving
    ·rw[returnsB_off hm]
     simp only[Tree.holds,hm,sL,ne_eq,beq_iff_eq,bne_iff_ne,eq_self,beq_eq_false_iff_ne,bne_eq_false_iff_eq,implies_true];(repeat' (first|apply And.intro|intro _));
     all_goals first
      |omega
      |(refine congrArg SV.bool ?_;rw[Bool.eq_iff_iff,z];first|(simp_all;done)|(simp_all;omega)|grind)
    ·rw[returnsB_on hm]
     simp only[Tree.holds,hm,sL,ne_eq,beq_iff_eq,bne_iff_ne,eq_self,beq_eq_false_iff_ne,bne_eq_false_iff_eq,implies_true];(repeat' (first|apply And.intro|intro _));
     all_goals rfl) (by kernel_rfl) (by kernel_rfl)
def fReturnsR:Fact:=factF1 169 fun f=>.leaf (.bool (returnsB f))
theorem o_returnsR:fReturnsR.ok Tryz.prog:=factF1_ok (fun f=>s_returnsR f)
def op0_p:Plan:=.fork (.ln 6 (.fork .all .all)) (.ln 6 (.lit .all))
noncomputable def op0_t(f:Fw):Tree StopX:= .node (f.moving) (.node (decide (f.active>0)) (.leaf (.fin (.ret (.int .i64 f.active) [some (.cells (Fw.cells f))]))) (.leaf (.at (loopOf Tryz.prog 228 0) 43 (slotsS 43 [(0,.ptr 0 0),(27,.list (Ty.int IntKind.i64) f.lines),(28,.int .i64 (↑f.lines.length:Int)),(29,.int .i64 0)]) [some (.cells (Fw.cells f))]))) (.leaf (.at (loopOf Tryz.prog 228 0) 43 (slotsS 43 [(0,.ptr 0 0),(27,.list (Ty.int IntKind.i64) f.lines),(28,.int .i64 (↑f.lines.length:Int)),(29,.int .i64 0)]) [some (.cells (Fw.cells f))]))
theorem op0(f:Fw):segX (Env.ofB Tryz.prog (sumOf []) (wrOf []) (pnOf []) (bxOf []) (rdOf []) (rdOf []) (rdOf []) (rdOf [])) 1000 (fnOf Tryz.prog 228) 1 (keepS 43 [0,27,28,29]) (codeS Tryz.prog 228) op0_p (startS Tryz.prog 228 [.ptr 0 0]) [some (.cells f.cells)] =op0_t f:=by kernel_rfl
def op1_p:Plan:=.fork (.fork (.all) (.all)) (.all)
noncomputable def op1_t(f:Fw)(n i:Int):Tree StopX:= .node (decide (i<n)) (.req (decide (0≤i)&&decide (i< (↑f.lines.length:Int))) (.node (decide (f.lines.getD i.toNat 0>0)) (.leaf (.fin (.ret (.int .i64 (f.lines.getD i.toNat 0)) [some (.cells (Fw.cells f))]))) (.leaf (.at (loopOf Tryz.prog 228 0) 43 (slotsS 43 [(0,.ptr 0 0),(27,.list (Ty.int IntKind.i64) f.lines),(28,.int .i64 n),(29,.int .i64 (i64.wrap (i+1)))]) [some (.cells (Fw.cells f))])))) (.leaf (.fin (.ret (.int .i64 (i64.wrap (f.line+1))) [some (.cells (Fw.cells f))])))
theorem op1(f:Fw)(n i:Int):segX (Env.ofB Tryz.prog (sumOf []) (wrOf []) (pnOf []) (bxOf []) (rdOf []) (rdOf []) (rdOf []) (rdOf [])) 1000 (fnOf Tryz.prog 228) 1 (keepS 43 [0,27,28,29]) (loopOf Tryz.prog 228 0) op1_p (slotsS 43 [(0,.ptr 0 0),(27,LI f.lines),(28,I64 n),(29,I64 i)]) [some (.cells f.cells)] =op1_t f n i:=by kernel_rfl
def or0_p:Plan:=.fork (.ln 3 (.fork .all .all)) (.ln 3 (.lit .all))
noncomputable def or0_t(f:Fw):Tree Stop:= .node (f.moving) (.node (decide (f.active>0)) (.leaf (.done (.int .i64 f.active))) (.leaf (.at (loopOf Tryz.prog 170 0) 34 (slotsS 34 [(1,.ptr 0 0),(3,.int .i64 0)]) [some (.cells (Fw.cells f))]))) (.leaf (.at (loopOf Tryz.prog 170 0) 34 (slotsS 34 [(1,.ptr 0 0),(3,.int .i64 0)]) [some (.cells (Fw.cells f))]))
theorem or0(f:Fw):segR (Env.of Tryz.prog (sumOf [])) 1000 (fnOf Tryz.prog 170) .unit (keepS 34 [1,3]) (codeS Tryz.prog 170) or0_p (startS Tryz.prog 170 [f.sv]) [] =or0_t f:=by kernel_rfl
def or1_p:Plan:=.fork (.fork (.all) (.all)) (.all)
noncomputable def or1_t(f:Fw)(i:Int):Tree Stop:= .node (decide (i< (↑f.lines.length:Int))) (.req (decide (0≤i)&&decide (i< (↑f.lines.length:Int))) (.node (decide (f.lines.getD i.toNat 0>0)) (.req (decide (0≤i)&&decide (i< (↑f.lines.length:Int))) (.leaf (.done (.int .i64 (f.lines.getD i.toNat 0))))) (.leaf (.at (loopOf Tryz.prog 170 0) 34 (slotsS 34 [(1,.ptr 0 0),(3,.int .i64 (i64.wrap (i+1)))]) [some (.cells (Fw.cells f))])))) (.leaf (.done (.int .i64 (i64.wrap (f.line+1)))))
theorem or1(f:Fw)(i:Int):segR (Env.of Tryz.prog (sumOf [])) 1000 (fnOf Tryz.prog 170) .unit (keepS 34 [1,3]) (loopOf Tryz.prog 170 0) or1_p (slotsS 34 [(1,.ptr 0 0),(3,I64 i)]) [some (.cells f.cells)] =or1_t f i:=by kernel_rfl
theorem firstL_drop(l:List Int)(d:Int){i:Nat}(hi:i<l.length):firstL (l.drop i) d=if 0<l.getD i 0 then l.getD i 0 else firstL (l.drop (i+1)) d:=by
 rw[List.drop_eq_getElem_cons hi,List.getD_eq_getElem?_getD,List.getElem?_eq_getElem hi]
 rfl
theorem firstL_end(l:List Int)(d:Int):firstL (l.drop l.length) d=d:=by rw[List.drop_length];rfl
theorem op1_loop(f:Fw)(h:shapeB f=true):∀ (k i:Nat),i+k=f.lines.length→
  RunsX Tryz.prog (fnOf Tryz.prog 228) [] 1 (.ret (I64 (firstL (f.lines.drop i) (f.line+1))) [some (.cells f.cells)]) (loopOf Tryz.prog 228 0) (slotsS 43 [(0,.ptr 0 0),(27,LI f.lines),(28,I64 f.lines.length),(29,I64 i)]) [some (.cells f.cells)]
 |k,i,hi=>by
  have s:=shapeB_iff.1 h
  refine runsX_seg (hB (l:=[]) (k:=[]) (j:=[]) (i:=[]) [] [] [] [] trivial noneOk noneOk noneOk) (n:=1000) (keep:=keepS 43 [0,27,28,29]) (p:=op1_p) (Nat.le_refl _) ?_
  erw [op1 f f.lines.length i]
  unfold op1_t
  have t0:(i:Int).toNat=i:=by omega
  have w1:i64.wrap ((i:Int)+1)=((i+1:Nat):Int):=by rw[w64 (by omega) (by omega)];omega
  have w2:i64.wrap (f.line+1)=f.line+1:=w64 (by omega) (by omega)
  match k,hi with
  |0,hi=>
   have hi2:¬((i:Int)<f.lines.length):=by omega
   have hie:i=f.lines.length:=by omega
   simp only[t0,w1,w2,hi2,Tree.holds,decide_eq_true_eq,decide_eq_false_iff_not,false_implies,true_and,true_implies,not_false_eq_true]
   rw[hie,firstL_end]<;>rfl
  |k+1,hi=>
   have hi2:(i:Int)<f.lines.length:=by omega
   have ih:=op1_loop f h k (i+1) (by omega)
   have e:=firstL_drop f.lines (f.line+1) (i:=i) (by omega)
   simp only[t0,w1,w2,hi2,Tree.holds,decide_eq_true_eq,decide_eq_false_iff_not,Bool.and_eq_true,not_true_eq_false,false_implies,true_and,and_true,true_implies]
   refine⟨by omega,fun a=>?_,fun a=>⟨slotsS_len _ _,?_⟩⟩
   ·rw[e,if_pos a]<;>rfl
   ·rw[e,if_neg a];exact ih
theorem s_open(f:Fw)(h:shapeB f=true):FCall Tryz.prog 228 [] f (I64 (openV f),f):=by
 have s:=shapeB_iff.1 h
 refine fcall_runs (cs:=f.cells) (by kernel_rfl) rfl rfl rfl (NilLs.refl _) (runsX_seg (hB (l:=[]) (k:=[]) (j:=[]) (i:=[]) [] [] [] [] trivial noneOk noneOk noneOk) (n:=1000) (keep:=keepS 43 [0,27,28,29]) (p:=op0_p) (Nat.le_refl _) ?_)
 have q:=op0 f
 unfold startS codeS at q
 erw [q]
 unfold op0_t openV
 have lp:=op1_loop f h f.lines.length 0 (by omega)
 cases hm:f.moving
 ·simp only[hm,Tree.holds,Bool.false_eq_true,false_and,if_false,false_implies,true_implies,true_and]
  exact⟨slotsS_len _ _,lp⟩
 ·simp only[hm,Tree.holds,decide_eq_true_eq,decide_eq_false_iff_not,true_and,true_implies,Bool.true_eq_false,false_implies,and_true]
  refine⟨fun a=>?_,fun a=>⟨slotsS_len _ _,?_⟩⟩
  ·rw[if_pos (by omega)]<;>rfl
  ·rw[if_neg (by omega)];exact lp
def bOpen:BFact:=bfact 228 fun f rest=>match rest with
 |[] =>some (.req (shapeB f) (.leaf (I64 (openV f),f)))
 |_=>none
theorem o_bOpen:bOpen.ok Tryz.prog:=bfact_ok fun f rest t ht=>by
 split at ht
 ·injection ht with ht;subst ht;exact fun h=>s_open f h
 ·cases ht
theorem or1_loop(f:Fw)(h:shapeB f=true):∀ (k i:Nat),i+k=f.lines.length→
  RunsR Tryz.prog (fnOf Tryz.prog 170) (I64 (firstL (f.lines.drop i) (f.line+1))) (loopOf Tryz.prog 170 0) (slotsS 34 [(1,.ptr 0 0),(3,I64 i)]) [some (.cells f.cells)]
 |k,i,hi=>by
  have s:=shapeB_iff.1 h
  refine runsR_seg k0 (n:=1000) (hint:=.unit) (keep:=keepS 34 [1,3]) (p:=or1_p) rfl ?_
  erw [or1 f i]
  unfold or1_t
  have t0:(i:Int).toNat=i:=by omega
  have w1:i64.wrap ((i:Int)+1)=((i+1:Nat):Int):=by rw[w64 (by omega) (by omega)];omega
  have w2:i64.wrap (f.line+1)=f.line+1:=w64 (by omega) (by omega)
  match k,hi with
  |0,hi=>
   have hi2:¬((i:Int)<f.lines.length):=by omega
   have hie:i=f.lines.length:=by omega
   simp only[t0,w1,w2,hi2,Tree.holds,decide_eq_true_eq,decide_eq_false_iff_not,false_implies,true_and,true_implies,not_false_eq_true]
   rw[hie,firstL_end]<;>rfl
  |k+1,hi=>
   have hi2:(i:Int)<f.lines.length:=by omega
   have ih:=or1_loop f h k (i+1) (by omega)
   have e:=firstL_drop f.lines (f.line+1) (i:=i) (by omega)
   simp only[t0,w1,w2,hi2,Tree.holds,decide_eq_true_eq,decide_eq_false_iff_not,Bool.and_eq_true,not_true_eq_false,false_implies,true_and,and_true,true_implies]
   refine⟨by omega,fun a=>⟨by omega,?_⟩,fun a=>⟨slotsS_len _ _,?_⟩⟩
   ·rw[e,if_pos a]<;>rfl
   ·rw[e,if_neg a];exact ih
theorem s_openR(f:Fw)(h:shapeB f=true):SCall Tryz.prog 170 [f.sv] (I64 (openV f)):=by
 refine scallR_loops rfl rfl (by kernel_rfl) (runsR_seg k0 (n:=1000) (hint:=.unit) (keep:=keepS 34 [1,3]) (p:=or0_p) (boxes:=[]) rfl ?_)
 have q:=or0 f
 unfold startS codeS at q
 erw [q]
 unfold or0_t openV
 have lp:=or1_loop f h f.lines.length 0 (by omega)
 cases hm:f.moving
 ·simp only[hm,Tree.holds,Bool.false_eq_true,false_and,if_false,false_implies,true_implies,true_and]
  exact⟨slotsS_len _ _,lp⟩
 ·simp only[hm,Tree.holds,decide_eq_true_eq,decide_eq_false_iff_not,true_and,true_implies,Bool.true_eq_false,false_implies,and_true]
  refine⟨fun a=>?_,fun a=>⟨slotsS_len _ _,?_⟩⟩
  ·rw[if_pos (by omega)]<;>rfl
  ·rw[if_neg (by omega)];exact lp
def fOpenR:Fact:=factF1 170 fun f=>.req (shapeB f) (.leaf (I64 (openV f)))
theorem o_openR:fOpenR.ok Tryz.prog:=factF1_ok fun f h=>s_openR f h
theorem nil_leaf{g y:Fw}(h:g=y)(q:g.queue=[])(l:g.lines=[]):NilLs (nilC g) y.cells:=by subst h;exact nilC_ok g q l
def s_lose_x_p:Plan:=.fork (.ln 6 (.fork (.fork (.ln 4 (.lit .all)) (.ln 4 (.lit .all))) (.fork (.lit (.fork (.lit (.lit (.fork (.fork (.ln 4 (.lit .all)) (.ln 4 (.lit .all))) (.fork (.ln 4 (.lit .all)) (.ln 4 (.lit .all)))))) (.fork (.ln 10 (.fork (.fork (.ln 4 (.lit .all)) (.ln 4 (.lit .all))) (.fork (.ln 4 (.lit .all)) (.ln 4 (.lit .all))))) (.ln 11 (.fork (.ln 4 (.lit .all)) (.ln 4 (.lit .all))))))) (.ln 4 (.fork (.ln 4 (.lit .all)) (.ln 4 (.lit .all))))))) (.ln 7 (.fork (.lit (.fork (.lit (.lit (.fork (.fork (.ln 4 (.lit .all)) (.ln 4 (.lit .all))) (.fork (.ln 4 (.lit .all)) (.ln 4 (.lit .all)))))) (.fork (.ln 10 (.fork (.fork (.ln 4 (.lit .all)) (.ln 4 (.lit .all))) (.fork (.ln 4 (.lit .all)) (.ln 4 (.lit .all))))) (.ln 11 (.fork (.ln 4 (.lit .all)) (.ln 4 (.lit .all))))))) (.ln 4 (.fork (.ln 4 (.lit .all)) (.ln 4 (.lit .all))))))
noncomputable def s_lose_x_t(f:Fw):Tree StopX:=let y2:=Fw.mk f.ma f.mode f.homed f.pos f.loc f.e f.feed f.queue f.lines f.mo f.moving f.active f.back (begin4 f) f.dwell f.waits f.c0 f.c1 f.g0 f.g1 f.fan f.line f.ticks f.cold f.r0 f.r1;let y3:=Fw.mk f.ma f.mode f.homed f.pos f.loc f.e f.feed f.queue f.lines f.mo f.moving f.active f.back f.pos f.dwell f.waits f.c0 f.c1 f.g0 f.g1 f.fan f.line f.ticks f.cold f.r0 f.r1;let y5:=(((0,0,0,0),0,0,0,0),0,0);let y0:Tree StopX:=.req (shapeB y3) (.node (y3.back) (.leaf (.fin (.ret (.tuple []) [some (.cells (nilC {y3 with homed:=false,queue:=[],lines:=[],mo:=y5,moving:=false,active:=0,back:=true,dwell:=0,waits:=0,line:=(i64.wrap (openV y3-1))}))]))) (.leaf (.fin (.ret (.tuple []) [some (.cells (nilC {y3 with homed:=false,queue:=[],lines:=[],mo:=y5,moving:=false,active:=0,back:=y3.homed,dwell:=0,waits:=0,line:=(i64.wrap (openV y3-1))}))]))));let y1:Tree StopX:=.req (shapeB f) (.node (f.back) (.leaf (.fin (.ret (.tuple []) [some (.cells (nilC {f with homed:=false,queue:=[],lines:=[],mo:=y5,moving:=false,active:=0,back:=true,dwell:=0,waits:=0,line:=(i64.wrap (openV f-1))}))]))) (.leaf (.fin (.ret (.tuple []) [some (.cells (nilC {f with homed:=false,queue:=[],lines:=[],mo:=y5,moving:=false,active:=0,back:=f.homed,dwell:=0,waits:=0,line:=(i64.wrap (openV f-1))}))]))));let y4:Tree StopX:=.node (f.homed) (.node (f.moving) (.node (!f.active==0) y0 y1) (.node (decide ((↑f.queue.length:Int)>0)) (.req (decide (0< (↑f.lines.length:Int))) (.node (!f.lines.getD 0 0==0) y0 y1)) y0)) y1; .node (f.moving) (.node (decide (f.active>0)) (.req (big4 f.pos) (.req (shapeB y2) (.node (y2.back) (.leaf (.fin (.ret (.tuple []) [some (.cells (nilC {y2 with homed:=false,queue:=[],lines:=[],mo:=y5,moving:=false,active:=0,back:=true,dwell:=0,waits:=0,line:=(i64.wrap (openV y2-1))}))]))) (.leaf (.fin (.ret (.tuple []) [some (.cells (nilC {y2 with homed:=false,queue:=[],lines:=[],mo:=y5,moving:=false,active:=0,back:=y2.homed,dwell:=0,waits:=0,line:=(i64.wrap (openV y2-1))}))])))))) y4) y4
theorem s_lose_x(f:Fw):segX (Env.ofB Tryz.prog (sumOf [fBegin]) (wrOf []) (pnOf [BFact.toP bOpen]) (bxOf [bOpen]) (rdOf []) (rdOf []) (rdOf []) (rdOf [])) 1000 (fnOf Tryz.prog 164) 1 (keepS 101 []) (codeS Tryz.prog 164) s_lose_x_p (startS Tryz.prog 164 [.ptr 0 0]) [some (.cells f.cells)] =s_lose_x_t f:=by kernel_rfl
theorem s_lose(f:Fw)(h:shapeB f=true):FCall Tryz.prog 164 [] f (.tuple [],loseF f):=
 fcall_v (hB (l:=[fBegin]) (k:=[]) (j:=[BFact.toP bOpen]) (i:=[bOpen]) ([] :List Nat) ([] :List Nat) ([] :List Nat) ([] :List Nat) (⟨o_begin,trivial⟩) noneOk (allQ.all (p:=PFact.ok Tryz.prog) (l:=[BFact.toP bOpen]) ⟨BFact.toP_ok o_bOpen,trivial⟩) (allQ.all (p:=BFact.ok Tryz.prog) (l:=[bOpen]) ⟨o_bOpen,trivial⟩)) 1000 s_lose_x_p (keep:=(keepS 101 [])) (t:=s_lose_x_t f) (s_lose_x f) (by
  unfold s_lose_x_t
  have sh:=shapeB_iff.1 h
  have rb:=returnsB_iff (f:=f)
  have ov:=openV_rng h
  have w1:=w64 (x:=openV f-1) (by omega) (by omega)
  have e3:loseF f={loseF f with line:=i64.wrap (openV f-1)}:=by rw[w1];rfl
  cases hbk:f.back
  all_goals
  simp only[Tree.holds,hbk,sL,ne_eq,beq_iff_eq,bne_iff_ne,eq_self,beq_eq_false_iff_ne,bne_eq_false_iff_eq,implies_true];(repeat' (first|apply And.intro|intro _));
  all_goals first
   |exact h
   |exact sh.1
   |omega
   |(have e:loseRet f=begin4 f:=if_pos (by grind)
     refine ends rfl (nil_leaf ?_ rfl rfl) rfl;rw[e3];unfold loseF;rw[e,hbk];rfl)
   |(have e:loseRet f=wsub4 f.pos (madeM f.mo):=by rw[show loseRet f=begin4 f from if_pos (by grind),begin4_on (by assumption),wsub4_eq sh.1 (made_big f.mo)]
     refine ends rfl (nil_leaf ?_ rfl rfl) rfl;rw[e3];unfold loseF;rw[e,hbk];rfl)
   |(have e:loseRet f=f.pos:=by unfold loseRet;rw[if_neg (by grind),if_pos (by grind)]
     refine ends rfl (nil_leaf ?_ rfl rfl) rfl;rw[e3];unfold loseF;rw[e,hbk];rfl)
   |(have e:loseRet f=f.ret:=by unfold loseRet;rw[if_neg (by grind),if_neg (by grind)]
     refine ends rfl (nil_leaf ?_ rfl rfl) rfl;rw[e3];unfold loseF;rw[e,hbk];rfl)) (by kernel_rfl) (by kernel_rfl) (by kernel_rfl)
def bLose:BFact:=bfact 164 fun f rest=>match rest with
 |[] =>some (.req (shapeB f) (.leaf (.tuple [],loseF f)))
 |_=>none
theorem o_blose:bLose.ok Tryz.prog:=bfact_ok fun f rest t ht=>by
 split at ht
 ·injection ht with ht;subst ht;exact fun h=>s_lose f h
 ·cases ht
theorem s_loseR(f:Fw)(h:shapeB f=true):SCall Tryz.prog 81 [f.sv] (.agg (nilC (loseF f))):=
 scall_v mix [fReturnsR,fOpenR,fMnsR,fMadeR] ⟨o_returnsR,o_openR,o_mnsR,o_madeR,trivial⟩ 1000 (.fork (.ln 3 (.fork (.fork (.lit (.lit .all)) (.lit (.lit .all))) (.fork (.lit (.lit (.fork (.fork (.lit (.lit .all)) (.lit (.lit .all))) (.fork (.lit (.lit .all)) (.lit (.lit .all)))))) (.ln 3 (.fork (.lit (.lit .all)) (.lit (.lit .all))))))) (.ln 4 (.fork (.lit (.lit (.fork (.fork (.lit (.lit .all)) (.lit (.lit .all))) (.fork (.lit (.lit .all)) (.lit (.lit .all)))))) (.ln 3 (.fork (.lit (.lit .all)) (.lit (.lit .all)))))))
  (t:=let y2:=Fw.mk f.ma f.mode f.homed f.pos f.loc f.e f.feed f.queue f.lines f.mo f.moving f.active f.back (wsub4 f.pos (madeM f.mo)) f.dwell f.waits f.c0 f.c1 f.g0 f.g1 f.fan f.line f.ticks f.cold f.r0 f.r1;let y3:=Fw.mk f.ma f.mode f.homed f.pos f.loc f.e f.feed f.queue f.lines f.mo f.moving f.active f.back f.pos f.dwell f.waits f.c0 f.c1 f.g0 f.g1 f.fan f.line f.ticks f.cold f.r0 f.r1;let y4:=(((0,0,0,0),0,0,0,0),0,0);let y1:Tree SV:=.req (shapeB f) (.node (f.back) (.leaf (.agg (nilC {f with homed:=false,queue:=[],lines:=[],mo:=y4,moving:=false,active:=0,back:=true,dwell:=0,waits:=0,line:=(i64.wrap (openV f-1))}))) (.leaf (.agg (nilC {f with homed:=false,queue:=[],lines:=[],mo:=y4,moving:=false,active:=0,back:=f.homed,dwell:=0,waits:=0,line:=(i64.wrap (openV f-1))}))));let y0:Tree SV:=.node (!returnsB f) (.node (f.homed) (.req (shapeB y3) (.node (f.back) (.leaf (.agg (nilC {f with homed:=false,queue:=[],lines:=[],mo:=y4,moving:=false,active:=0,back:=true,ret:=f.pos,dwell:=0,waits:=0,line:=(i64.wrap (openV y3-1))}))) (.leaf (.agg (nilC {f with homed:=false,queue:=[],lines:=[],mo:=y4,moving:=false,active:=0,back:=f.homed,ret:=f.pos,dwell:=0,waits:=0,line:=(i64.wrap (openV y3-1))}))))) y1) y1;.node (f.moving) (.node (decide (f.active>0)) (.req (shapeB y2) (.node (f.back) (.leaf (.agg (nilC {f with homed:=false,queue:=[],lines:=[],mo:=y4,moving:=false,active:=0,back:=true,ret:=(wsub4 f.pos (madeM f.mo)),dwell:=0,waits:=0,line:=(i64.wrap (openV y2-1))}))) (.leaf (.agg (nilC {f with homed:=false,queue:=[],lines:=[],mo:=y4,moving:=false,active:=0,back:=f.homed,ret:=(wsub4 f.pos (madeM f.mo)),dwell:=0,waits:=0,line:=(i64.wrap (openV y2-1))}))))) y0) y0)
  (by kernel_rfl) (by
   have sh:=shapeB_iff.1 h
   have rb:=returnsB_iff (f:=f)
   have ov:=openV_rng h
   have w1:=w64 (x:=openV f-1) (by omega) (by omega)
   have e3:loseF f={loseF f with line:=i64.wrap (openV f-1)}:=by rw[w1];rfl
   cases hbk:f.back
   all_goals
   simp only[Tree.holds,hbk,sL,ne_eq,beq_iff_eq,bne_iff_ne,eq_self,beq_eq_false_iff_ne,bne_eq_false_iff_eq,implies_true];(repeat' (first|apply And.intro|intro _));
   all_goals first
    |exact h
    |exact sh.1
    |omega
    |(have e:loseRet f=begin4 f:=if_pos (by grind)
      rw[e3];unfold loseF;rw[e,hbk];rfl)
    |(have e:loseRet f=wsub4 f.pos (madeM f.mo):=by rw[show loseRet f=begin4 f from if_pos (by grind),begin4_on (by assumption),wsub4_eq sh.1 (made_big f.mo)]
      rw[e3];unfold loseF;rw[e,hbk];rfl)
    |(have e:loseRet f=f.pos:=by unfold loseRet;rw[if_neg (by grind),if_pos (by grind)]
      rw[e3];unfold loseF;rw[e,hbk];rfl)
    |(have e:loseRet f=f.ret:=by unfold loseRet;rw[if_neg (by grind),if_neg (by grind)]
      rw[e3];unfold loseF;rw[e,hbk];rfl)) (by kernel_rfl) (by kernel_rfl)
theorem nil_agg{cs ds:List SV}(hn:NilLs cs ds)(R:Nat→Prop)(ρ:Rho)(n:Nat)(w:World)(u:Value)(h:Rep R ρ n w (.agg cs) u):Rep R ρ n w (.agg ds) u:=by
 obtain⟨ws,h3,h4⟩:=h
 exact⟨ws,h3,hn.rep h4⟩
theorem s_loseR'(f:Fw)(h:shapeB f=true):SCall Tryz.prog 81 [f.sv] (loseF f).sv:=scall_val (s_loseR f h) (nil_agg (nilC_ok _ rfl rfl))
def fLoseR:Fact:=factF1 81 fun f=>.req (shapeB f) (.leaf (loseF f).sv)
theorem o_loseR:fLoseR.ok Tryz.prog:=factF1_ok (fun f h=>s_loseR' f h)
def s_sta_x_p:Plan:=.fork (.ln 21 (.lit .all)) (.ln 7 (.fork (.ln 13 (.lit .all)) (.ln 6 (.fork (.ln 6 (.lit .all)) (.ln 6 (.fork .all (.fork .all .all)))))))
noncomputable def s_sta_x_t(f:Fw):Tree StopX:=let y0:Tree StopX:=.leaf (.fin (.ret (.bool false) [some (.cells (Fw.cells f))]));let y1:=(↑f.queue.length:Int);let y2:=(↑f.lines.length:Int);let y3:=List.drop 1 f.queue;let y4:=List.drop 1 f.lines; .node (f.moving) y0 (.node (y1==0) y0 (.node (f.mode==3) y0 (.node (f.dwell != 0) y0 (.req (decide (0<y1)) (.node (okS (f.queue.getD 0 dBk) f.ma.ticks) (.req (decide (0<y2)) (.req (decide (1≤y1)) (.req (few2 y3.length) (.req (decide (1≤y2)) (.req (few2 y4.length) (.leaf (.fin (.ret (.bool true) [some (.cells (Fw.cells {f with queue:=y3,lines:=y4,mo:=(startM (f.queue.getD 0 dBk) f.ma.ticks),moving:=true,active:=(f.lines.getD 0 0)}))])))))))) (.req (decide (0<y2)) (.req (decide (1≤y1)) (.req (few2 y3.length) (.req (decide (1≤y2)) (.req (few2 y4.length) (.leaf (.fin (.ret (.bool true) [some (.cells (Fw.cells {f with queue:=y3,lines:=y4,mo:=(((0,0,0,0),0,0,0,0),0,0),moving:=true,active:=(f.lines.getD 0 0)}))])))))))))))))
theorem s_sta_x(f:Fw):segX (Env.ofB Tryz.prog (sumOf [fStart,fCloB,fCloI]) (wrOf []) (pnOf []) (bxOf []) (rdOf []) (rdOf []) (rdOf []) (rdOf [])) 1000 (fnOf Tryz.prog 84) 1 (keepS 91 []) (codeS Tryz.prog 84) s_sta_x_p (startS Tryz.prog 84 [.ptr 0 0]) [some (.cells f.cells)] =s_sta_x_t f:=by kernel_rfl
theorem s_sta(f:Fw)(h:shapeB f=true):FCall Tryz.prog 84 [] f (.bool (canStart f),begF f):=
 fcall_v (hB (l:=[fStart,fCloB,fCloI]) (k:=[]) (j:=[]) (i:=[]) ([] :List Nat) ([] :List Nat) ([] :List Nat) ([] :List Nat) (⟨o_start,o_cloB,o_cloI,trivial⟩) noneOk noneOk noneOk) 1000 s_sta_x_p (keep:=(keepS 91 [])) (t:=s_sta_x_t f) (s_sta_x f) (by
  unfold s_sta_x_t
  have sh:=shapeB_iff.1 h
  have ci:=canStart_iff (f:=f)
  cases hc:canStart f
  ·have hn:¬(f.moving=false∧¬f.queue.length=0∧¬f.mode=3∧f.dwell=0):=fun a=>by rw[ci.2 a]at hc;cases hc
   simp only[Tree.holds,sL,ne_eq,beq_iff_eq,bne_iff_ne,eq_self,beq_eq_false_iff_ne,bne_eq_false_iff_eq,implies_true];(repeat' (first|apply And.intro|intro _));
   all_goals first
    |(exfalso;first|omega|grind)
    |(rw[begF_no hc];exact ends rfl (NilLs.refl _) rfl)
  ·have hy:=ci.1 hc
   rw[begF_yes hc]
   simp only[Tree.holds,sL,ne_eq,beq_iff_eq,bne_iff_ne,eq_self,beq_eq_false_iff_ne,bne_eq_false_iff_eq,implies_true];(repeat' (first|apply And.intro|intro _));
   all_goals first
    |omega
    |(rw[few2_iff];simp;omega)
    |(exfalso;first|omega|grind)
    |(unfold startF;rw[startMo_yes (by assumption)];exact ends rfl (NilLs.refl _) rfl)
    |(unfold startF;rw[startMo_no (by assumption)];exact ends rfl (NilLs.refl _) rfl)) (by kernel_rfl) (by kernel_rfl) (by kernel_rfl)
def bStart:BFact:=bfact 84 fun f rest=>match rest with
 |[] =>some (.req (shapeB f) (.leaf (.bool (canStart f),begF f)))
 |_=>none
theorem o_bstart:bStart.ok Tryz.prog:=bfact_ok fun f rest t ht=>by
 split at ht
 ·injection ht with ht;subst ht;exact fun h=>s_sta f h
 ·cases ht
def s_tgt_x_p:Plan:=.go (.lit (.fork (.go (.lit (.fork (.go (.lit (.fork (.go (.lit (.fork (.go (.lit (.all))) (.go (.lit (.all)))))) (.go (.lit (.fork (.go (.lit (.all))) (.go (.lit (.all))))))))) (.go (.lit (.fork (.go (.lit (.fork (.go (.lit (.all))) (.go (.lit (.all)))))) (.go (.lit (.fork (.go (.lit (.all))) (.go (.lit (.all)))))))))))) (.go (.lit (.fork (.go (.lit (.fork (.go (.lit (.fork (.go (.lit (.all))) (.go (.lit (.all)))))) (.go (.lit (.fork (.go (.lit (.all))) (.go (.lit (.all))))))))) (.go (.lit (.fork (.go (.lit (.fork (.go (.lit (.all))) (.go (.lit (.all)))))) (.go (.lit (.fork (.go (.lit (.all))) (.go (.lit (.all))))))))))))))
noncomputable def s_tgt_x_t(f:Fw)(c:Gc.C):Tree StopX:=let y0:=i64.wrap (↑(BitVec.ofInt 64 c.has &&&BitVec.ofInt 64 8).toNat:Int) != 0;let y1:=i64.wrap (↑(BitVec.ofInt 64 c.has &&&BitVec.ofInt 64 4).toNat:Int) != 0;let y2:=Fw.cells f;let y3:=i64.wrap (↑(BitVec.ofInt 64 c.has &&&BitVec.ofInt 64 2).toNat:Int) != 0; .req (true) (.node (i64.wrap (↑(BitVec.ofInt 64 c.has &&&BitVec.ofInt 64 1).toNat:Int) != 0) (.req true (.node y3 (.req true (.node y1 (.req true (.node y0 (.leaf (.fin (.ret (.tuple [.agg [.int .i64 c.x,.int .i64 c.y,.int .i64 c.z],.int .i64 c.e]) [some (.cells y2)]))) (.leaf (.fin (.ret (.tuple [.agg [.int .i64 c.x,.int .i64 c.y,.int .i64 c.z],.int .i64 f.e]) [some (.cells y2)]))))) (.req true (.node y0 (.leaf (.fin (.ret (.tuple [.agg [.int .i64 c.x,.int .i64 c.y,.int .i64 f.loc.2.2],.int .i64 c.e]) [some (.cells y2)]))) (.leaf (.fin (.ret (.tuple [.agg [.int .i64 c.x,.int .i64 c.y,.int .i64 f.loc.2.2],.int .i64 f.e]) [some (.cells y2)]))))))) (.req true (.node y1 (.req true (.node y0 (.leaf (.fin (.ret (.tuple [.agg [.int .i64 c.x,.int .i64 f.loc.2.1,.int .i64 c.z],.int .i64 c.e]) [some (.cells y2)]))) (.leaf (.fin (.ret (.tuple [.agg [.int .i64 c.x,.int .i64 f.loc.2.1,.int .i64 c.z],.int .i64 f.e]) [some (.cells y2)]))))) (.req true (.node y0 (.leaf (.fin (.ret (.tuple [.agg [.int .i64 c.x,.int .i64 f.loc.2.1,.int .i64 f.loc.2.2],.int .i64 c.e]) [some (.cells y2)]))) (.leaf (.fin (.ret (.tuple [.agg [.int .i64 c.x,.int .i64 f.loc.2.1,.int .i64 f.loc.2.2],.int .i64 f.e]) [some (.cells y2)]))))))))) (.req true (.node y3 (.req true (.node y1 (.req true (.node y0 (.leaf (.fin (.ret (.tuple [.agg [.int .i64 f.loc.1,.int .i64 c.y,.int .i64 c.z],.int .i64 c.e]) [some (.cells y2)]))) (.leaf (.fin (.ret (.tuple [.agg [.int .i64 f.loc.1,.int .i64 c.y,.int .i64 c.z],.int .i64 f.e]) [some (.cells y2)]))))) (.req true (.node y0 (.leaf (.fin (.ret (.tuple [.agg [.int .i64 f.loc.1,.int .i64 c.y,.int .i64 f.loc.2.2],.int .i64 c.e]) [some (.cells y2)]))) (.leaf (.fin (.ret (.tuple [.agg [.int .i64 f.loc.1,.int .i64 c.y,.int .i64 f.loc.2.2],.int .i64 f.e]) [some (.cells y2)]))))))) (.req true (.node y1 (.req true (.node y0 (.leaf (.fin (.ret (.tuple [.agg [.int .i64 f.loc.1,.int .i64 f.loc.2.1,.int .i64 c.z],.int .i64 c.e]) [some (.cells y2)]))) (.leaf (.fin (.ret (.tuple [.agg [.int .i64 f.loc.1,.int .i64 f.loc.2.1,.int .i64 c.z],.int .i64 f.e]) [some (.cells y2)]))))) (.req true (.node y0 (.leaf (.fin (.ret (.tuple [.agg [.int .i64 f.loc.1,.int .i64 f.loc.2.1,.int .i64 f.loc.2.2],.int .i64 c.e]) [some (.cells y2)]))) (.leaf (.fin (.ret (.tuple [.agg [.int .i64 f.loc.1,.int .i64 f.loc.2.1,.int .i64 f.loc.2.2],.int .i64 f.e]) [some (.cells y2)]))))))))))
theorem s_tgt_x(f:Fw)(c:Gc.C):segX (Env.ofB Tryz.prog (sumOf []) (wrOf []) (pnOf []) (bxOf []) (rdOf []) (rdOf []) (rdOf []) (rdOf [])) 1000 (fnOf Tryz.prog 213) 1 (keepS 53 []) (codeS Tryz.prog 213) s_tgt_x_p (startS Tryz.prog 213 [.ptr 0 0,c.sv]) [some (.cells f.cells)] =s_tgt_x_t f c:=by kernel_rfl
theorem s_tgt(f:Fw)(c:Gc.C):FCall Tryz.prog 213 [c.sv] f (.tuple [V3.sv (tgtV f c),I64 (tgtE f c)],f):=
 fcall_v (hB (l:=[]) (k:=[]) (j:=[]) (i:=[]) ([] :List Nat) ([] :List Nat) ([] :List Nat) ([] :List Nat) (trivial) noneOk noneOk noneOk) 1000 s_tgt_x_p (keep:=(keepS 53 [])) (t:=s_tgt_x_t f c) (s_tgt_x f c) (by
  unfold s_tgt_x_t
  simp only[Tree.holds,sL,ne_eq,beq_iff_eq,bne_iff_ne,eq_self,beq_eq_false_iff_ne,bne_eq_false_iff_eq,implies_true];(repeat' (first|apply And.intro|intro _));
  all_goals first
   |rfl
   |(refine ends ?_ (NilLs.refl _) rfl;unfold tgtV tgtE;simp only[hasW_iff, *,not_false_eq_true,not_true_eq_false,if_true,if_false];rfl)) (by kernel_rfl) (by kernel_rfl) (by kernel_rfl)
theorem s_tgtR(f:Fw)(c:Gc.C):SCall Tryz.prog 270 [f.sv,c.sv] (.tuple [V3.sv (tgtV f c),I64 (tgtE f c)]):=
 scall_v mix [] trivial 1000 (.fork (.fork (.fork (.fork (.all) (.all)) (.fork (.all) (.all))) (.fork (.fork (.all) (.all)) (.fork (.all) (.all)))) (.fork (.fork (.fork (.all) (.all)) (.fork (.all) (.all))) (.fork (.fork (.all) (.all)) (.fork (.all) (.all)))))
  (t:=let y0:=i64.wrap (↑(BitVec.ofInt 64 c.has &&&BitVec.ofInt 64 8).toNat:Int) != 0;let y1:=i64.wrap (↑(BitVec.ofInt 64 c.has &&&BitVec.ofInt 64 4).toNat:Int) != 0;let y2:=i64.wrap (↑(BitVec.ofInt 64 c.has &&&BitVec.ofInt 64 2).toNat:Int) != 0;.node (i64.wrap (↑(BitVec.ofInt 64 c.has &&&BitVec.ofInt 64 1).toNat:Int) != 0) (.node y2 (.node y1 (.node y0 (.leaf (.tuple [.agg [.int .i64 c.x,.int .i64 c.y,.int .i64 c.z],.int .i64 c.e])) (.leaf (.tuple [.agg [.int .i64 c.x,.int .i64 c.y,.int .i64 c.z],.int .i64 f.e]))) (.node y0 (.leaf (.tuple [.agg [.int .i64 c.x,.int .i64 c.y,.int .i64 f.loc.2.2],.int .i64 c.e])) (.leaf (.tuple [.agg [.int .i64 c.x,.int .i64 c.y,.int .i64 f.loc.2.2],.int .i64 f.e])))) (.node y1 (.node y0 (.leaf (.tuple [.agg [.int .i64 c.x,.int .i64 f.loc.2.1,.int .i64 c.z],.int .i64 c.e])) (.leaf (.tuple [.agg [.int .i64 c.x,.int .i64 f.loc.2.1,.int .i64 c.z],.int .i64 f.e]))) (.node y0 (.leaf (.tuple [.agg [.int .i64 c.x,.int .i64 f.loc.2.1,.int .i64 f.loc.2.2],.int .i64 c.e])) (.leaf (.tuple [.agg [.int .i64 c.x,.int .i64 f.loc.2.1,.int .i64 f.loc.2.2],.int .i64 f.e]))))) (.node y2 (.node y1 (.node y0 (.leaf (.tuple [.agg [.int .i64 f.loc.1,.int .i64 c.y,.int .i64 c.z],.int .i64 c.e])) (.leaf (.tuple [.agg [.int .i64 f.loc.1,.int .i64 c.y,.int .i64 c.z],.int .i64 f.e]))) (.node y0 (.leaf (.tuple [.agg [.int .i64 f.loc.1,.int .i64 c.y,.int .i64 f.loc.2.2],.int .i64 c.e])) (.leaf (.tuple [.agg [.int .i64 f.loc.1,.int .i64 c.y,.int .i64 f.loc.2.2],.int .i64 f.e])))) (.node y1 (.node y0 (.leaf (.tuple [.agg [.int .i64 f.loc.1,.int .i64 f.loc.2.1,.int .i64 c.z],.int .i64 c.e])) (.leaf (.tuple [.agg [.int .i64 f.loc.1,.int .i64 f.loc.2.1,.int .i64 c.z],.int .i64 f.e]))) (.node y0 (.leaf (.tuple [.agg [.int .i64 f.loc.1,.int .i64 f.loc.2.1,.int .i64 f.loc.2.2],.int .i64 c.e])) (.leaf (.tuple [.agg [.int .i64 f.loc.1,.int .i64 f.loc.2.1,.int .i64 f.loc.2.2],.int .i64 f.e]))))))
  (by kernel_rfl) (by
   simp only[Tree.holds,sL,ne_eq,beq_iff_eq,bne_iff_ne,eq_self,beq_eq_false_iff_ne,bne_eq_false_iff_eq,implies_true];(repeat' (first|apply And.intro|intro _));
   all_goals first
    |rfl
    |(unfold tgtV tgtE;simp only[hasW_iff, *,not_false_eq_true,not_true_eq_false,if_true,if_false];rfl)) (by kernel_rfl) (by kernel_rfl)
def nilfree:List SV→Bool
 |[] =>true
 |x::l=>match x with
  |.nilS=>false
  |_=>nilfree l
theorem nilfree_eq:∀{cs ys:List SV},NilLs cs ys→nilfree cs=true→cs=ys
 |[],[],_,_=>rfl
 |x::xs,y::ys,h,k=>by
  obtain⟨h1,h2⟩:=h
  unfold nilfree at k
  split at k
  ·cases k
  ·rename_i hx
   cases h1 with
   |same=>rw[nilfree_eq h2 k]
   |nil t=>exact absurd rfl hx
def rdT(cs:List SV):Tree SV→Tree (Bool×SV×Box)
 |.leaf v=>.leaf (false,v,.cells cs)
 |.node b t f=>.node b (rdT cs t) (rdT cs f)
 |.req b t=>.req b (rdT cs t)
 |.fail n=>.fail n
def rfact(f:FuncId)(h:Fw→List SV→Option (Tree SV)):BFact:=⟨f,fun args B=>match B with
 |.cells cs=>match nilfree cs with
  |true=>match asFw cs with
   |some x=>match h x args with
    |some t=>some (rdT cs t)
    |none=>none
   |none=>none
  |false=>none
 |_=>none⟩
theorem rdT_says{P:Program}{f:FuncId}{args cs:List SV}{x:Fw}(he:cs=x.cells):∀t:Tree SV,t.says (fun v=>FCall P f args x (v,x))→(rdT cs t).says (BCall P f args (.cells cs))
 |.leaf v,k=>by subst he;exact k
 |.node _ t u,k=>⟨fun hb=>rdT_says he t (k.1 hb),fun hb=>rdT_says he u (k.2 hb)⟩
 |.req _ t,k=>fun hb=>rdT_says he t (k hb)
 |.fail _,_=>trivial
theorem rfact_ok{P:Program}{f:FuncId}{h:Fw→List SV→Option (Tree SV)}(k:∀x rest t,h x rest=some t→t.says fun v=>FCall P f rest x (v,x)):(rfact f h).ok P:=fun args B t ht=>by
 simp only[rfact]at ht
 split at ht
 ·split at ht
  ·rename_i hn
   split at ht
   ·rename_i hx
    split at ht
    ·rename_i t' ht'
     injection ht with ht;subst ht
     exact rdT_says (nilfree_eq (asFw_nil hx) hn) t' (k _ _ _ ht')
    ·cases ht
   ·cases ht
  ·cases ht
 ·cases ht
def inV(p:V3):Bool:=inR p.1 (-33554432) 33554432&& (inR p.2.1 (-33554432) 33554432&&inR p.2.2 (-33554432) 33554432)
theorem inV_iff{p:V3}:inV p=true↔(-33554432≤p.1∧p.1≤33554432)∧(-33554432≤p.2.1∧p.2.1≤33554432)∧-33554432≤p.2.2∧p.2.2≤33554432:=by simp only[inV,Bool.and_eq_true,inR_iff]
def inE(n:Int):Bool:=inR n (-1152921504606846976) 1152921504606846976
def lenPre(f:Fw)(p:V3)(e:Int):Bool:=inV f.loc&& (inV p&& (inE f.e&&inE e))
theorem lenPre_iff{f:Fw}{p:V3}{e:Int}:lenPre f p e=true↔inV f.loc=true∧inV p=true∧(-1152921504606846976≤f.e∧f.e≤1152921504606846976)∧-1152921504606846976≤e∧e≤1152921504606846976:=by simp only[lenPre,inE,Bool.and_eq_true,inR_iff]
def lenD(a b:V3)(d:Int):Int:=if isq (sqs a b)=0 then(if d < -d then -d else d)else isq (sqs a b)
theorem lenM_D{f:Fw}{p:V3}{e:Int}:lenM f p e=lenD f.loc p (e-f.e):=by
 unfold lenM lenD
 split
 ·rw[show -(e-f.e)=f.e-e by omega]
 ·rfl
theorem sq25{x:Int}(h: -67108864≤x∧x≤67108864):i64.wrap (x*x)=x*x∧0≤x*x∧x*x≤4503599627370496:=by
 have h1:0≤x*x:=by
  rcases Int.le_total 0 x with k|k
  ·exact Int.mul_nonneg k k
  ·have:=Int.mul_nonneg (show 0≤-x by omega) (show 0≤-x by omega);rwa [Int.neg_mul_neg]at this
 have h2:x*x≤67108864*67108864:=by
  rcases Int.le_total 0 x with k|k
  ·exact Int.mul_le_mul h.2 h.2 k (by omega)
  ·have:=Int.mul_le_mul (show -x≤67108864 by omega) (show -x≤67108864 by omega) (show 0≤-x by omega) (by omega)
   rwa [Int.neg_mul_neg]at this
 exact⟨w64 (by omega) (by omega),h1,by omega⟩
theorem sqs_wrap{a b:V3}(ha:inV a=true)(hb:inV b=true):i64.wrap (b.1-a.1)=b.1-a.1∧i64.wrap (b.2.1-a.2.1)=b.2.1-a.2.1∧i64.wrap (b.2.2-a.2.2)=b.2.2-a.2.2∧
  i64.wrap (i64.wrap (i64.wrap ((b.1-a.1)*(b.1-a.1))+i64.wrap ((b.2.1-a.2.1)*(b.2.1-a.2.1)))+i64.wrap ((b.2.2-a.2.2)*(b.2.2-a.2.2)))=sqs a b∧inR (sqs a b) 0 9223372036854775807=true:=by
 rw[inV_iff]at ha hb
 obtain⟨e1,p1,q1⟩:=sq25 (x:=b.1-a.1) (by omega)
 obtain⟨e2,p2,q2⟩:=sq25 (x:=b.2.1-a.2.1) (by omega)
 obtain⟨e3,p3,q3⟩:=sq25 (x:=b.2.2-a.2.2) (by omega)
 refine⟨w64 (by omega) (by omega),w64 (by omega) (by omega),w64 (by omega) (by omega),?_,inR_iff.2 (by unfold sqs;omega)⟩
 rw[e1,e2,e3,w64 (x:=(b.1-a.1)*(b.1-a.1)+(b.2.1-a.2.1)*(b.2.1-a.2.1)) (by omega) (by omega),w64 (by omega) (by omega)]
 rfl
def s_leng_x_p:Plan:=.fork (.all) (.all)
noncomputable def s_leng_x_t(f:Fw)(p:V3)(e:Int):Tree StopX:=let y0:=i64.wrap (i64.wrap (i64.wrap (i64.wrap (p.1-f.loc.1)*i64.wrap (p.1-f.loc.1))+i64.wrap (i64.wrap (p.2.1-f.loc.2.1)*i64.wrap (p.2.1-f.loc.2.1)))+i64.wrap (i64.wrap (p.2.2-f.loc.2.2)*i64.wrap (p.2.2-f.loc.2.2))); .req (inR y0 0 9223372036854775807) (.node (isq y0==0) (.leaf (.fin (.ret (.int .i64 (if i64.wrap (f.e-e)>i64.wrap (e-f.e)then i64.wrap (f.e-e)else i64.wrap (e-f.e))) [some (.cells (Fw.cells f))]))) (.leaf (.fin (.ret (.int .i64 (isq y0)) [some (.cells (Fw.cells f))]))))
theorem s_leng_x(f:Fw)(p:V3)(e:Int):segX (Env.ofB Tryz.prog (sumOf [fIsq]) (wrOf []) (pnOf []) (bxOf []) (rdOf []) (rdOf []) (rdOf []) (rdOf [])) 1000 (fnOf Tryz.prog 216) 1 (keepS 72 []) (codeS Tryz.prog 216) s_leng_x_p (startS Tryz.prog 216 [.ptr 0 0,V3.sv p,I64 e]) [some (.cells f.cells)] =s_leng_x_t f p e:=by kernel_rfl
theorem s_leng(f:Fw)(p:V3)(e:Int)(h:lenPre f p e=true):FCall Tryz.prog 216 [V3.sv p,I64 e] f (I64 (lenM f p e),f):=
 fcall_v (hB (l:=[fIsq]) (k:=[]) (j:=[]) (i:=[]) ([] :List Nat) ([] :List Nat) ([] :List Nat) ([] :List Nat) (⟨o_isq,trivial⟩) noneOk noneOk noneOk) 1000 s_leng_x_p (keep:=(keepS 72 [])) (t:=s_leng_x_t f p e) (s_leng_x f p e) (by
  unfold s_leng_x_t
  have lp:=lenPre_iff.1 h
  obtain⟨x1,x2,x3,x4,x5⟩:=sqs_wrap lp.1 lp.2.1
  have w1:=w64 (x:=e-f.e) (by omega) (by omega)
  have w2:=w64 (x:=f.e-e) (by omega) (by omega)
  rw[x1,x2,x3]
  simp only[x4,x5,w1,w2,Tree.holds,sL,ne_eq,beq_iff_eq,bne_iff_ne,eq_self,beq_eq_false_iff_ne,bne_eq_false_iff_eq,implies_true];(repeat' (first|apply And.intro|intro _));
  all_goals first
   |rfl
   |(refine ends ?_ (NilLs.refl _) rfl;unfold lenM;refine sv_int ?_;(repeat' split)<;>omega)) (by kernel_rfl) (by kernel_rfl) (by kernel_rfl)
def bLeng:BFact:=bfact 216 fun f rest=>match rest with
 |[.agg [.int .i64 x,.int .i64 y,.int .i64 z],.int .i64 e] =>some (.req (lenPre f (x,y,z) e) (.leaf (I64 (lenM f (x,y,z) e),f)))
 |_=>none
theorem s_lengR(a b:V3)(d:Int)(ha:inV a=true)(hb:inV b=true)(hd:inE d=true):SCall Tryz.prog 273 [V3.sv a,V3.sv b,I64 d] (I64 (lenD a b d)):=
 scall_v mix [fIsqR] ⟨o_isqR,trivial⟩ 1000 (.fork (.all) (.all))
  (t:=let y0:=i64.wrap (i64.wrap (i64.wrap (i64.wrap (b.1-a.1)*i64.wrap (b.1-a.1))+i64.wrap (i64.wrap (b.2.1-a.2.1)*i64.wrap (b.2.1-a.2.1)))+i64.wrap (i64.wrap (b.2.2-a.2.2)*i64.wrap (b.2.2-a.2.2)));.req (inR y0 0 9223372036854775807) (.node (isq y0==0) (.leaf (.int .i64 (if i64.wrap (0-d)>d then i64.wrap (0-d)else d))) (.leaf (.int .i64 (isq y0)))))
  (by kernel_rfl) (by
   obtain⟨x1,x2,x3,x4,x5⟩:=sqs_wrap ha hb
   have hd:=inR_iff.1 hd
   have w1:=w64 (x:=0-d) (by omega) (by omega)
   rw[x1,x2,x3]
   simp only[x4,x5,w1,Tree.holds,sL,ne_eq,beq_iff_eq,bne_iff_ne,eq_self,beq_eq_false_iff_ne,bne_eq_false_iff_eq,implies_true];(repeat' (first|apply And.intro|intro _));
   all_goals first
    |rfl
    |(unfold lenD;refine sv_int ?_;(repeat' split)<;>omega)) (by kernel_rfl) (by kernel_rfl)
def fLengR:Fact:=⟨273,fun args=>match args with
 |[.agg [.int .i64 x,.int .i64 y,.int .i64 z],.agg [.int .i64 u,.int .i64 v,.int .i64 w],.int .i64 d] =>some (.req (inV (x,y,z)) (.req (inV (u,v,w)) (.req (inE d) (.leaf (I64 (lenD (x,y,z) (u,v,w) d))))))
 |_=>none⟩
theorem o_lengR:fLengR.ok Tryz.prog:=fun args t ht=>by
 simp only[fLengR]at ht
 split at ht
 ·injection ht with ht;subst ht;exact fun ha hb hd=>s_lengR (_,_,_) (_,_,_) _ ha hb hd
 ·cases ht
def bTgt:BFact:=bfact 213 fun f rest=>match rest with
 |[.agg [.int .i64 a0,.int .i64 a1,.int .i64 a2,.int .i64 a3,.int .i64 a4,.int .i64 a5,.int .i64 a6,.int .i64 a7]] =>some (.leaf (.tuple [V3.sv (tgtV f ⟨a0,a1,a2,a3,a4,a5,a6,a7⟩),I64 (tgtE f ⟨a0,a1,a2,a3,a4,a5,a6,a7⟩)],f))
 |_=>none
def fTgtR:Fact:=⟨270,fun args=>match args with
 |.agg l::rest=>match asFw l with
  |some f=>match rest with
   |[.agg [.int .i64 a0,.int .i64 a1,.int .i64 a2,.int .i64 a3,.int .i64 a4,.int .i64 a5,.int .i64 a6,.int .i64 a7]] =>some (.leaf (.tuple [V3.sv (tgtV f ⟨a0,a1,a2,a3,a4,a5,a6,a7⟩),I64 (tgtE f ⟨a0,a1,a2,a3,a4,a5,a6,a7⟩)]))
   |_=>none
  |none=>none
 |_=>none⟩
theorem o_tgtR:fTgtR.ok Tryz.prog:=fun args t ht=>by
 simp only[fTgtR]at ht
 split at ht
 ·split at ht
  ·rename_i hx
   split at ht
   ·injection ht with ht;subst ht
    exact scall_nil (asFw_nil hx) (s_tgtR _ ⟨_,_,_,_,_,_,_,_⟩)
   ·cases ht
  ·cases ht
 ·cases ht
end Go.Proofs.YtnkaepnblikcdaaGreat
