/-
  What the statement needs: an evaluator of the model, contracts of the functions that it reaches, and the plain law.
-/
import Derived.Test.YtnkaepnblikcdaaGreatZA6
set_option maxRecDepth 100000
set_option linter.unusedVariables false
set_option linter.unusedSimpArgs false
open Go.IntKind (i64 u64)
namespace Go.Proofs.YtnkaepnblikcdaaGreat
open Go.Sx
abbrev CmdT:=Int×Int×Int×Int×Int×Int×Int×Int
abbrev OpT:=Int×Bool×CmdT×Int×Int×Int
abbrev tyOp:Ty:=.pair (.int .i64) (.pair .bool (.pair (.pair (.int .i64) (.pair (.int .i64) (.pair (.int .i64) (.pair (.int .i64) (.pair (.int .i64) (.pair (.int .i64) (.pair (.int .i64) (.int .i64)))))))) (.pair (.int .i64) (.pair (.int .i64) (.int .i64)))))
abbrev LO(l:List OpT):SV:=.list tyOp l
def dOp:OpT:=(0,false,(0,0,0,0,0,0,0,0),0,0,0)
def sm0_p:Plan:=.all
noncomputable def sm0_t(l:List OpT)(m:Int):Tree Stop:= .leaf (.at (loopOf Tryz.prog 17 0) 27 (slotsS 27 [(0,.list ((Ty.int IntKind.i64).pair (Ty.bool.pair (((Ty.int IntKind.i64).pair ((Ty.int IntKind.i64).pair ((Ty.int IntKind.i64).pair ((Ty.int IntKind.i64).pair ((Ty.int IntKind.i64).pair ((Ty.int IntKind.i64).pair ((Ty.int IntKind.i64).pair (Ty.int IntKind.i64)))))))).pair ((Ty.int IntKind.i64).pair ((Ty.int IntKind.i64).pair (Ty.int IntKind.i64)))))) l),(1,.int .i64 m),(5,.int .i64 0)]) [])
theorem sm0(l:List OpT)(m:Int):segR (Env.of Tryz.prog (sumOf [])) 1000 (fnOf Tryz.prog 17) .unit (keepS 27 [0,1,5]) (codeS Tryz.prog 17) sm0_p (startS Tryz.prog 17 [LO l,I64 m]) [] =sm0_t l m:=by kernel_rfl
def sm1_p:Plan:=.fork (.ln 3 (.fork (.fork .all .all) .all)) (.ln 3 (.lit .all))
noncomputable def sm1_t(l:List OpT)(m i:Int):Tree Stop:= .node (decide (i< (↑l.length:Int))) (.node (decide (i<m)) (.req (decide (0≤i)&&decide (i< (↑l.length:Int))) (.node (decide ((l.getD i.toNat tyOp.dflt).2.2.2.1>40)) (.leaf (.done (.bool false))) (.leaf (.at (loopOf Tryz.prog 17 0) 27 (slotsS 27 [(0,.list ((Ty.int IntKind.i64).pair (Ty.bool.pair (((Ty.int IntKind.i64).pair ((Ty.int IntKind.i64).pair ((Ty.int IntKind.i64).pair ((Ty.int IntKind.i64).pair ((Ty.int IntKind.i64).pair ((Ty.int IntKind.i64).pair ((Ty.int IntKind.i64).pair (Ty.int IntKind.i64)))))))).pair ((Ty.int IntKind.i64).pair ((Ty.int IntKind.i64).pair (Ty.int IntKind.i64)))))) l),(1,.int .i64 m),(5,.int .i64 (i64.wrap (i+1)))]) [])))) (.leaf (.done (.bool (decide ((↑l.length:Int)≤m)))))) (.leaf (.done (.bool (decide ((↑l.length:Int)≤m)))))
theorem sm1(l:List OpT)(m i:Int):segR (Env.of Tryz.prog (sumOf [])) 1000 (fnOf Tryz.prog 17) .unit (keepS 27 [0,1,5]) (loopOf Tryz.prog 17 0) sm1_p (slotsS 27 [(0,LO l),(1,I64 m),(5,I64 i)]) [] =sm1_t l m i:=by kernel_rfl
def opN(x:OpT):Int:=x.2.2.2.1
def opC(x:OpT):Gc.C:=⟨x.2.2.1.1,x.2.2.1.2.1,x.2.2.1.2.2.1,x.2.2.1.2.2.2.1,x.2.2.1.2.2.2.2.1,x.2.2.1.2.2.2.2.2.1,x.2.2.1.2.2.2.2.2.2.1,x.2.2.1.2.2.2.2.2.2.2⟩
def smallB(l:List OpT)(m:Int):Bool:=(l.all fun x=>decide (opN x≤40))&&decide ((l.length:Int)≤m)
theorem smallB_iff{l:List OpT}{m:Int}:smallB l m=true↔(∀i,i<l.length→opN (l.getD i dOp)≤40)∧(l.length:Int)≤m:=by
 simp only[smallB,Bool.and_eq_true,List.all_eq_true,decide_eq_true_eq]
 refine and_congr ⟨fun h i hi=>?_,fun h x hx=>?_⟩ Iff.rfl
 ·rw[List.getD_eq_getElem?_getD,List.getElem?_eq_getElem hi];exact h _ (List.getElem_mem hi)
 ·obtain⟨i,hi,rfl⟩:=List.getElem_of_mem hx
  have:=h i hi
  rw[List.getD_eq_getElem?_getD,List.getElem?_eq_getElem hi]at this;exact this
theorem k00:Known Tryz.prog (Env.of Tryz.prog (sumOf [])):=kW trivial
theorem sm_loop(l:List OpT)(m:Int)(hl:l.length≤9223372036854775807):∀ (k i:Nat),i+k=l.length→(∀t,t<i→opN (l.getD t dOp)≤40)→
  RunsR Tryz.prog (fnOf Tryz.prog 17) (.bool (smallB l m)) (loopOf Tryz.prog 17 0) (slotsS 27 [(0,LO l),(1,I64 m),(5,I64 i)]) []
 |k,i,hi,hb=>by
  refine runsR_seg k00 (n:=1000) (hint:=.unit) (keep:=keepS 27 [0,1,5]) (p:=sm1_p) rfl ?_
  erw [sm1 l m i]
  unfold sm1_t
  have t0:(i:Int).toNat=i:=by omega
  have fin:(¬(i:Int)<l.length∨¬(i:Int)<m)→SV.bool (decide ((l.length:Int)≤m))=.bool (smallB l m):=fun h=>by
   refine congrArg SV.bool (Bool.eq_iff_iff.2 ?_)
   rw[smallB_iff,decide_eq_true_eq]
   refine⟨fun a=>⟨fun t ht=>hb t (by omega),a⟩,fun a=>a.2⟩
  rw[t0]
  match k,hi with
  |0,hi=>exact n_dec (fun a=>absurd a (by omega)) fun a=>fin (.inl a)
  |k+1,hi=>
   have w1:i64.wrap ((i:Int)+1)=((i+1:Nat):Int):=by rw[w64 (by omega) (by omega)];omega
   rw[w1]
   refine n_dec (fun a=>n_dec (fun b=>n_req (by simp;omega) (n_dec (fun c=>?_) (fun c=>?_))) fun b=>fin (.inr b)) fun a=>fin (.inl a)
   ·show SV.bool false=_
    refine congrArg SV.bool (Eq.symm (Bool.eq_false_iff.2 fun h=>?_))
    have:=(smallB_iff.1 h).1 i (by omega)
    have c:opN (l.getD i dOp)>40:=c
    omega
   ·refine⟨slotsS_len _ _,sm_loop l m hl k (i+1) (by omega) fun t ht=>?_⟩
    rcases Nat.lt_or_ge t i with q|q
    ·exact hb t q
    ·obtain rfl:t=i:=by omega
     have c:¬opN (l.getD t dOp)>40:=c
     omega
theorem s_small(l:List OpT)(m:Int)(hl:l.length≤9223372036854775807):SCall Tryz.prog 17 [LO l,I64 m] (.bool (smallB l m)):=by
 refine scallR_loops rfl rfl (by kernel_rfl) (runsR_seg k00 (n:=1000) (hint:=.unit) (keep:=keepS 27 [0,1,5]) (p:=sm0_p) (boxes:=[]) rfl ?_)
 have q:=sm0 l m
 unfold startS codeS at q
 erw [q]
 unfold sm0_t
 exact⟨slotsS_len _ _,sm_loop l m hl l.length 0 (by omega) fun t ht=>absurd ht (Nat.not_lt_zero _)⟩
def lenOk(l:List OpT):Bool:=Nat.ble l.length 9223372036854775807
theorem lenOk_iff{l:List OpT}:lenOk l=true↔l.length≤9223372036854775807:=by unfold lenOk;rw[Nat.ble_eq]
def fSmall:Fact:=⟨17,fun args=>match args with
 |[.list (.pair (.int .i64) (.pair .bool (.pair (.pair (.int .i64) (.pair (.int .i64) (.pair (.int .i64) (.pair (.int .i64) (.pair (.int .i64) (.pair (.int .i64) (.pair (.int .i64) (.int .i64)))))))) (.pair (.int .i64) (.pair (.int .i64) (.int .i64)))))) l,.int .i64 m] =>some (.req (lenOk l) (.leaf (.bool (smallB l m))))
 |_=>none⟩
theorem o_small:fSmall.ok Tryz.prog:=fun args t ht=>by
 simp only[fSmall]at ht
 split at ht
 ·injection ht with ht;subst ht
  exact fun h=>s_small _ _ (lenOk_iff.1 h)
 ·cases ht
abbrev Fw.q(f:Fw)(i:Nat):Bk:=f.queue.getD i dBk
structure Lm (f:Fw) (ex:Int) (cn:V4):Prop where
 blk:∀i,i<f.queue.length→(f.q i).2.2.2.1≤spdV f.ma (f.q i).1 0 0*spdV f.ma (f.q i).1 0 0∧(f.q i).2.1=accV f.ma (f.q i).1
 mo:f.moving=true→f.mo.1.2.2.2.2=ex∧f.mo.1.1=cn
 head:0<f.queue.length→(f.q 0).2.2.1=ex
 jun0:0<f.queue.length→0<ex→ex≤junV f.ma cn (f.q 0).1*junV f.ma cn (f.q 0).1
 chain:∀i,i+1<f.queue.length→(f.q (i+1)).2.2.1=(f.q i).2.2.2.2∧(f.q (i+1)).2.2.1≤junV f.ma (f.q i).1 (f.q (i+1)).1*junV f.ma (f.q i).1 (f.q (i+1)).1
 last:0<f.queue.length→(f.q (f.queue.length-1)).2.2.2.2=0
 none:f.queue.length=0→ex=0
theorem Lm.same{f g:Fw}{ex:Int}{cn:V4}(h:Lm f ex cn)(h1:g.ma=f.ma)(h2:g.queue=f.queue)(h3:g.moving=f.moving)(h4:g.mo=f.mo):Lm g ex cn:=by
 obtain⟨⟩:=f
 obtain⟨⟩:=g
 dsimp only at h1 h2 h3 h4
 subst h1 h2 h3 h4
 exact⟨h.1,h.2,h.3,h.4,h.5,h.6,h.7⟩
theorem Lm.idle{f:Fw}{cn:V4}(hm:f.moving=false)(hq:f.queue=[]):Lm f 0 cn:=by
 have l:f.queue.length=0:=by rw[hq];rfl
 exact⟨fun i hi=>(by omega),fun k=>(by rw[hm]at k;cases k),fun k=>(by omega),fun k=>(by omega),fun i hi=>(by omega),fun k=>(by omega),fun _=>rfl⟩
section
variable {f:Fw} {ex:Int} {cn:V4}
theorem Lm.entry(h:Lm f ex cn):entryV f=ex:=by
 unfold entryV
 split
 ·rename_i k;exact(h.mo k).1
 ·split
  ·rename_i k;exact(h.none k).symm
  ·exact h.head (by omega)
theorem Lm.add(h:Lm f ex cn){d:V4}{len line:Int}(hp:addPre f d len=true)(ho:addOk f d len=true):Lm (addF f d len line) ex cn:=by
 have o:=addOk_iff.1 ho
 have p:=gL_pick (add_plOk hp) o.1 o.2
 have e:=h.entry
 have n:(addQ f d len).length=f.queue.length+1:=addQ_len _ _ _
 have g:∀i,i<f.queue.length+1→(addF f d len line).q i=setEE ((addQ f d len).getD i dBk) (gL (addQ f d len) (capsV f.ma (addQ f d len)) (entryV f) i) (gL (addQ f d len) (capsV f.ma (addQ f d len)) (entryV f) (i+1)):=fun i hi=>by
  show((plB _ _).getD i dBk)=_
  exact plB_get (by rw[n];exact hi)
 have len':(addF f d len line).queue.length=f.queue.length+1:=addF_len
 have pr:=addPre_iff.1 hp
 refine⟨fun i hi=>?_,h.mo,fun _=>?_,fun _ k=>?_,fun i hi=>?_,fun _=>?_,fun k=>by rw[len']at k;omega⟩
 ·rw[len']at hi
  rw[g i hi]
  show((addQ f d len).getD i dBk).2.2.2.1≤spdV f.ma ((addQ f d len).getD i dBk).1 0 0*spdV f.ma ((addQ f d len).getD i dBk).1 0 0∧((addQ f d len).getD i dBk).2.1=accV f.ma ((addQ f d len).getD i dBk).1
  rcases Nat.lt_or_ge i f.queue.length with k|k
  ·rw[addQ_old k];exact h.blk i k
  ·obtain rfl:i=f.queue.length:=by omega
   rw[addQ_new]
   have s:=spdV_rng pr.1 (l:=len) (f:=f.feed) (ok63_iff.1 pr.2.1).2 (ok63_iff.1 pr.2.2.1).2
   refine⟨?_,rfl⟩
   show spdV f.ma d len f.feed*spdV f.ma d len f.feed≤spdV f.ma d 0 0*spdV f.ma d 0 0
   exact Int.mul_le_mul s.2.1 s.2.1 (by omega) (by omega)
 ·rw[g 0 (by omega)]
  show gL _ _ _ 0=ex
  rw[o.2,e]
 ·rw[g 0 (by omega)]
  show ex≤junV f.ma cn ((addQ f d len).getD 0 dBk).1*junV f.ma cn ((addQ f d len).getD 0 dBk).1
  rcases Nat.eq_zero_or_pos f.queue.length with q|q
  ·have:=h.none q;omega
  ·rw[addQ_old q];exact h.jun0 q k
 ·rw[len']at hi
  rw[g (i+1) hi,g i (by omega)]
  have a:=(p.2.2 (i+1) (by rw[n];omega)).2.2.2.1 (by omega) (by rw[n];exact hi)
  refine⟨rfl,?_⟩
  show gL _ _ _ (i+1)≤junV f.ma ((addQ f d len).getD i dBk).1 ((addQ f d len).getD (i+1) dBk).1*junV f.ma ((addQ f d len).getD i dBk).1 ((addQ f d len).getD (i+1) dBk).1
  have cj:capL (capsV f.ma (addQ f d len)) (i+1)=capJ f.ma (addQ f d len) (i+1):=by
   unfold capL capsV
   rw[List.getD_eq_getElem?_getD,List.getElem?_map,List.getElem?_range (by rw[n];exact hi)];rfl
  rw[cj,capJ_succ _ _ (by omega),show i+1-1=i by omega]at a
  exact a
 ·rw[len',g _ (by omega)]
  show gL _ _ _ (f.queue.length+1-1+1)=0
  have:=p.2.1
  rw[n]at this
  rw[show f.queue.length+1-1+1=f.queue.length+1 by omega];exact this
theorem Lm.back(h:Lm f ex cn){d:V4}(hp:nz4 d=true→addPre f d 0=true)(ho:backOk f d=true):Lm (backF f d) ex cn:=by
 cases z:nz4 d with
 |false=>rw[backF_no z];exact h
 |true=>
  rw[backF_yes z]
  rw[backOk_yes z]at ho
  exact h.add (hp z) ho
theorem Lm.start(h:Lm f ex cn)(v:validF f=true)(hc:canStart f=true):Lm (startF f) (f.q 0).2.2.2.2 (f.q 0).1:=by
 obtain⟨c1,c2,c3,c4⟩:=canStart_iff.1 hc
 have m:=(start_mo v hc).2
 have len:(startF f).queue.length=f.queue.length-1:=by show(f.queue.drop 1).length=_;rw[List.length_drop]
 have g:∀i,(startF f).q i=f.q (i+1):=fun i=>by
  show(f.queue.drop 1).getD i dBk=_
  rw[List.getD_eq_getElem?_getD,List.getElem?_drop,←List.getD_eq_getElem?_getD,Nat.add_comm]
 refine⟨fun i hi=>?_,fun _=>?_,fun k=>?_,fun k e=>?_,fun i hi=>?_,fun k=>?_,fun k=>?_⟩
 ·rw[len]at hi
  rw[g];exact h.blk (i+1) (by omega)
 ·rw[m];exact⟨rfl,rfl⟩
 ·rw[len]at k
  rw[g];exact(h.chain 0 (by omega)).1
 ·rw[len]at k
  rw[g]
  have:=(h.chain 0 (by omega))
  rw[this.1]at this
  exact this.2
 ·rw[len]at hi
  rw[g,g];exact h.chain (i+1) (by omega)
 ·rw[len]at k ⊢
  rw[g,show f.queue.length-1-1+1=f.queue.length-1 by omega]
  exact h.last (by omega)
 ·rw[len]at k
  have:=h.last (by omega)
  rw[show f.queue.length-1=0 by omega]at this
  exact this
theorem Lm.step(h:Lm f ex cn):Lm (stepF f) ex cn:=by
 cases e:endedM (tickM f.mo f.ma.ticks)with
 |true=>
  rw[step_yes e]
  exact⟨h.blk,fun k=>(by cases k),h.head,h.jun0,h.chain,h.last,h.none⟩
 |false=>
  rw[step_no e]
  refine⟨h.blk,fun k=>?_,h.head,h.jun0,h.chain,h.last,h.none⟩
  show(tickM f.mo f.ma.ticks).1.2.2.2.2=ex∧(tickM f.mo f.ma.ticks).1.1=cn
  rw[tick_block];exact h.mo k
end
def exitX(f:Fw)(ex:Int):Int:=if f.moving=false∧f.queue.length=0 then 0 else ex
theorem Lm.rest{f:Fw}{ex:Int}{cn:V4}(h:Lm f ex cn):Lm f (exitX f ex) cn:=by
 unfold exitX;split
 ·rename_i k;rw[←h.none k.2];exact h
 ·exact h
theorem Lm.gone{f:Fw}{ex:Int}{cn:V4}(hm:f.moving=false)(hq:f.queue=[]):Lm f (exitX f ex) cn:=by
 unfold exitX;rw[if_pos ⟨hm,by rw[hq];rfl⟩];exact Lm.idle hm hq
section
variable {f:Fw} {line:Int} {c:Gc.C} {ex:Int} {cn:V4}
theorem feedF_lm(h:Lm f ex cn):Lm (feedF f c) ex cn:=by unfold feedF;split<;>exact⟨h.1,h.2,h.3,h.4,h.5,h.6,h.7⟩
theorem doF_lm(v:validF f=true)(hc:c.valid=true)(e:doE f line c=0)(h:Lm f ex cn):Lm (doF f line c) (exitX (doF f line c) ex) cn:=by
 have vf:=vf_of v
 by_cases k1:c.code=1112
 ·rw[doF_1112 k1];exact Lm.gone rfl rfl
 by_cases k2:c.code=1999
 ·have:doF f line c=resF f:=by unfold doF;rw[if_neg k1,if_pos k2]
  rw[this];exact(h.same (g:=resF f) rfl rfl rfl rfl).rest
 by_cases m:f.mode=3
 ·rw[e_f3 k1 k2 m]at e;omega
 by_cases k3:c.code=1025
 ·have:doF f line c={f with mode:=2}:=by unfold doF;rw[if_neg k1,if_neg k2,if_pos k3]
  rw[this];exact(h.same (g:={f with mode:=2}) rfl rfl rfl rfl).rest
 by_cases k4:c.code=1024
 ·have:doF f line c={f with mode:=1}:=by unfold doF;rw[if_neg k1,if_neg k2,if_neg k3,if_pos k4]
  rw[this];exact(h.same (g:={f with mode:=1}) rfl rfl rfl rfl).rest
 have kk:¬c.code=1112∧¬c.code=1999∧¬c.code=1024∧¬c.code=1025:=⟨k1,k2,k4,k3⟩
 by_cases w:¬f.waits=0∨¬f.dwell=0
 ·rw[e_wait kk m w]at e;omega
 have w':f.waits=0∧f.dwell=0:=by omega
 have sm:∀g:Fw,g.ma=f.ma→g.queue=f.queue→g.moving=f.moving→g.mo=f.mo→Lm g (exitX g ex) cn:=fun g a b d t=>(h.same a b d t).rest
 rw[d_late kk]
 rw[e_late kk m w']at e
 split at e
 ·rename_i a;rw[if_pos a]
  obtain⟨s,ki,km,t⟩:=moveA_zero e
  obtain⟨t1,t2,t3⟩:=tlE_zero t
  unfold moveF
  cases z:nz4 (moveD f c)with
  |false=>rw[tlF_no z];exact((feedF_lm h).same (g:={feedF f c with loc:=tgtV f c,e:=tgtE f c}) rfl rfl rfl rfl).rest
  |true=>
   rw[tlF_yes z]
   have q:=(feedF_lm (c:=c) h).add (line:=line) (mv_pre vf hc ki km t2 z).2 (t3 z).2
   exact(q.same (g:={addF (feedF f c) (moveD f c) (lenM (feedF f c) (tgtV f c) (tgtE f c)) line with loc:=tgtV f c,e:=tgtE f c}) rfl rfl rfl rfl).rest
 ·rename_i a;rw[if_neg a]
  split at e
  ·rename_i b;rw[if_pos b];exact sm _ rfl rfl rfl rfl
  ·rename_i b;rw[if_neg b]
   split at e
   ·rename_i d;rw[if_pos d]
    obtain⟨hi,hm,hx⟩:=homeA_zero e
    unfold homeF
    split
    ·exact sm _ rfl rfl rfl rfl
    ·rename_i hb
     obtain⟨o1,o2⟩:=homeX_zero hx hb
     have q0:Lm (home0 f line) ex cn:=h.same rfl rfl rfl rfl
     have q1:=q0.back (fun z=>home_pre vf hi (homeC_near vf) z) o1
     have q2:=q1.back (fun z=>home_pre2 vf hi o1 z) o2
     exact(q2.same (g:={backF (backF (home0 f line) (homeC f line)) (homeD f line)with loc:=posL f.ma (homeR f line)}) rfl rfl rfl rfl).rest
   ·rename_i d;rw[if_neg d]
    repeat' (first|exact sm _ rfl rfl rfl rfl|split)
theorem exitX_same{f g:Fw}(h2:g.queue=f.queue)(h3:g.moving=f.moving):exitX g ex=exitX f ex:=by unfold exitX;rw[h2,h3]
theorem accF_same:(accF f line c).ma=(doF f line c).ma∧(accF f line c).queue=(doF f line c).queue∧(accF f line c).moving=(doF f line c).moving∧(accF f line c).mo=(doF f line c).mo:=by
 unfold accF
 split
 ·exact⟨rfl,rfl,rfl,rfl⟩
 ·unfold lineF;split<;>exact⟨rfl,rfl,rfl,rfl⟩
theorem acc_lm(e:accE f line c=0)(h:Lm f ex cn):Lm (accF f line c) (exitX (accF f line c) ex) cn:=by
 obtain⟨h1,h2,h3,h4,h5⟩:=accE_zero e
 have k:=doF_lm h1 h2 h5 h
 obtain⟨s1,s2,s3,s4⟩:=accF_same (f:=f) (line:=line) (c:=c)
 rw[exitX_same s2 s3]
 exact k.same s1 s2 s3 s4
end
section
variable {f:Fw} {r s ex:Int} {cn:V4}
theorem hot_same(l:lostB (readF f r s)=false):(hotF f r s).ma=f.ma∧(hotF f r s).queue=f.queue∧(hotF f r s).moving=f.moving∧(hotF f r s).mo=f.mo∧(hotF f r s).mode=f.mode∧(hotF f r s).dwell=f.dwell:=by
 have e:hotF f r s=waitF (heatF (readF f r s)):=by
  unfold hotF lostF;rw[l,if_neg Bool.false_ne_true]
 rw[e];exact⟨rfl,rfl,rfl,rfl,rfl,rfl⟩
theorem hot_lost(l:lostB (readF f r s)=true):(hotF f r s).mode=3∧(hotF f r s).queue=[] ∧(hotF f r s).moving=false:=by
 have e:hotF f r s=waitF {loseF (heatF (readF f r s))with mode:=3}:=by
  unfold hotF lostF;rw[if_pos l]
 rw[e];exact⟨rfl,rfl,rfl⟩
theorem canStart_same{f g:Fw}(h2:g.queue=f.queue)(h3:g.moving=f.moving)(h5:g.mode=f.mode)(h6:g.dwell=f.dwell):canStart g=canStart f:=by unfold canStart;rw[h2,h3,h5,h6]
theorem tick_none(v:validF f=true)(hc:canStart f=false∨(tickF f r s).mode=3)(h:Lm f ex cn):Lm (tickF f r s) (exitX (tickF f r s) ex) cn:=by
 have hv:=hot_valid (r:=r) (s:=s) v
 cases l:lostB (readF f r s)with
 |true=>
  obtain⟨m,q,mv⟩:=hot_lost l
  have e:tickF f r s=hotF f r s:=by unfold tickF;rw[v,if_neg (by decide),if_pos m]
  rw[e];exact Lm.gone mv q
 |false=>
  obtain⟨s1,s2,s3,s4,s5,s6⟩:=hot_same l
  have hl:Lm (hotF f r s) ex cn:=h.same s1 s2 s3 s4
  have cs:=canStart_same s2 s3 s5 s6
  by_cases m:(hotF f r s).mode=3
  ·have e:tickF f r s=hotF f r s:=by unfold tickF;rw[v,if_neg (by decide),if_pos m]
   rw[e];exact hl.rest
  ·have e:tickF f r s=runF (hotF f r s):=by unfold tickF;rw[v,if_neg (by decide),if_neg m]
   have bm:∀g:Fw,(begF g).mode=g.mode:=fun g=>by unfold begF;split<;>rfl
   have sm:∀g:Fw,(stepF g).mode=g.mode:=fun g=>by unfold stepF;split<;>rfl
   have c0:canStart f=false:=by
    rcases hc with k|k
    ·exact k
    ·rw[e]at k
     have:(runF (hotF f r s)).mode=(hotF f r s).mode:=by
      unfold runF;split
      ·rfl
      ·split
       ·rw[sm,bm]
       ·exact bm _
     rw[this]at k;exact absurd k m
   rw[e]
   unfold runF
   split
   ·exact(hl.same (g:={hotF f r s with dwell:=(hotF f r s).dwell-1}) rfl rfl rfl rfl).rest
   ·rw[begF_no (by rw[cs];exact c0)]
    split
    ·exact hl.step.rest
    ·exact hl.rest
theorem tick_start(v:validF f=true)(hc:canStart f=true)(hm:¬(tickF f r s).mode=3)(h:Lm f ex cn):Lm (tickF f r s) (exitX (tickF f r s) (f.q 0).2.2.2.2) (f.q 0).1:=by
 have hv:=hot_valid (r:=r) (s:=s) v
 obtain⟨c1,c2,c3,c4⟩:=canStart_iff.1 hc
 cases l:lostB (readF f r s)with
 |true=>
  obtain⟨m,q,mv⟩:=hot_lost l
  have e:tickF f r s=hotF f r s:=by unfold tickF;rw[v,if_neg (by decide),if_pos m]
  rw[e]at hm;exact absurd m hm
 |false=>
  obtain⟨s1,s2,s3,s4,s5,s6⟩:=hot_same l
  have hl:Lm (hotF f r s) ex cn:=h.same s1 s2 s3 s4
  have cs:=canStart_same s2 s3 s5 s6
  have e:tickF f r s=runF (hotF f r s):=by unfold tickF;rw[v,if_neg (by decide),if_neg (by omega)]
  have q:=hl.start hv (by rw[cs];exact hc)
  have d:¬0< (hotF f r s).dwell:=by omega
  have e2:runF (hotF f r s)=stepF (startF (hotF f r s)):=by
   unfold runF;rw[if_neg d,begF_yes (by rw[cs];exact hc),if_pos (show(startF (hotF f r s)).moving=true from rfl)]
  have e3:(hotF f r s).q 0=f.q 0:=by show(hotF f r s).queue.getD 0 dBk=_;rw[s2]
  rw[e3]at q
  rw[e,e2];exact q.step.rest
end
section
variable {f:Fw} {line:Int} {c:Gc.C} {a b:Int×Int}
end
section
variable {f:Fw} {r s:Int} {a b:Int×Int}
end
def lineV(f:Fw)(b:Bool):Int:=if b=true then f.line+1 else 0
def fLine(g:FuncId):Fact:=factFw g fun f rest=>match rest with
 |[.agg [.int .i64 _,.bool b,.int .i64 _,.int .i64 _,.int .i64 _,.int .i64 _,.int .i64 _,.int .i64 _,.int .i64 _,.int .i64 _,.int .i64 _,.int .i64 _,.int .i64 _]] =>some (.req (inR f.line 0 1099511627776) (.leaf (I64 (lineV f b))))
 |_=>none
def fLine53:Fact:=fLine 26
def opL(kd:Int)(nb:Bool)(c:Gc.C)(n r s:Int):List SV:=[I64 kd,.bool nb,I64 c.code,I64 c.has,I64 c.x,I64 c.y,I64 c.z,I64 c.e,I64 c.f,I64 c.s,I64 n,I64 r,I64 s]
theorem s_line(f:Fw)(kd:Int)(nb:Bool)(c:Gc.C)(n r s:Int)(h:inR f.line 0 1099511627776=true):SCall Tryz.prog 26 [f.sv,.agg (opL kd nb c n r s)] (I64 (lineV f nb)):=
 scall_vE (hB (l:=[]) (k:=[]) (j:=[]) (i:=[]) ([] :List Nat) ([] :List Nat) ([] :List Nat) ([] :List Nat) (trivial) noneOk noneOk noneOk) 1000 (.fork (.all) (.all))
  (t:=.node (nb)
 (.leaf (SV.int IntKind.i64 (i64.wrap (f.line+1))))
 (.leaf (SV.int IntKind.i64 0)))
   (by kernel_rfl) (by
    have h:=inR_iff.1 h
    have w:i64.wrap (f.line+1)=f.line+1:=w64 (by omega) (by omega)
    rw[w]
    exact n_bool (fun a=>by subst a;rfl) (fun a=>by subst a;rfl)) (by kernel_rfl) (by kernel_rfl)
theorem o_line53:fLine53.ok Tryz.prog:=factFw_ok fun f rest t ht=>by
 split at ht
 ·injection ht with ht;subst ht
  exact fun h=>s_line f _ _ ⟨_,_,_,_,_,_,_,_⟩ _ _ _ h
 ·cases ht
section
variable {f:Fw} {r s line:Int} {c:Gc.C}
end
section
variable {kd:Int} {nb:Bool} {c:Gc.C} {n r s:Int}
end
def shI(a:List Int):Bool:=decide (a.length≤1000)
def shB(a:List Bk):Bool:=decide (a.length≤1000)
noncomputable def eqFw(x y:Fw):Bool:=@decide (x=y) (Classical.propDecidable _)
def shF(x:Fw):Bool:=shB x.queue&&shI x.lines
noncomputable def fSame:Fact:=factFw 23 fun x rest=>match rest with
 |[.agg l] =>match asFw l with
  |some y=>some (.req (eqFw x y) (.req (shF x) (.leaf (.bool true))))
  |none=>none
 |_=>none
def fWorks:Fact:=⟨18,fun args=>match args with
 |[] =>some (.leaf (.bool true))
 |_=>none⟩
theorem o_works:fWorks.ok Tryz.prog:=fun args t ht=>by
 simp only[fWorks]at ht
 split at ht
 ·injection ht with ht;subst ht;exact s_works
 ·cases ht
theorem new_valid{m:Ma}{c d:Co}{g h:Gu}{cold:Int}(k:newOk m c d g h cold=true):validF (newF m c d g h cold)=true:=by
 obtain⟨k1,k2,k3,k4,k5,k6,k7,k8⟩:=newOk_iff.1 k
 refine vf_mk (partsB_iff.2 ⟨k1,k2,k3,k4,k5⟩) (by show 1≤(1:Int)∧(1:Int)≤3;omega) (numsB_iff.2 ?_) ?_ (queued_idle rfl rfl rfl rfl (show near4 z4=true by decide) (show near4 z4=true by decide)) (.inr ⟨rfl,rfl⟩)
 ·show((-16777216:Int)≤0∧(0:Int)≤16777216)∧((-16777216:Int)≤0∧(0:Int)≤16777216)∧((-16777216:Int)≤0∧(0:Int)≤16777216)∧((-16777216:Int)≤0∧(0:Int)≤16777216)∧((0:Int)≤0∧(0:Int)≤1048576)∧((0:Int)≤0∧(0:Int)≤1048576)∧((0:Int)≤0∧(0:Int)≤3)∧((0:Int)≤0∧(0:Int)≤255)∧((0:Int)≤0∧(0:Int)≤1099511627776)∧((0:Int)≤0∧(0:Int)≤1099511627776)∧((0:Int)≤0∧(0:Int)≤1099511627776)∧0≤cold∧cold≤400000
  omega
 ·rw[movesB_off rfl];exact stillB_zero rfl rfl
theorem small_at{l:List OpT}{m:Int}(h:smallB l m=true){i:Nat}(hi:i<l.length):opN (l.getD i dOp)≤40:=(smallB_iff.1 h).1 i hi
def suC(m:Ma)(c d:Co)(g h:Gu)(cold:Int):List SV:=m.cells++(c.cells++(d.cells++(g.cells++(h.cells++[I64 cold]))))
def keepN(n:Nat)(a b:List Nat):List Item→List Bool:=fun items=>match Nat.ble items.length 5 with
 |true=>keepS n a items
 |false=>keepS n b items
def li0_p:Plan:=.fork (.ln 4 (.fork .all .all)) (.ln 4 (.lit .all))
noncomputable def li0_t(m:Ma)(c d:Co)(g h:Gu)(cold:Int)(l:List OpT):Tree Stop:= .node (newOk m c d g h cold) (.req (lenOk l) (.node (!smallB l 40) (.leaf (.done (.bool true))) (.leaf (.at (loopOf Tryz.prog 9 0) 178 (slotsS 178 [(1,LO l),(2,.ptr 0 0),(5,.ptr 1 0),(7,.int .i64 0),(8,.ptr 2 0),(9,.int .i64 0)]) [some (.cells (suC m c d g h cold)),some (.cells (Fw.cells (newF m c d g h cold))),some (.cells [.int .i64 0,.int .i64 0,.int .i64 0,.int .i64 0])])))) (.leaf (.done (.bool true)))
theorem li0(m:Ma)(c d:Co)(g h:Gu)(cold:Int)(l:List OpT):segR (Env.ofB Tryz.prog (sumOf [fNew,fSmall,fWorks,fAcpt,fTickX,fBegX,fLine53,fSpdR,fAccR,fJunR,fDomR]) (wrOf []) (pnOf []) (bxOf []) (rdOf []) (rdOf []) (rdOf []) (rdOf [])) 1000 (fnOf Tryz.prog 9) .unit (keepN 178 [1,2,5,7,8,9] [1,2,5,7,8,9,12]) (codeS Tryz.prog 9) li0_p (startS Tryz.prog 9 [.agg (m.cells++(c.cells++(d.cells++(g.cells++(h.cells++[I64 cold]))))),LO l]) [] =li0_t m c d g h cold l:=by kernel_rfl
def li1_p:Plan:=.fork (.fork (.fork (.lit (.fork (.ln 4 (.fork .all .all)) (.ln 4 (.lit .all)))) (.fork (.ln 5 (.lit .all)) (.fork (.ln 4 (.fork .all .all)) (.ln 4 (.lit .all))))) .all) (.fork (.lit .all) (.lit .all))
noncomputable def li1_t(f:Fw)(ex:Int)(cn:V4)(m:Ma)(c d:Co)(g h:Gu)(cold:Int)(l:List OpT)(i:Int):Tree Stop:=let y0:=slotsS 178 [(1,LO l),(2,.ptr 0 0),(5,.ptr 1 0),(7,.int .i64 ex),(8,.ptr 2 0),(9,.int .i64 (i64.wrap (i+1)))];let y2:=slotsS 178 [(1,LO l),(2,.ptr 0 0),(5,.ptr 1 0),(7,.int .i64 0),(8,.ptr 2 0),(9,.int .i64 (i64.wrap (i+1)))];let y5:=l.getD i.toNat dOp;let y1:=accF f (lineV f y5.2.1) (opC y5);let y6:=decide (0≤i)&&decide (i< (↑l.length:Int));let y7:=suC m c d g h cold;let y8:=loopOf Tryz.prog 9 0;let y3:Tree Stop:=.leaf (.at y8 178 y0 [some (.cells y7),some (.cells (Fw.cells y1)),some (.cells [.int .i64 cn.1,.int .i64 cn.2.1,.int .i64 cn.2.2.1,.int .i64 cn.2.2.2])]);let y4:Tree Stop:=.leaf (.at y8 178 y0 [some (.cells y7),some (.cells (Fw.cells f)),some (.cells [.int .i64 cn.1,.int .i64 cn.2.1,.int .i64 cn.2.2.1,.int .i64 cn.2.2.2])]); .node (decide (i< (↑l.length:Int))) (.req y6 (.node (y5.1==0) (.req y6 (.req (inR f.line 0 1099511627776) (.req y6 (.node (decide (accE f (lineV f y5.2.1) (opC y5)=0)) (.node (!y1.moving) (.node ((↑y1.queue.length:Int)==0) (.leaf (.at y8 178 y2 [some (.cells y7),some (.cells (Fw.cells y1)),some (.cells [.int .i64 cn.1,.int .i64 cn.2.1,.int .i64 cn.2.2.1,.int .i64 cn.2.2.2])])) y3) y3) (.node (accE f (lineV f y5.2.1) (opC y5)==0) (.leaf (.at y8 178 y2 [some (.cells y7),some (.cells [.int .i64 0,.int .i64 0,.int .i64 0,.int .i64 0,.int .i64 0,.int .i64 0,.int .i64 0,.int .i64 0,.int .i64 0,.int .i64 0,.int .i64 0,.int .i64 0,.int .i64 0,.int .i64 0,.int .i64 0,.int .i64 0,.int .i64 0,.int .i64 0,.int .i64 0,.int .i64 0,.int .i64 0,.int .i64 0,.int .i64 0,.int .i64 0,.int .i64 0,.int .i64 0,.int .i64 0,.int .i64 0,.bool false,.int .i64 0,.int .i64 0,.bool false,.int .i64 0,.int .i64 0,.int .i64 0,.int .i64 0,.int .i64 0,.int .i64 0,.int .i64 0,.int .i64 0,.int .i64 0,.list tyBk fw0.queue,.list (Ty.int IntKind.i64) fw0.lines,.int .i64 0,.int .i64 0,.int .i64 0,.int .i64 0,.int .i64 0,.int .i64 0,.int .i64 0,.int .i64 0,.int .i64 0,.int .i64 0,.bool false,.int .i64 0,.bool false,.int .i64 0,.int .i64 0,.int .i64 0,.int .i64 0,.int .i64 0,.int .i64 0,.int .i64 0,.int .i64 0,.int .i64 0,.int .i64 0,.int .i64 0,.int .i64 0,.int .i64 0,.int .i64 0,.int .i64 0,.int .i64 0,.int .i64 0,.int .i64 0,.int .i64 0,.int .i64 0,.int .i64 0,.int .i64 0,.int .i64 0,.int .i64 0,.int .i64 0,.int .i64 0,.int .i64 0,.int .i64 0,.bool false,.int .i64 0,.int .i64 0,.int .i64 0,.int .i64 0,.int .i64 0,.int .i64 0,.int .i64 0,.int .i64 0,.int .i64 0,.int .i64 0,.bool false,.int .i64 0,.int .i64 0,.int .i64 0,.int .i64 0,.int .i64 0,.int .i64 0]),some (.cells [.int .i64 cn.1,.int .i64 cn.2.1,.int .i64 cn.2.2.1,.int .i64 cn.2.2.2])])) (.node (!f.moving) (.node ((↑f.queue.length:Int)==0) (.leaf (.at y8 178 y2 [some (.cells y7),some (.cells (Fw.cells f)),some (.cells [.int .i64 cn.1,.int .i64 cn.2.1,.int .i64 cn.2.2.1,.int .i64 cn.2.2.2])])) y4) y4)))))) (.leaf (.at (loopOf Tryz.prog 9 1) 178 (slotsS 178 [(1,LO l),(2,.ptr 0 0),(5,.ptr 1 0),(7,.int .i64 ex),(8,.ptr 2 0),(9,.int .i64 i),(12,.int .i64 0)]) [some (.cells y7),some (.cells (Fw.cells f)),some (.cells [.int .i64 cn.1,.int .i64 cn.2.1,.int .i64 cn.2.2.1,.int .i64 cn.2.2.2])])))) (.node (decide (dom cn≥0)) (.leaf (.done (.bool true))) (.leaf (.done (.bool false))))
theorem li1(f:Fw)(ex:Int)(cn:V4)(m:Ma)(c d:Co)(g h:Gu)(cold:Int)(l:List OpT)(i:Int):segR (Env.ofB Tryz.prog (sumOf [fNew,fSmall,fWorks,fAcpt,fTickX,fBegX,fLine53,fSpdR,fAccR,fJunR,fDomR]) (wrOf []) (pnOf []) (bxOf []) (rdOf []) (rdOf []) (rdOf []) (rdOf [])) 1000 (fnOf Tryz.prog 9) .unit (keepN 178 [1,2,5,7,8,9] [1,2,5,7,8,9,12]) (loopOf Tryz.prog 9 0) li1_p (slotsS 178 [(1,LO l),(2,.ptr 0 0),(5,.ptr 1 0),(7,I64 ex),(8,.ptr 2 0),(9,I64 i)]) [some (.cells (suC m c d g h cold)),some (.cells f.cells),some (.cells (V4.cells cn))] =li1_t f ex cn m c d g h cold l i:=by kernel_rfl
def li2_p:Plan:=.fork (.fork (.ln 3 (.fork (.fork (.ln 20 (.lit .all)) (.ln 6 (.fork (.ln 13 (.lit .all)) (.ln 8 (.fork (.ln 4 (.lit .all)) (.ln 4 (.fork .all (.fork (.ln 6 (.fork .all (.fork (.ln 4 (.fork .all .all)) (.ln 4 (.lit .all))))) (.ln 7 (.fork (.ln 4 (.fork .all .all)) (.ln 4 (.lit .all)))))))))))) (.fork (.ln 4 (.fork .all .all)) (.ln 4 (.lit .all))))) (.ln 4 (.fork (.ln 4 (.fork .all .all)) (.ln 4 (.lit .all))))) .all
noncomputable def li2_t(f:Fw)(ex:Int)(cn:V4)(m:Ma)(c d:Co)(g h:Gu)(cold:Int)(l:List OpT)(i k:Int):Tree Stop:=let y2:=tickF f (l.getD i.toNat dOp).2.2.2.2.1 (l.getD i.toNat dOp).2.2.2.2.2;let y6:Tree Stop:=.leaf (.done (.bool false));let y7:=(12,.int .i64 (i64.wrap (k+1)));let y5:=slotsS 178 [(1,LO l),(2,.ptr 0 0),(5,.ptr 1 0),(7,.int .i64 0),(8,.ptr 2 0),(9,.int .i64 i),y7];let y8:=suC m c d g h cold;let y9:=loopOf Tryz.prog 9 1;let y3:Tree Stop:=.leaf (.at y9 178 (slotsS 178 [(1,LO l),(2,.ptr 0 0),(5,.ptr 1 0),(7,.int .i64 (begX f).mo.1.2.2.2.2),(8,.ptr 2 0),(9,.int .i64 i),y7]) [some (.cells y8),some (.cells (Fw.cells y2)),some (.cells [.int .i64 (begX f).mo.1.1.1,.int .i64 (begX f).mo.1.1.2.1,.int .i64 (begX f).mo.1.1.2.2.1,.int .i64 (begX f).mo.1.1.2.2.2])]);let y0:Tree Stop:=.node (!y2.moving) (.node ((↑y2.queue.length:Int)==0) (.leaf (.at y9 178 y5 [some (.cells y8),some (.cells (Fw.cells y2)),some (.cells [.int .i64 (begX f).mo.1.1.1,.int .i64 (begX f).mo.1.1.2.1,.int .i64 (begX f).mo.1.1.2.2.1,.int .i64 (begX f).mo.1.1.2.2.2])])) y3) y3;let y4:Tree Stop:=.leaf (.at y9 178 (slotsS 178 [(1,LO l),(2,.ptr 0 0),(5,.ptr 1 0),(7,.int .i64 ex),(8,.ptr 2 0),(9,.int .i64 i),y7]) [some (.cells y8),some (.cells (Fw.cells y2)),some (.cells [.int .i64 cn.1,.int .i64 cn.2.1,.int .i64 cn.2.2.1,.int .i64 cn.2.2.2])]);let y1:Tree Stop:=.node (!y2.moving) (.node ((↑y2.queue.length:Int)==0) (.leaf (.at y9 178 y5 [some (.cells y8),some (.cells (Fw.cells y2)),some (.cells [.int .i64 cn.1,.int .i64 cn.2.1,.int .i64 cn.2.2.1,.int .i64 cn.2.2.2])])) y4) y4; .req (decide (0≤i)&&decide (i< (↑l.length:Int))) (.node (decide (k< (l.getD i.toNat dOp).2.2.2.1)) (.req (decide (0≤i)&&decide (i< (↑l.length:Int))) (.node (begB f) (.node (y2.mode != 3) (.req true (.node (f.moving) y6 (.node (decide ((begX f).mo.1.2.2.2.1>i64.wrap (spdV m (begX f).mo.1.1 0 0*spdV m (begX f).mo.1.1 0 0))) y6 (.node ((begX f).mo.1.2.1 != accV m (begX f).mo.1.1) y6 (.node ((begX f).mo.1.2.2.1 != ex) y6 (.node (decide (ex>0)) (.node (decide ((begX f).mo.1.2.2.1>i64.wrap (junV m cn (begX f).mo.1.1*junV m cn (begX f).mo.1.1))) y6 y0) y0)))))) y1) y1)) (.leaf (.at (loopOf Tryz.prog 9 0) 178 (slotsS 178 [(1,LO l),(2,.ptr 0 0),(5,.ptr 1 0),(7,.int .i64 ex),(8,.ptr 2 0),(9,.int .i64 (i64.wrap (i+1)))]) [some (.cells y8),some (.cells (Fw.cells f)),some (.cells [.int .i64 cn.1,.int .i64 cn.2.1,.int .i64 cn.2.2.1,.int .i64 cn.2.2.2])])))
theorem li2(f:Fw)(ex:Int)(cn:V4)(m:Ma)(c d:Co)(g h:Gu)(cold:Int)(l:List OpT)(i k:Int):segR (Env.ofB Tryz.prog (sumOf [fNew,fSmall,fWorks,fAcpt,fTickX,fBegX,fLine53,fSpdR,fAccR,fJunR,fDomR]) (wrOf []) (pnOf []) (bxOf []) (rdOf []) (rdOf []) (rdOf []) (rdOf [])) 1000 (fnOf Tryz.prog 9) .unit (keepN 178 [1,2,5,7,8,9] [1,2,5,7,8,9,12]) (loopOf Tryz.prog 9 1) li2_p (slotsS 178 [(1,LO l),(2,.ptr 0 0),(5,.ptr 1 0),(7,I64 ex),(8,.ptr 2 0),(9,I64 i),(12,I64 k)]) [some (.cells (suC m c d g h cold)),some (.cells f.cells),some (.cells (V4.cells cn))] =li2_t f ex cn m c d g h cold l i k:=by kernel_rfl
section
variable {f:Fw} {line r s:Int} {c:Gc.C}
theorem doF_ma:(doF f line c).ma=f.ma:=by
 have lf:(lineF f line).ma=f.ma:=by unfold lineF;split<;>rfl
 have ff:(feedF f c).ma=f.ma:=by unfold feedF;split<;>rfl
 by_cases k1:c.code=1112
 ·rw[doF_1112 k1];exact lf
 by_cases k2:c.code=1999
 ·unfold doF;rw[if_neg k1,if_pos k2];rfl
 by_cases k3:c.code=1025
 ·unfold doF;rw[if_neg k1,if_neg k2,if_pos k3]
 by_cases k4:c.code=1024
 ·unfold doF;rw[if_neg k1,if_neg k2,if_neg k3,if_pos k4]
 rw[d_late ⟨k1,k2,k4,k3⟩]
 split
 ·unfold moveF tlF
  split
  ·exact ff
  ·exact ff
 ·split
  ·rfl
  ·split
   ·unfold homeF
    split
    ·rfl
    ·show(backF (backF (home0 f line) (homeC f line)) (homeD f line)).ma=_
     rw[backF_ma,backF_ma];rfl
   ·repeat' (first|rfl|split)
theorem acc_ma:(accF f line c).ma=f.ma:=(accF_same (f:=f) (line:=line) (c:=c)).1.trans doF_ma
theorem tick_ma:(tickF f r s).ma=f.ma:=by
 have b:∀g:Fw,(begF g).ma=g.ma:=fun g=>by unfold begF;split<;>rfl
 have t:∀g:Fw,(stepF g).ma=g.ma:=fun g=>by unfold stepF;split<;>rfl
 have h:(hotF f r s).ma=f.ma:=by
  show(lostF (readF f r s)).ma=f.ma
  unfold lostF;split<;>rfl
 unfold tickF;split
 ·rfl
 ·split
  ·exact h
  ·rw[←h]
   unfold runF;split
   ·rfl
   ·split
    ·rw[t,b]
    ·exact b _
end
theorem kLP:Known Tryz.prog (Env.ofB Tryz.prog (sumOf [fNew,fSmall,fWorks,fAcpt,fTickX,fBegX,fLine53,fSpdR,fAccR,fJunR,fDomR]) (wrOf []) (pnOf []) (bxOf []) (rdOf []) (rdOf []) (rdOf []) (rdOf [])):=
 hB (l:=[fNew,fSmall,fWorks,fAcpt,fTickX,fBegX,fLine53,fSpdR,fAccR,fJunR,fDomR]) (k:=[]) (j:=[]) (i:=[]) [] [] [] [] ⟨o_new,o_small,o_works,o_acpt,o_tickX,o_begX,o_line53,o_spdR,o_accR,o_junR,o_domR,trivial⟩ noneOk noneOk noneOk
structure Li (m:Ma) (f:Fw) (ex:Int) (cn:V4):Prop where
 v:validF f=true
 ma:f.ma=m
 l:Lm f ex cn
theorem exitX_0{f:Fw}{ex:Int}(h:f.moving=false)(k:f.queue.length=0):exitX f ex=0:=if_pos ⟨h,k⟩
theorem exitX_q{f:Fw}{ex:Int}(k:¬f.queue.length=0):exitX f ex=ex:=if_neg (fun h=>k h.2)
theorem exitX_m{f:Fw}{ex:Int}(h:f.moving=true):exitX f ex=ex:=if_neg (fun k=>by rw[h]at k;cases k.1)
section
variable {m:Ma} {c d:Co} {g h:Gu} {cold:Int} {l:List OpT}
abbrev L1(m:Ma)(c d:Co)(g h:Gu)(cold:Int)(l:List OpT)(f:Fw)(ex:Int)(cn:V4)(i:Int):Prop:=RunsR Tryz.prog (fnOf Tryz.prog 9) (.bool true) (loopOf Tryz.prog 9 0) (slotsS 178 [(1,LO l),(2,.ptr 0 0),(5,.ptr 1 0),(7,I64 ex),(8,.ptr 2 0),(9,I64 i)]) [some (.cells (suC m c d g h cold)),some (.cells f.cells),some (.cells (V4.cells cn))]
abbrev L2(m:Ma)(c d:Co)(g h:Gu)(cold:Int)(l:List OpT)(f:Fw)(ex:Int)(cn:V4)(i k:Int):Prop:=RunsR Tryz.prog (fnOf Tryz.prog 9) (.bool true) (loopOf Tryz.prog 9 1) (slotsS 178 [(1,LO l),(2,.ptr 0 0),(5,.ptr 1 0),(7,I64 ex),(8,.ptr 2 0),(9,I64 i),(12,I64 k)]) [some (.cells (suC m c d g h cold)),some (.cells f.cells),some (.cells (V4.cells cn))]
theorem li2_loop{i:Nat}(hi:i<l.length)(hl:l.length≤40)(hn:(l.getD i dOp).2.2.2.1≤40)(nx:∀ (f:Fw) (ex:Int) (cn:V4),Li m f ex cn→L1 m c d g h cold l f ex cn (i64.wrap ((i:Int)+1))):∀ (j k:Nat) (f:Fw) (ex:Int) (cn:V4),Li m f ex cn→k+j=((l.getD i dOp).2.2.2.1).toNat→L2 m c d g h cold l f ex cn i k
 |0,k,f,ex,cn,v,hk=>by
  refine runsR_seg kLP (n:=1000) (hint:=.unit) (keep:=keepN 178 [1,2,5,7,8,9] [1,2,5,7,8,9,12]) (p:=li2_p) rfl ?_
  erw [li2 f ex cn m c d g h cold l i k]
  unfold li2_t
  have t0:(i:Int).toNat=i:=by omega
  rw[t0]
  exact n_req (by simp;omega) (n_dec (fun a=>absurd a (by omega)) fun _=>⟨slotsS_len _ _,nx f ex cn v⟩)
 |j+1,k,f,ex,cn,v,hk=>by
  refine runsR_seg kLP (n:=1000) (hint:=.unit) (keep:=keepN 178 [1,2,5,7,8,9] [1,2,5,7,8,9,12]) (p:=li2_p) rfl ?_
  erw [li2 f ex cn m c d g h cold l i k]
  unfold li2_t
  have t0:(i:Int).toNat=i:=by omega
  have w1:i64.wrap ((k:Int)+1)=((k+1:Nat):Int):=by rw[w64 (by omega) (by omega)];omega
  rw[t0,w1]
  generalize hr:(l.getD i dOp).2.2.2.2.1=r
  generalize hs:(l.getD i dOp).2.2.2.2.2=s
  have tv:=tick_valid (r:=r) (s:=s) v.v
  have tm:(tickF f r s).ma=m:=tick_ma.trans v.ma
  have ih:=fun ex' cn' (q:Lm (tickF f r s) ex' cn')=>li2_loop hi hl hn nx j (k+1) (tickF f r s) ex' cn' ⟨tv,tm,q⟩ (by omega)
  have un:canStart f=false∨(tickF f r s).mode=3→∀e,exitX (tickF f r s) ex=e→L2 m c d g h cold l (tickF f r s) e cn i ((k+1:Nat):Int):=fun q e he=>ih e cn (by rw[←he];exact tick_none v.v q v.l)
  have bg:canStart f=true→¬(tickF f r s).mode=3→∀e,exitX (tickF f r s) (f.q 0).2.2.2.2=e→L2 m c d g h cold l (tickF f r s) e (f.q 0).1 i ((k+1:Nat):Int):=fun q n e he=>ih e _ (by rw[←he];exact tick_start v.v q n v.l)
  refine n_req (by simp;omega) (n_dec (fun a=>n_req (by simp;omega) (n_bool (fun b=>?_) fun b=>?_)) fun a=>absurd (show(k:Int)< (l.getD i dOp).2.2.2.1 by omega) a)
  ·have cs:canStart f=true:=((Bool.and_eq_true _ _).mp b).2
   have bx:(begX f).mo.1=f.q 0:=by
    rw[begX_yes v.v,begF_yes cs,(start_mo v.v cs).2];rfl
   obtain⟨c1,c2,c3,c4⟩:=canStart_iff.1 cs
   refine n_ne (fun mo=>?_) fun mo=>?_
   ·have bq:=v.l.blk 0 (by omega)
    rw[v.ma]at bq
    have ok:okL m (f.q 0).1=true:=okL_iff.2 ⟨by rw[←v.ma];exact(vf_of v.v).ma,(soundB_iff.1 ((vf_of v.v).sound _ (by
     show f.queue.getD 0 dBk∈f.queue
     rw[List.getD_eq_getElem?_getD,List.getElem?_eq_getElem (by omega)];exact List.getElem_mem _))).1⟩
    have sr:=spdV_rng ok (l:=0) (f:=0) (by omega) (by omega)
    have jr:=junV_rng m cn (f.q 0).1
    have hd:=v.l.head (by omega)
    rw[bx,wsq (v:=spdV m (f.q 0).1 0 0) (by omega),wsq jr]
    have go:=bg cs mo
    refine n_req rfl (n_bool (fun z=>by rw[c1]at z;cases z) fun _=>n_dec (fun z=>absurd bq.1 (by omega)) fun _=>n_ne (fun z=>absurd bq.2 z) fun _=>n_ne (fun z=>absurd hd z) fun _=>n_dec (fun z=>n_dec (fun y=>?_) fun _=>?_) fun z=>?_)
    ·have:=v.l.jun0 (by omega) z
     rw[v.ma]at this;omega
    ·exact n_not (fun a1=>n_eq (fun a2=>⟨slotsS_len _ _,go 0 (exitX_0 a1 (by omega))⟩) fun a2=>⟨slotsS_len _ _,go _ (exitX_q (by omega))⟩) fun a1=>⟨slotsS_len _ _,go _ (exitX_m a1)⟩
    ·exact n_not (fun a1=>n_eq (fun a2=>⟨slotsS_len _ _,go 0 (exitX_0 a1 (by omega))⟩) fun a2=>⟨slotsS_len _ _,go _ (exitX_q (by omega))⟩) fun a1=>⟨slotsS_len _ _,go _ (exitX_m a1)⟩
   ·have go:=un (.inr mo)
    exact n_not (fun a1=>n_eq (fun a2=>⟨slotsS_len _ _,go 0 (exitX_0 a1 (by omega))⟩) fun a2=>⟨slotsS_len _ _,go _ (exitX_q (by omega))⟩) fun a1=>⟨slotsS_len _ _,go _ (exitX_m a1)⟩
  ·have cs:canStart f=false:=by
    unfold begB at b;rw[v.v,Bool.true_and]at b;exact b
   have go:=un (.inl cs)
   exact n_not (fun a1=>n_eq (fun a2=>⟨slotsS_len _ _,go 0 (exitX_0 a1 (by omega))⟩) fun a2=>⟨slotsS_len _ _,go _ (exitX_q (by omega))⟩) fun a1=>⟨slotsS_len _ _,go _ (exitX_m a1)⟩
set_option maxHeartbeats 1000000 in
theorem li1_loop(hs:smallB l 40=true):∀ (k i:Nat) (f:Fw) (ex:Int) (cn:V4),Li m f ex cn→i+k=l.length→L1 m c d g h cold l f ex cn i
 |0,i,f,ex,cn,v,hi=>by
  refine runsR_seg kLP (n:=1000) (hint:=.unit) (keep:=keepN 178 [1,2,5,7,8,9] [1,2,5,7,8,9,12]) (p:=li1_p) rfl ?_
  erw [li1 f ex cn m c d g h cold l i]
  unfold li1_t
  have dr:=dom_range cn
  refine n_dec (fun a=>absurd a (by omega)) fun _=>?_
  first
   |exact n_dec (fun _=>rfl) fun z=>absurd (show dom cn≥0 by omega) z
   |exact rfl
 |k+1,i,f,ex,cn,v,hi=>by
  refine runsR_seg kLP (n:=1000) (hint:=.unit) (keep:=keepN 178 [1,2,5,7,8,9] [1,2,5,7,8,9,12]) (p:=li1_p) rfl ?_
  erw [li1 f ex cn m c d g h cold l i]
  unfold li1_t
  have ln:=(smallB_iff.1 hs).2
  have t0:(i:Int).toNat=i:=by omega
  have w1:i64.wrap ((i:Int)+1)=((i+1:Nat):Int):=by rw[w64 (by omega) (by omega)];omega
  have n40:(l.getD i dOp).2.2.2.1≤40:=small_at hs (by omega)
  have li:inR f.line 0 1099511627776=true:=inR_iff.2 (by have:=(vf_of v.v).nums;omega)
  have nx:∀ (f:Fw) (ex:Int) (cn:V4),Li m f ex cn→L1 m c d g h cold l f ex cn (i64.wrap ((i:Int)+1)):=fun f ex cn v=>by rw[w1];exact li1_loop hs k (i+1) f ex cn v (by omega)
  have ga:accE f (lineV f (l.getD i dOp).2.1) (opC (l.getD i dOp))=0→∀e,exitX (accF f (lineV f (l.getD i dOp).2.1) (opC (l.getD i dOp))) ex=e→L1 m c d g h cold l (accF f (lineV f (l.getD i dOp).2.1) (opC (l.getD i dOp))) e cn (i64.wrap ((i:Int)+1)):=fun z e he=>nx _ _ _ ⟨acc_valid z,acc_ma.trans v.ma,by rw[←he];exact acc_lm z v.l⟩
  have gf:∀e,exitX f ex=e→L1 m c d g h cold l f e cn (i64.wrap ((i:Int)+1)):=fun e he=>nx _ _ _ ⟨v.v,v.ma,by rw[←he];exact v.l.rest⟩
  have g2:L2 m c d g h cold l f ex cn i (0:Nat):=li2_loop (by omega) (by omega) n40 nx _ 0 f ex cn v (Nat.zero_add _)
  rw[t0]
  refine n_dec (fun a=>n_req (by simp;omega) (n_eq (fun _=>?_) fun _=>⟨slotsS_len _ _,g2⟩)) fun a=>absurd (show(i:Int)<l.length by omega) a
  generalize accF f (lineV f (l.getD i dOp).2.1) (opC (l.getD i dOp))=F at ga ⊢
  generalize accE f (lineV f (l.getD i dOp).2.1) (opC (l.getD i dOp))=e at ga ⊢
  repeat' first
   |refine n_req li ?_
   |refine n_req (by simp;omega) ?_
   |refine n_eq (fun _=>?_) (fun _=>?_)
   |refine n_ne (fun _=>?_) (fun _=>?_)
   |refine n_dec (fun _=>?_) (fun _=>?_)
   |refine n_not (fun _=>?_) (fun _=>?_)
  all_goals first
   |(exfalso;omega)
   |exact⟨slotsS_len _ _,ga (by omega) 0 (exitX_0 (by assumption) (by omega))⟩
   |exact⟨slotsS_len _ _,ga (by omega) _ (exitX_q (by omega))⟩
   |exact⟨slotsS_len _ _,ga (by omega) _ (exitX_m (by assumption))⟩
   |exact⟨slotsS_len _ _,gf 0 (exitX_0 (by assumption) (by omega))⟩
   |exact⟨slotsS_len _ _,gf _ (exitX_q (by omega))⟩
   |exact⟨slotsS_len _ _,gf _ (exitX_m (by assumption))⟩
theorem s_lawLimits(m:Ma)(c d:Co)(g h:Gu)(cold:Int)(l:List OpT)(hl:l.length≤maxLen):SCall Tryz.prog 9 [.agg (m.cells++(c.cells++(d.cells++(g.cells++(h.cells++[I64 cold]))))),LO l] (.bool true):=by
 refine scallR_loops rfl rfl (by kernel_rfl) (runsR_seg kLP (n:=1000) (hint:=.unit) (keep:=keepN 178 [1,2,5,7,8,9] [1,2,5,7,8,9,12]) (p:=li0_p) (boxes:=[]) rfl ?_)
 have q:=li0 m c d g h cold l
 unfold startS codeS at q
 erw [q]
 unfold li0_t
 exact n_bool (fun k=>n_req (lenOk_iff.2 hl) (n_not (fun _=>rfl) fun s=>⟨slotsS_len _ _,li1_loop s l.length 0 _ 0 z4 ⟨new_valid k,rfl,Lm.idle rfl rfl⟩ (by omega)⟩)) fun _=>rfl
end
end Go.Proofs.YtnkaepnblikcdaaGreat
