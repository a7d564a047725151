/-
  What the statement needs: an evaluator of the model, contracts of the functions that it reaches, and the plain law.
-/
import Derived.Test.YtnkaepnblikcdaaGreatZA6
set_option maxRecDepth 100000
set_option linter.unusedVariables false
set_option linter.unusedSimpArgs false
open Go.IntKind (i64 u64)
namespace Go.Proofs.YtnkaepnblikcdaaGreat
open Go.Sx
abbrev CmdT:=Int×Int×Int×Int×Int×Int×Int×Int
abbrev OpT:=Int×Bool×CmdT×Int×Int×Int
abbrev tyOp:Ty:=.pair (.int .i64) (.pair .bool (.pair (.pair (.int .i64) (.pair (.int .i64) (.pair (.int .i64) (.pair (.int .i64) (.pair (.int .i64) (.pair (.int .i64) (.pair (.int .i64) (.int .i64)))))))) (.pair (.int .i64) (.pair (.int .i64) (.int .i64)))))
abbrev LO(l:List OpT):SV:=.list tyOp l
def dOp:OpT:=(0,false,(0,0,0,0,0,0,0,0),0,0,0)
def sm0_p:Plan:=.all
noncomputable def sm0_t(l:List OpT)(m:Int):Tree Stop:= .leaf (.at (loopOf Tryz.prog 17 0) 27 (slotsS 27 [(0,.list ((Ty.int IntKind.i64).pair (Ty.bool.pair (((Ty.int IntKind.i64).pair ((Ty.int IntKind.i64).pair ((Ty.int IntKind.i64).pair ((Ty.int IntKind.i64).pair ((Ty.int IntKind.i64).pair ((Ty.int IntKind.i64).pair ((Ty.int IntKind.i64).pair (Ty.int IntKind.i64)))))))).pair ((Ty.int IntKind.i64).pair ((Ty.int IntKind.i64).pair (Ty.int IntKind.i64)))))) l),(1,.int .i64 m),(5,.int .i64 0)]) [])
theorem sm0(l:List OpT)(m:Int):segR (Env.of Tryz.prog (sumOf [])) 1000 (fnOf Tryz.prog 17) .unit (keepS 27 [0,1,5]) (codeS Tryz.prog 17) sm0_p (startS Tryz.prog 17 [LO l,I64 m]) [] =sm0_t l m:=by kernel_rfl
def sm1_p:Plan:=.fork (.ln 3 (.fork (.fork .all .all) .all)) (.ln 3 (.lit .all))
noncomputable def sm1_t(l:List OpT)(m i:Int):Tree Stop:= .node (decide (i< (↑l.length:Int))) (.node (decide (i<m)) (.req (decide (0≤i)&&decide (i< (↑l.length:Int))) (.node (decide ((l.getD i.toNat tyOp.dflt).2.2.2.1>40)) (.leaf (.done (.bool false))) (.leaf (.at (loopOf Tryz.prog 17 0) 27 (slotsS 27 [(0,.list ((Ty.int IntKind.i64).pair (Ty.bool.pair (((Ty.int IntKind.i64).pair ((Ty.int IntKind.i64).pair ((Ty.int IntKind.i64).pair ((Ty.int IntKind.i64).pair ((Ty.int IntKind.i64).pair ((Ty.int IntKind.i64).pair ((Ty.int IntKind.i64).pair (Ty.int IntKind.i64)))))))).pair ((Ty.int IntKind.i64).pair ((Ty.int IntKind.i64).pair (Ty.int IntKind.i64)))))) l),(1,.int .i64 m),(5,.int .i64 (i64.wrap (i+1)))]) [])))) (.leaf (.done (.bool (decide ((↑l.length:Int)≤m)))))) (.leaf (.done (.bool (decide ((↑l.length:Int)≤m)))))
theorem sm1(l:List OpT)(m i:Int):segR (Env.of Tryz.prog (sumOf [])) 1000 (fnOf Tryz.prog 17) .unit (keepS 27 [0,1,5]) (loopOf Tryz.prog 17 0) sm1_p (slotsS 27 [(0,LO l),(1,I64 m),(5,I64 i)]) [] =sm1_t l m i:=by kernel_rfl
def opN(x:OpT):Int:=x.2.2.2.1
def opC(x:OpT):Gc.C:=⟨x.2.2.1.1,x.2.2.1.2.1,x.2.2.1.2.2.1,x.2.2.1.2.2.2.1,x.2.2.1.2.2.2.2.1,x.2.2.1.2.2.2.2.2.1,x.2.2.1.2.2.2.2.2.2.1,x.2.2.1.2.2.2.2.2.2.2⟩
def smallB(l:List OpT)(m:Int):Bool:=(l.all fun x=>decide (opN x≤40))&&decide ((l.length:Int)≤m)
theorem smallB_iff{l:List OpT}{m:Int}:smallB l m=true↔(∀i,i<l.length→opN (l.getD i dOp)≤40)∧(l.length:Int)≤m:=by
 simp only[smallB,Bool.and_eq_true,List.all_eq_true,decide_eq_true_eq]
 refine and_congr ⟨fun h i hi=>?_,fun h x hx=>?_⟩ Iff.rfl
 ·rw[List.getD_eq_getElem?_getD,List.getElem?_eq_getElem hi];exact h _ (List.getElem_mem hi)
 ·obtain⟨i,hi,rfl⟩:=List.getElem_of_mem hx
  have:=h i hi
  rw[List.getD_eq_getElem?_getD,List.getElem?_eq_getElem hi]at this;exact this
theorem k00:Known Tryz.prog (Env.of Tryz.prog (sumOf [])):=kW trivial
theorem sm_loop(l:List OpT)(m:Int)(hl:l.length≤9223372036854775807):∀ (k i:Nat),i+k=l.length→(∀t,t<i→opN (l.getD t dOp)≤40)→
  RunsR Tryz.prog (fnOf Tryz.prog 17) (.bool (smallB l m)) (loopOf Tryz.prog 17 0) (slotsS 27 [(0,LO l),(1,I64 m),(5,I64 i)]) []
 |k,i,hi,hb=>by
  refine runsR_seg k00 (n:=1000) (hint:=.unit) (keep:=keepS 27 [0,1,5]) (p:=sm1_p) rfl ?_
  erw [sm1 l m i]
  unfold sm1_t
  have t0:(i:Int).toNat=i:=by omega
  have fin:(¬(i:Int)<l.length∨¬(i:Int)<m)→SV.bool (decide ((l.length:Int)≤m))=.bool (smallB l m):=fun h=>by
   refine congrArg SV.bool (Bool.eq_iff_iff.2 ?_)
   rw[smallB_iff,decide_eq_true_eq]
   refine⟨fun a=>⟨fun t ht=>hb t (by omega),a⟩,fun a=>a.2⟩
  rw[t0]
  match k,hi with
  |0,hi=>exact n_dec (fun a=>absurd a (by omega)) fun a=>fin (.inl a)
  |k+1,hi=>
   have w1:i64.wrap ((i:Int)+1)=((i+1:Nat):Int):=by rw[w64 (by omega) (by omega)];omega
   rw[w1]
   refine n_dec (fun a=>n_dec (fun b=>n_req (by simp;omega) (n_dec (fun c=>?_) (fun c=>?_))) fun b=>fin (.inr b)) fun a=>fin (.inl a)
   ·show SV.bool false=_
    refine congrArg SV.bool (Eq.symm (Bool.eq_false_iff.2 fun h=>?_))
    have:=(smallB_iff.1 h).1 i (by omega)
    have c:opN (l.getD i dOp)>40:=c
    omega
   ·refine⟨slotsS_len _ _,sm_loop l m hl k (i+1) (by omega) fun t ht=>?_⟩
    rcases Nat.lt_or_ge t i with q|q
    ·exact hb t q
    ·obtain rfl:t=i:=by omega
     have c:¬opN (l.getD t dOp)>40:=c
     omega
theorem s_small(l:List OpT)(m:Int)(hl:l.length≤9223372036854775807):SCall Tryz.prog 17 [LO l,I64 m] (.bool (smallB l m)):=by
 refine scallR_loops rfl rfl (by kernel_rfl) (runsR_seg k00 (n:=1000) (hint:=.unit) (keep:=keepS 27 [0,1,5]) (p:=sm0_p) (boxes:=[]) rfl ?_)
 have q:=sm0 l m
 unfold startS codeS at q
 erw [q]
 unfold sm0_t
 exact⟨slotsS_len _ _,sm_loop l m hl l.length 0 (by omega) fun t ht=>absurd ht (Nat.not_lt_zero _)⟩
def lenOk(l:List OpT):Bool:=Nat.ble l.length 9223372036854775807
theorem lenOk_iff{l:List OpT}:lenOk l=true↔l.length≤9223372036854775807:=by unfold lenOk;rw[Nat.ble_eq]
def fSmall:Fact:=⟨17,fun args=>match args with
 |[.list (.pair (.int .i64) (.pair .bool (.pair (.pair (.int .i64) (.pair (.int .i64) (.pair (.int .i64) (.pair (.int .i64) (.pair (.int .i64) (.pair (.int .i64) (.pair (.int .i64) (.int .i64)))))))) (.pair (.int .i64) (.pair (.int .i64) (.int .i64)))))) l,.int .i64 m] =>some (.req (lenOk l) (.leaf (.bool (smallB l m))))
 |_=>none⟩
theorem o_small:fSmall.ok Tryz.prog:=fun args t ht=>by
 simp only[fSmall]at ht
 split at ht
 ·injection ht with ht;subst ht
  exact fun h=>s_small _ _ (lenOk_iff.1 h)
 ·cases ht
section
variable {f:Fw} {ex:Int} {cn:V4}
end
section
variable {f:Fw} {line:Int} {c:Gc.C} {ex:Int} {cn:V4}
end
section
variable {f:Fw} {r s ex:Int} {cn:V4}
theorem hot_same(l:lostB (readF f r s)=false):(hotF f r s).ma=f.ma∧(hotF f r s).queue=f.queue∧(hotF f r s).moving=f.moving∧(hotF f r s).mo=f.mo∧(hotF f r s).mode=f.mode∧(hotF f r s).dwell=f.dwell:=by
 have e:hotF f r s=waitF (heatF (readF f r s)):=by
  unfold hotF lostF;rw[l,if_neg Bool.false_ne_true]
 rw[e];exact⟨rfl,rfl,rfl,rfl,rfl,rfl⟩
theorem hot_lost(l:lostB (readF f r s)=true):(hotF f r s).mode=3∧(hotF f r s).queue=[] ∧(hotF f r s).moving=false:=by
 have e:hotF f r s=waitF {loseF (heatF (readF f r s))with mode:=3}:=by
  unfold hotF lostF;rw[if_pos l]
 rw[e];exact⟨rfl,rfl,rfl⟩
end
def Gu.lim(g:Gu):Int×Int:=(g.low,g.high)
structure Fi (f:Fw) (a b:Int×Int):Prop where
 v:validF f=true
 l0:f.g0.lim=a
 l1:f.g1.lim=b
 off:f.mode=3→f.homed=false
 on:¬f.mode=3→f.g0.fault=0∧f.g1.fault=0
section
variable {f:Fw} {line:Int} {c:Gc.C} {a b:Int×Int}
theorem lim_of{g k:Gu}(h:k.low=g.low∧k.high=g.high):k.lim=g.lim:=by unfold Gu.lim;rw[h.1,h.2]
theorem touch_fi{g:Fw}(h:g.g0.lim=a∧g.g1.lim=b∧(g.mode=3→g.homed=false)∧(¬g.mode=3→g.g0.fault=0∧g.g1.fault=0))(v:validF g=true):Fi (touchF g) a b:=by
 have vf:=vf_of v
 have t0:=Gu.touch_ok vf.g0
 have t1:=Gu.touch_ok vf.g1
 refine⟨touch_valid v,(lim_of t0.2.2).trans h.1,(lim_of t1.2.2).trans h.2.1,h.2.2.1,fun k=>?_⟩
 have:=h.2.2.2 k
 exact⟨t0.2.1.trans this.1,t1.2.1.trans this.2⟩
theorem line_fi{g:Fw}(h:Fi g a b)(hl:0≤line∧line≤1099511627776):Fi (lineF g line) a b:=by
 have v:=lineF_valid h.v hl
 unfold lineF at v ⊢
 split
 ·exact h
 ·rename_i n;rw[if_neg n]at v;exact⟨v,h.l0,h.l1,h.off,h.on⟩
theorem doF_fi(h:Fi f a b)(hc:c.valid=true)(hl:0≤line∧line≤1099511627776)(e:doE f line c=0):Fi (doF f line c) a b:=by
 have vv:=doF_valid h.v hc hl e
 have vf:=vf_of h.v
 have key:∀g:Fw,validF g=true→g.g0=f.g0→g.g1=f.g1→¬f.mode=3→¬g.mode=3→Fi g a b:=fun g v e0 e1 m k=>by
  have o:=h.on m
  exact⟨v,by rw[e0];exact h.l0,by rw[e1];exact h.l1,fun q=>absurd q k,fun _=>by rw[e0,e1];exact o⟩
 by_cases k1:c.code=1112
 ·rw[doF_1112 k1]at vv ⊢
  have vl:=vf_of (lineF_valid h.v hl)
  have gl:(lineF f line).g0=f.g0∧(lineF f line).g1=f.g1:=by unfold lineF;split<;>exact⟨rfl,rfl⟩
  have s0:=(Gu.stop_ok vl.g0).2.2
  have s1:=(Gu.stop_ok vl.g1).2.2
  refine⟨vv,?_,?_,fun _=>rfl,fun q=>absurd rfl q⟩
  ·show(lineF f line).g0.stop.lim=a
   rw[lim_of s0,gl.1];exact h.l0
  ·show(lineF f line).g1.stop.lim=b
   rw[lim_of s1,gl.2];exact h.l1
 by_cases k2:c.code=1999
 ·have d:doF f line c=resF f:=by unfold doF;rw[if_neg k1,if_pos k2]
  rw[e_res k2]at e
  obtain⟨m,r0,r1⟩:=resE_zero e
  have g0:=resG_ok vf.g0 r0
  have g1:=resG_ok vf.g1 r1
  rw[d]at vv ⊢
  exact⟨vv,(lim_of g0.2.2).trans h.l0,(lim_of g1.2.2).trans h.l1,fun q=>absurd (show(1:Int)=3 from q) (by decide),fun _=>⟨g0.2.1,g1.2.1⟩⟩
 by_cases m:f.mode=3
 ·rw[e_f3 k1 k2 m]at e;omega
 by_cases k3:c.code=1025
 ·have d:doF f line c={f with mode:=2}:=by unfold doF;rw[if_neg k1,if_neg k2,if_pos k3]
  rw[d]at vv ⊢
  exact key _ vv rfl rfl m (fun q=>absurd (show(2:Int)=3 from q) (by decide))
 by_cases k4:c.code=1024
 ·have d:doF f line c={f with mode:=1}:=by unfold doF;rw[if_neg k1,if_neg k2,if_neg k3,if_pos k4]
  rw[d]at vv ⊢
  exact key _ vv rfl rfl m (fun q=>absurd (show(1:Int)=3 from q) (by decide))
 have kk:¬c.code=1112∧¬c.code=1999∧¬c.code=1024∧¬c.code=1025:=⟨k1,k2,k4,k3⟩
 have same:(doF f line c).g0=f.g0∧(doF f line c).g1=f.g1∧(doF f line c).mode=f.mode:=by
  rw[d_late kk]
  have ff:(feedF f c).g0=f.g0∧(feedF f c).g1=f.g1∧(feedF f c).mode=f.mode:=by unfold feedF;split<;>exact⟨rfl,rfl,rfl⟩
  have bb:∀ (g:Fw) (d:V4),(backF g d).g0=g.g0∧(backF g d).g1=g.g1∧(backF g d).mode=g.mode:=fun g d=>by unfold backF;split<;>exact⟨rfl,rfl,rfl⟩
  split
  ·unfold moveF tlF
   split
   ·exact ff
   ·exact ff
  ·split
   ·exact⟨rfl,rfl,rfl⟩
   ·split
    ·unfold homeF
     split
     ·exact⟨rfl,rfl,rfl⟩
     ·have b1:=bb (home0 f line) (homeC f line)
      have b2:=bb (backF (home0 f line) (homeC f line)) (homeD f line)
      exact⟨b2.1.trans b1.1,b2.2.1.trans b1.2.1,b2.2.2.trans b1.2.2⟩
    ·repeat' (first|exact⟨rfl,rfl,rfl⟩|split)
 exact key _ vv same.1 same.2.1 m (by rw[same.2.2];exact m)
theorem acc_fi(h:Fi f a b)(e:accE f line c=0):Fi (accF f line c) a b:=by
 obtain⟨h1,h2,h3,h4,h5⟩:=accE_zero e
 have hl:=acc_line e
 have d:=doF_fi h h2 hl h5
 unfold accF
 have k:Fi (if c.code=1112 then doF f line c else lineF (doF f line c) line) a b:=by
  split
  ·exact d
  ·exact line_fi d hl
 exact touch_fi ⟨k.l0,k.l1,k.off,k.on⟩ k.v
theorem acc_fault(m:f.mode=3)(e:accE f line c=0):c.code=1112∨c.code=1999:=by
 obtain⟨h1,h2,h3,h4,h5⟩:=accE_zero e
 by_cases k1:c.code=1112
 ·exact .inl k1
 by_cases k2:c.code=1999
 ·exact .inr k2
 rw[e_f3 k1 k2 m]at h5;omega
end
section
variable {f:Fw} {r s:Int} {a b:Int×Int}
theorem run_same:(runF f).mode=f.mode∧(runF f).homed=f.homed∧(runF f).g0=f.g0∧(runF f).g1=f.g1:=by
 have b:∀g:Fw,(begF g).mode=g.mode∧(begF g).homed=g.homed∧(begF g).g0=g.g0∧(begF g).g1=g.g1:=fun g=>by unfold begF;split<;>exact⟨rfl,rfl,rfl,rfl⟩
 have s:∀g:Fw,(stepF g).mode=g.mode∧(stepF g).homed=g.homed∧(stepF g).g0=g.g0∧(stepF g).g1=g.g1:=fun g=>by unfold stepF;split<;>exact⟨rfl,rfl,rfl,rfl⟩
 unfold runF;split
 ·exact⟨rfl,rfl,rfl,rfl⟩
 ·split
  ·have x:=s (begF f)
   have y:=b f
   exact⟨x.1.trans y.1,x.2.1.trans y.2.1,x.2.2.1.trans y.2.2.1,x.2.2.2.trans y.2.2.2⟩
  ·exact b f
theorem hot_fi(h:Fi f a b):Fi (hotF f r s) a b:=by
 have hv:=hot_valid (r:=r) (s:=s) h.v
 have vr:=vf_of (read_valid (r:=r) (s:=s) h.v)
 have s0:=Gu.step_ok vr.g0 (readF f r s).r0 ((readF f r s).c0.step (readF f r s).r0).target ((readF f r s).c0.duty (readF f r s).r0)
 have s1:=Gu.step_ok vr.g1 (readF f r s).r1 ((readF f r s).c1.step (readF f r s).r1).target ((readF f r s).c1.duty (readF f r s).r1)
 have q0:(heatF (readF f r s)).g0.lim=a:=(lim_of ⟨s0.2.1,s0.2.2.1⟩).trans h.l0
 have q1:(heatF (readF f r s)).g1.lim=b:=(lim_of ⟨s1.2.1,s1.2.2.1⟩).trans h.l1
 cases l:lostB (readF f r s)with
 |true=>
  have e:hotF f r s=waitF {loseF (heatF (readF f r s))with mode:=3}:=by unfold hotF lostF;rw[if_pos l]
  rw[e]at hv ⊢
  exact⟨hv,q0,q1,fun _=>rfl,fun k=>absurd rfl k⟩
 |false=>
  have e:hotF f r s=waitF (heatF (readF f r s)):=by unfold hotF lostF;rw[l,if_neg Bool.false_ne_true]
  rw[e]at hv ⊢
  refine⟨hv,q0,q1,h.off,fun k=>?_⟩
  have o:=h.on k
  have n:¬lostB (readF f r s)=true:=by rw[l];exact Bool.false_ne_true
  rw[lostB_iff]at n
  refine⟨?_,?_⟩
  ·rcases Int.lt_trichotomy ((heatF (readF f r s)).g0.fault) 0 with x|x|x
   ·exact absurd (.inl ⟨o.1,fun y=>by have:(heatF (readF f r s)).g0.fault=0:=y;omega⟩) n
   ·exact x
   ·exact absurd (.inl ⟨o.1,fun y=>by have:(heatF (readF f r s)).g0.fault=0:=y;omega⟩) n
  ·rcases Int.lt_trichotomy ((heatF (readF f r s)).g1.fault) 0 with x|x|x
   ·exact absurd (.inr ⟨o.2,fun y=>by have:(heatF (readF f r s)).g1.fault=0:=y;omega⟩) n
   ·exact x
   ·exact absurd (.inr ⟨o.2,fun y=>by have:(heatF (readF f r s)).g1.fault=0:=y;omega⟩) n
theorem tick_fi(h:Fi f a b):Fi (tickF f r s) a b:=by
 have hv:=tick_valid (r:=r) (s:=s) h.v
 have ht:=hot_fi (r:=r) (s:=s) h
 unfold tickF at hv ⊢
 rw[h.v,if_neg (by decide)]at hv ⊢
 split
 ·exact ht
 ·rename_i k
  rw[if_neg k]at hv
  obtain⟨e1,e2,e3,e4⟩:=run_same (f:=hotF f r s)
  exact⟨hv,by rw[e3];exact ht.l0,by rw[e4];exact ht.l1,by rw[e1,e2];exact ht.off,by rw[e1,e3,e4];exact ht.on⟩
theorem hot_mode3(h:Fi f a b)(k:f.mode=3∨(r<a.1∨a.2<r)∨(s<b.1∨b.2<s)):(hotF f r s).mode=3:=by
 cases l:lostB (readF f r s)with
 |true=>exact(hot_lost l).1
 |false=>
  have m:=(hot_same l).2.2.2.2.1
  by_cases m3:f.mode=3
  ·exact m.trans m3
  ·exfalso
   have vf:=vf_of h.v
   have o:=h.on m3
   have n:¬lostB (readF f r s)=true:=by rw[l];exact Bool.false_ne_true
   rw[lostB_iff]at n
   rcases k with k|k|k
   ·exact m3 k
   ·have l0:(f.g0.low,f.g0.high)=a:=h.l0
    have q:r<f.g0.low∨f.g0.high<r:=by rw[←l0]at k;exact k
    exact n (.inl ⟨o.1,Gu.step_out vf.g0 o.1 q _ _⟩)
   ·have l1:(f.g1.low,f.g1.high)=b:=h.l1
    have q:s<f.g1.low∨f.g1.high<s:=by rw[←l1]at k;exact k
    exact n (.inr ⟨o.2,Gu.step_out vf.g1 o.2 q _ _⟩)
theorem tick_out(h:Fi f a b)(k:f.mode=3∨(r<a.1∨a.2<r)∨(s<b.1∨b.2<s)):tickQ f r s=z4∧tickD f r s=(0,0)∧(tickF f r s).mode=3:=by
 have m:=hot_mode3 h k
 unfold tickQ tickD tickF
 rw[h.v]
 simp only[Bool.true_eq_false,if_false,m,if_true]
 exact⟨trivial,trivial,trivial⟩
theorem fi_still(h:Fi f a b)(m:f.mode=3):f.homed=false∧f.moving=false∧f.queue.length=0:=by
 have e:=(vf_of h.v).ends
 rcases e with e|e
 ·exact absurd m e.1
 ·exact⟨h.off m,e.1,e.2⟩
end
def lineV(f:Fw)(b:Bool):Int:=if b=true then f.line+1 else 0
def fLine(g:FuncId):Fact:=factFw g fun f rest=>match rest with
 |[.agg [.int .i64 _,.bool b,.int .i64 _,.int .i64 _,.int .i64 _,.int .i64 _,.int .i64 _,.int .i64 _,.int .i64 _,.int .i64 _,.int .i64 _,.int .i64 _,.int .i64 _]] =>some (.req (inR f.line 0 1099511627776) (.leaf (I64 (lineV f b))))
 |_=>none
def fLine53:Fact:=fLine 26
def opL(kd:Int)(nb:Bool)(c:Gc.C)(n r s:Int):List SV:=[I64 kd,.bool nb,I64 c.code,I64 c.has,I64 c.x,I64 c.y,I64 c.z,I64 c.e,I64 c.f,I64 c.s,I64 n,I64 r,I64 s]
theorem s_line(f:Fw)(kd:Int)(nb:Bool)(c:Gc.C)(n r s:Int)(h:inR f.line 0 1099511627776=true):SCall Tryz.prog 26 [f.sv,.agg (opL kd nb c n r s)] (I64 (lineV f nb)):=
 scall_vE (hB (l:=[]) (k:=[]) (j:=[]) (i:=[]) ([] :List Nat) ([] :List Nat) ([] :List Nat) ([] :List Nat) (trivial) noneOk noneOk noneOk) 1000 (.fork (.all) (.all))
  (t:=.node (nb)
 (.leaf (SV.int IntKind.i64 (i64.wrap (f.line+1))))
 (.leaf (SV.int IntKind.i64 0)))
   (by kernel_rfl) (by
    have h:=inR_iff.1 h
    have w:i64.wrap (f.line+1)=f.line+1:=w64 (by omega) (by omega)
    rw[w]
    exact n_bool (fun a=>by subst a;rfl) (fun a=>by subst a;rfl)) (by kernel_rfl) (by kernel_rfl)
theorem o_line53:fLine53.ok Tryz.prog:=factFw_ok fun f rest t ht=>by
 split at ht
 ·injection ht with ht;subst ht
  exact fun h=>s_line f _ _ ⟨_,_,_,_,_,_,_,_⟩ _ _ _ h
 ·cases ht
section
variable {f:Fw} {r s line:Int} {c:Gc.C}
end
section
variable {kd:Int} {nb:Bool} {c:Gc.C} {n r s:Int}
end
def shI(a:List Int):Bool:=decide (a.length≤1000)
def shB(a:List Bk):Bool:=decide (a.length≤1000)
noncomputable def eqFw(x y:Fw):Bool:=@decide (x=y) (Classical.propDecidable _)
def shF(x:Fw):Bool:=shB x.queue&&shI x.lines
noncomputable def fSame:Fact:=factFw 23 fun x rest=>match rest with
 |[.agg l] =>match asFw l with
  |some y=>some (.req (eqFw x y) (.req (shF x) (.leaf (.bool true))))
  |none=>none
 |_=>none
def fWorks:Fact:=⟨18,fun args=>match args with
 |[] =>some (.leaf (.bool true))
 |_=>none⟩
theorem o_works:fWorks.ok Tryz.prog:=fun args t ht=>by
 simp only[fWorks]at ht
 split at ht
 ·injection ht with ht;subst ht;exact s_works
 ·cases ht
theorem new_valid{m:Ma}{c d:Co}{g h:Gu}{cold:Int}(k:newOk m c d g h cold=true):validF (newF m c d g h cold)=true:=by
 obtain⟨k1,k2,k3,k4,k5,k6,k7,k8⟩:=newOk_iff.1 k
 refine vf_mk (partsB_iff.2 ⟨k1,k2,k3,k4,k5⟩) (by show 1≤(1:Int)∧(1:Int)≤3;omega) (numsB_iff.2 ?_) ?_ (queued_idle rfl rfl rfl rfl (show near4 z4=true by decide) (show near4 z4=true by decide)) (.inr ⟨rfl,rfl⟩)
 ·show((-16777216:Int)≤0∧(0:Int)≤16777216)∧((-16777216:Int)≤0∧(0:Int)≤16777216)∧((-16777216:Int)≤0∧(0:Int)≤16777216)∧((-16777216:Int)≤0∧(0:Int)≤16777216)∧((0:Int)≤0∧(0:Int)≤1048576)∧((0:Int)≤0∧(0:Int)≤1048576)∧((0:Int)≤0∧(0:Int)≤3)∧((0:Int)≤0∧(0:Int)≤255)∧((0:Int)≤0∧(0:Int)≤1099511627776)∧((0:Int)≤0∧(0:Int)≤1099511627776)∧((0:Int)≤0∧(0:Int)≤1099511627776)∧0≤cold∧cold≤400000
  omega
 ·rw[movesB_off rfl];exact stillB_zero rfl rfl
theorem small_at{l:List OpT}{m:Int}(h:smallB l m=true){i:Nat}(hi:i<l.length):opN (l.getD i dOp)≤40:=(smallB_iff.1 h).1 i hi
def suC(m:Ma)(c d:Co)(g h:Gu)(cold:Int):List SV:=m.cells++(c.cells++(d.cells++(g.cells++(h.cells++[I64 cold]))))
def keepN(n:Nat)(a b:List Nat):List Item→List Bool:=fun items=>match Nat.ble items.length 5 with
 |true=>keepS n a items
 |false=>keepS n b items
def fa0_p:Plan:=.fork (.ln 4 (.fork .all .all)) (.ln 4 (.lit .all))
noncomputable def fa0_t(m:Ma)(c d:Co)(g h:Gu)(cold:Int)(l:List OpT):Tree Stop:= .node (newOk m c d g h cold) (.req (lenOk l) (.node (!smallB l 40) (.leaf (.done (.bool true))) (.leaf (.at (loopOf Tryz.prog 7 0) 160 (slotsS 160 [(1,LO l),(2,.ptr 0 0),(5,.ptr 1 0),(7,.int .i64 0)]) [some (.cells (suC m c d g h cold)),some (.cells (Fw.cells (newF m c d g h cold)))])))) (.leaf (.done (.bool true)))
theorem fa0(m:Ma)(c d:Co)(g h:Gu)(cold:Int)(l:List OpT):segR (Env.ofB Tryz.prog (sumOf [fNew,fSmall,fWorks,fAcpt,fTickX,fLine53]) (wrOf []) (pnOf []) (bxOf []) (rdOf []) (rdOf []) (rdOf []) (rdOf [])) 1000 (fnOf Tryz.prog 7) .unit (keepN 160 [1,2,5,7] [1,2,5,7,8,11]) (codeS Tryz.prog 7) fa0_p (startS Tryz.prog 7 [.agg (m.cells++(c.cells++(d.cells++(g.cells++(h.cells++[I64 cold]))))),LO l]) [] =fa0_t m c d g h cold l:=by kernel_rfl
def fa1_p:Plan:=.fork (.fork (.fork (.fork (.ln 7 (.fork (.ln 4 (.fork .all (.lit .all))) (.ln 5 (.lit .all)))) (.ln 13 (.lit .all))) (.fork (.lit (.lit (.fork (.ln 4 (.fork (.ln 4 (.fork .all (.fork .all .all))) (.ln 5 (.fork .all .all)))) (.ln 10 (.fork .all .all))))) (.ln 13 (.fork .all .all)))) .all) .all
noncomputable def fa1_t(f:Fw)(m:Ma)(c d:Co)(g h:Gu)(cold:Int)(l:List OpT)(i:Int):Tree Stop:=let y2:=l.getD i.toNat dOp;let y3:=slotsS 160 [(1,LO l),(2,.ptr 0 0),(5,.ptr 1 0),(7,.int .i64 (i64.wrap (i+1)))];let y4:=suC m c d g h cold;let y0:Tree Stop:=.node (accE f (lineV f y2.2.1) (opC y2)==0) (.leaf (.at (loopOf Tryz.prog 7 0) 160 y3 [some (.cells y4),some (.cells [.int .i64 0,.int .i64 0,.int .i64 0,.int .i64 0,.int .i64 0,.int .i64 0,.int .i64 0,.int .i64 0,.int .i64 0,.int .i64 0,.int .i64 0,.int .i64 0,.int .i64 0,.int .i64 0,.int .i64 0,.int .i64 0,.int .i64 0,.int .i64 0,.int .i64 0,.int .i64 0,.int .i64 0,.int .i64 0,.int .i64 0,.int .i64 0,.int .i64 0,.int .i64 0,.int .i64 0,.int .i64 0,.bool false,.int .i64 0,.int .i64 0,.bool false,.int .i64 0,.int .i64 0,.int .i64 0,.int .i64 0,.int .i64 0,.int .i64 0,.int .i64 0,.int .i64 0,.int .i64 0,.list tyBk fw0.queue,.list (Ty.int IntKind.i64) fw0.lines,.int .i64 0,.int .i64 0,.int .i64 0,.int .i64 0,.int .i64 0,.int .i64 0,.int .i64 0,.int .i64 0,.int .i64 0,.int .i64 0,.bool false,.int .i64 0,.bool false,.int .i64 0,.int .i64 0,.int .i64 0,.int .i64 0,.int .i64 0,.int .i64 0,.int .i64 0,.int .i64 0,.int .i64 0,.int .i64 0,.int .i64 0,.int .i64 0,.int .i64 0,.int .i64 0,.int .i64 0,.int .i64 0,.int .i64 0,.int .i64 0,.int .i64 0,.int .i64 0,.int .i64 0,.int .i64 0,.int .i64 0,.int .i64 0,.int .i64 0,.int .i64 0,.int .i64 0,.int .i64 0,.bool false,.int .i64 0,.int .i64 0,.int .i64 0,.int .i64 0,.int .i64 0,.int .i64 0,.int .i64 0,.int .i64 0,.int .i64 0,.int .i64 0,.bool false,.int .i64 0,.int .i64 0,.int .i64 0,.int .i64 0,.int .i64 0,.int .i64 0])])) (.leaf (.at (loopOf Tryz.prog 7 0) 160 y3 [some (.cells y4),some (.cells (Fw.cells f))]));let y1:Tree Stop:=.leaf (.at (loopOf Tryz.prog 7 0) 160 y3 [some (.cells y4),some (.cells (Fw.cells (accF f (lineV f y2.2.1) (opC y2))))]); .node (decide (i< (↑l.length:Int))) (.req (decide (0≤i)&&decide (i< (↑l.length:Int))) (.node (y2.1==0) (.req (inR f.line 0 1099511627776) (.node (decide (accE f (lineV f y2.2.1) (opC y2)=0)) (.node (f.mode==3) (.node (y2.2.2.1.1 != 1999) (.node (y2.2.2.1.1 != 1112) (.leaf (.done (.bool false))) y1) y1) y1) (.node (f.mode==3) (.node (accE f (lineV f y2.2.1) (opC y2)==0) (.node (y2.2.2.1.1 != 1999) (.node (y2.2.2.1.1 != 1112) (.leaf (.done (.bool false))) y0) y0) y0) y0))) (.leaf (.at (loopOf Tryz.prog 7 1) 160 (slotsS 160 [(1,LO l),(2,.ptr 0 0),(5,.ptr 1 0),(7,.int .i64 i),(8,.ptr 2 0),(11,.int .i64 0)]) [some (.cells y4),some (.cells (Fw.cells f)),some (.cells [.int .i64 y2.1,.bool y2.2.1,.int .i64 y2.2.2.1.1,.int .i64 y2.2.2.1.2.1,.int .i64 y2.2.2.1.2.2.1,.int .i64 y2.2.2.1.2.2.2.1,.int .i64 y2.2.2.1.2.2.2.2.1,.int .i64 y2.2.2.1.2.2.2.2.2.1,.int .i64 y2.2.2.1.2.2.2.2.2.2.1,.int .i64 y2.2.2.1.2.2.2.2.2.2.2,.int .i64 y2.2.2.2.1,.int .i64 y2.2.2.2.2.1,.int .i64 y2.2.2.2.2.2])])))) (.leaf (.done (.bool true)))
theorem fa1(f:Fw)(m:Ma)(c d:Co)(g h:Gu)(cold:Int)(l:List OpT)(i:Int):segR (Env.ofB Tryz.prog (sumOf [fNew,fSmall,fWorks,fAcpt,fTickX,fLine53]) (wrOf []) (pnOf []) (bxOf []) (rdOf []) (rdOf []) (rdOf []) (rdOf [])) 1000 (fnOf Tryz.prog 7) .unit (keepN 160 [1,2,5,7] [1,2,5,7,8,11]) (loopOf Tryz.prog 7 0) fa1_p (slotsS 160 [(1,LO l),(2,.ptr 0 0),(5,.ptr 1 0),(7,I64 i)]) [some (.cells (suC m c d g h cold)),some (.cells f.cells)] =fa1_t f m c d g h cold l i:=by kernel_rfl
def fa2_p:Plan:=.fork (.go (.ln 12 (.fork (.ln 10 (.go (.ln 23 (.go (.lit (.fork (.ln 5 (.fork (.ln 17 (.lit .all)) (.ln 5 (.fork (.ln 11 (.lit .all)) (.ln 5 (.fork (.ln 5 (.lit .all)) (.ln 3 (.fork (.lit (.lit (.fork (.ln 13 (.lit .all)) (.ln 4 (.fork (.ln 8 (.lit .all)) (.ln 8 (.fork .all .all))))))) (.ln 8 (.lit .all)))))))))) (.ln 5 (.fork (.ln 17 (.lit .all)) (.ln 5 (.fork (.ln 11 (.lit .all)) (.ln 5 (.fork (.ln 5 (.lit .all)) (.ln 3 (.fork (.lit (.lit (.fork (.ln 13 (.lit .all)) (.ln 4 (.fork (.ln 8 (.lit .all)) (.ln 8 (.fork .all .all))))))) (.ln 8 (.lit .all)))))))))))))))) (.ln 10 (.go (.lit (.fork (.ln 21 (.go (.lit (.fork (.ln 5 (.fork (.ln 17 (.lit .all)) (.ln 5 (.fork (.ln 11 (.lit .all)) (.ln 5 (.fork (.ln 5 (.lit .all)) (.ln 3 (.fork (.lit (.lit (.fork (.ln 13 (.lit .all)) (.ln 4 (.fork (.ln 8 (.lit .all)) (.ln 8 (.fork .all .all))))))) (.ln 8 (.lit .all)))))))))) (.ln 5 (.fork (.ln 17 (.lit .all)) (.ln 5 (.fork (.ln 11 (.lit .all)) (.ln 5 (.fork (.ln 5 (.lit .all)) (.ln 3 (.fork (.lit (.lit (.fork (.ln 13 (.lit .all)) (.ln 4 (.fork (.ln 8 (.lit .all)) (.ln 8 (.fork .all .all))))))) (.ln 8 (.lit .all)))))))))))))) (.ln 10 (.fork (.ln 10 (.go (.lit (.fork (.ln 5 (.fork (.ln 17 (.lit .all)) (.ln 5 (.fork (.ln 11 (.lit .all)) (.ln 5 (.fork (.ln 5 (.lit .all)) (.ln 3 (.fork (.lit (.lit (.fork (.ln 13 (.lit .all)) (.ln 4 (.fork (.ln 8 (.lit .all)) (.ln 8 (.fork .all .all))))))) (.ln 8 (.lit .all)))))))))) (.ln 5 (.fork (.ln 17 (.lit .all)) (.ln 5 (.fork (.ln 11 (.lit .all)) (.ln 5 (.fork (.ln 5 (.lit .all)) (.ln 3 (.fork (.lit (.lit (.fork (.ln 13 (.lit .all)) (.ln 4 (.fork (.ln 8 (.lit .all)) (.ln 8 (.fork .all .all))))))) (.ln 8 (.lit .all)))))))))))))) (.ln 10 (.go (.lit (.fork (.ln 5 (.fork (.ln 17 (.lit .all)) (.ln 5 (.fork (.ln 11 (.lit .all)) (.ln 5 (.fork (.ln 5 (.lit .all)) (.ln 3 (.fork (.lit (.lit (.fork (.ln 13 (.lit .all)) (.ln 4 (.fork (.ln 8 (.lit .all)) (.ln 8 (.fork .all .all))))))) (.ln 8 (.lit .all)))))))))) (.lit (.fork (.ln 3 (.fork (.ln 17 (.lit .all)) (.ln 5 (.fork (.ln 11 (.lit .all)) (.ln 5 (.fork (.ln 5 (.lit .all)) (.ln 3 (.fork (.lit (.lit (.fork (.ln 13 (.lit .all)) (.ln 4 (.fork (.ln 8 (.lit .all)) (.ln 8 (.fork .all .all))))))) (.ln 8 (.lit .all)))))))))) (.ln 11 (.fork (.lit (.lit (.fork (.ln 13 (.lit .all)) (.ln 4 (.fork (.ln 8 (.lit .all)) (.ln 8 (.fork .all .all))))))) (.ln 8 (.lit .all))))))))))))))))))) .all
noncomputable def fa2_t(f:Fw)(m:Ma)(c d:Co)(g h:Gu)(cold:Int)(l:List OpT)(i:Int)(kd:Int)(nb:Bool)(co:Gc.C)(n r s k:Int):Tree Stop:= .node (decide (k<n)) (.req true (.req (true) (.node (decide (r<g.low)) (.node (f.mode==3) (.node (!((tickQ f r s).1==0&& ((tickQ f r s).2.1==0&& ((tickQ f r s).2.2.1==0&& ((tickQ f r s).2.2.2==0&&true))))) (.leaf (.done (.bool false))) (.node (!((tickD f r s).1==0&& ((tickD f r s).2==0&&true))) (.leaf (.done (.bool false))) (.node ((tickF f r s).mode != 3) (.leaf (.done (.bool false))) (.node ((tickF f r s).mode==3) (.node ((tickF f r s).homed) (.leaf (.done (.bool false))) (.node ((tickF f r s).moving) (.leaf (.done (.bool false))) (.node (decide ((↑(tickF f r s).queue.length:Int)>0)) (.leaf (.done (.bool false))) (.leaf (.at (loopOf Tryz.prog 7 1) 160 (slotsS 160 [(1,LO l),(2,.ptr 0 0),(5,.ptr 1 0),(7,.int .i64 i),(8,.ptr 2 0),(11,.int .i64 (i64.wrap (k+1)))]) [some (.cells (suC m c d g h cold)),some (.cells (Fw.cells (tickF f r s))),some (.cells (opL kd nb co n r s))]))))) (.leaf (.at (loopOf Tryz.prog 7 1) 160 (slotsS 160 [(1,LO l),(2,.ptr 0 0),(5,.ptr 1 0),(7,.int .i64 i),(8,.ptr 2 0),(11,.int .i64 (i64.wrap (k+1)))]) [some (.cells (suC m c d g h cold)),some (.cells (Fw.cells (tickF f r s))),some (.cells (opL kd nb co n r s))])))))) (.node (!((tickQ f r s).1==0&& ((tickQ f r s).2.1==0&& ((tickQ f r s).2.2.1==0&& ((tickQ f r s).2.2.2==0&&true))))) (.leaf (.done (.bool false))) (.node (!((tickD f r s).1==0&& ((tickD f r s).2==0&&true))) (.leaf (.done (.bool false))) (.node ((tickF f r s).mode != 3) (.leaf (.done (.bool false))) (.node ((tickF f r s).mode==3) (.node ((tickF f r s).homed) (.leaf (.done (.bool false))) (.node ((tickF f r s).moving) (.leaf (.done (.bool false))) (.node (decide ((↑(tickF f r s).queue.length:Int)>0)) (.leaf (.done (.bool false))) (.leaf (.at (loopOf Tryz.prog 7 1) 160 (slotsS 160 [(1,LO l),(2,.ptr 0 0),(5,.ptr 1 0),(7,.int .i64 i),(8,.ptr 2 0),(11,.int .i64 (i64.wrap (k+1)))]) [some (.cells (suC m c d g h cold)),some (.cells (Fw.cells (tickF f r s))),some (.cells (opL kd nb co n r s))]))))) (.leaf (.at (loopOf Tryz.prog 7 1) 160 (slotsS 160 [(1,LO l),(2,.ptr 0 0),(5,.ptr 1 0),(7,.int .i64 i),(8,.ptr 2 0),(11,.int .i64 (i64.wrap (k+1)))]) [some (.cells (suC m c d g h cold)),some (.cells (Fw.cells (tickF f r s))),some (.cells (opL kd nb co n r s))]))))))) (.req true (.req (true) (.node (decide (r>g.high)) (.node (f.mode==3) (.node (!((tickQ f r s).1==0&& ((tickQ f r s).2.1==0&& ((tickQ f r s).2.2.1==0&& ((tickQ f r s).2.2.2==0&&true))))) (.leaf (.done (.bool false))) (.node (!((tickD f r s).1==0&& ((tickD f r s).2==0&&true))) (.leaf (.done (.bool false))) (.node ((tickF f r s).mode != 3) (.leaf (.done (.bool false))) (.node ((tickF f r s).mode==3) (.node ((tickF f r s).homed) (.leaf (.done (.bool false))) (.node ((tickF f r s).moving) (.leaf (.done (.bool false))) (.node (decide ((↑(tickF f r s).queue.length:Int)>0)) (.leaf (.done (.bool false))) (.leaf (.at (loopOf Tryz.prog 7 1) 160 (slotsS 160 [(1,LO l),(2,.ptr 0 0),(5,.ptr 1 0),(7,.int .i64 i),(8,.ptr 2 0),(11,.int .i64 (i64.wrap (k+1)))]) [some (.cells (suC m c d g h cold)),some (.cells (Fw.cells (tickF f r s))),some (.cells (opL kd nb co n r s))]))))) (.leaf (.at (loopOf Tryz.prog 7 1) 160 (slotsS 160 [(1,LO l),(2,.ptr 0 0),(5,.ptr 1 0),(7,.int .i64 i),(8,.ptr 2 0),(11,.int .i64 (i64.wrap (k+1)))]) [some (.cells (suC m c d g h cold)),some (.cells (Fw.cells (tickF f r s))),some (.cells (opL kd nb co n r s))])))))) (.node (!((tickQ f r s).1==0&& ((tickQ f r s).2.1==0&& ((tickQ f r s).2.2.1==0&& ((tickQ f r s).2.2.2==0&&true))))) (.leaf (.done (.bool false))) (.node (!((tickD f r s).1==0&& ((tickD f r s).2==0&&true))) (.leaf (.done (.bool false))) (.node ((tickF f r s).mode != 3) (.leaf (.done (.bool false))) (.node ((tickF f r s).mode==3) (.node ((tickF f r s).homed) (.leaf (.done (.bool false))) (.node ((tickF f r s).moving) (.leaf (.done (.bool false))) (.node (decide ((↑(tickF f r s).queue.length:Int)>0)) (.leaf (.done (.bool false))) (.leaf (.at (loopOf Tryz.prog 7 1) 160 (slotsS 160 [(1,LO l),(2,.ptr 0 0),(5,.ptr 1 0),(7,.int .i64 i),(8,.ptr 2 0),(11,.int .i64 (i64.wrap (k+1)))]) [some (.cells (suC m c d g h cold)),some (.cells (Fw.cells (tickF f r s))),some (.cells (opL kd nb co n r s))]))))) (.leaf (.at (loopOf Tryz.prog 7 1) 160 (slotsS 160 [(1,LO l),(2,.ptr 0 0),(5,.ptr 1 0),(7,.int .i64 i),(8,.ptr 2 0),(11,.int .i64 (i64.wrap (k+1)))]) [some (.cells (suC m c d g h cold)),some (.cells (Fw.cells (tickF f r s))),some (.cells (opL kd nb co n r s))]))))))) (.req true (.req (true) (.node (decide (s<h.low)) (.node (f.mode==3) (.node (!((tickQ f r s).1==0&& ((tickQ f r s).2.1==0&& ((tickQ f r s).2.2.1==0&& ((tickQ f r s).2.2.2==0&&true))))) (.leaf (.done (.bool false))) (.node (!((tickD f r s).1==0&& ((tickD f r s).2==0&&true))) (.leaf (.done (.bool false))) (.node ((tickF f r s).mode != 3) (.leaf (.done (.bool false))) (.node ((tickF f r s).mode==3) (.node ((tickF f r s).homed) (.leaf (.done (.bool false))) (.node ((tickF f r s).moving) (.leaf (.done (.bool false))) (.node (decide ((↑(tickF f r s).queue.length:Int)>0)) (.leaf (.done (.bool false))) (.leaf (.at (loopOf Tryz.prog 7 1) 160 (slotsS 160 [(1,LO l),(2,.ptr 0 0),(5,.ptr 1 0),(7,.int .i64 i),(8,.ptr 2 0),(11,.int .i64 (i64.wrap (k+1)))]) [some (.cells (suC m c d g h cold)),some (.cells (Fw.cells (tickF f r s))),some (.cells (opL kd nb co n r s))]))))) (.leaf (.at (loopOf Tryz.prog 7 1) 160 (slotsS 160 [(1,LO l),(2,.ptr 0 0),(5,.ptr 1 0),(7,.int .i64 i),(8,.ptr 2 0),(11,.int .i64 (i64.wrap (k+1)))]) [some (.cells (suC m c d g h cold)),some (.cells (Fw.cells (tickF f r s))),some (.cells (opL kd nb co n r s))])))))) (.node (!((tickQ f r s).1==0&& ((tickQ f r s).2.1==0&& ((tickQ f r s).2.2.1==0&& ((tickQ f r s).2.2.2==0&&true))))) (.leaf (.done (.bool false))) (.node (!((tickD f r s).1==0&& ((tickD f r s).2==0&&true))) (.leaf (.done (.bool false))) (.node ((tickF f r s).mode != 3) (.leaf (.done (.bool false))) (.node ((tickF f r s).mode==3) (.node ((tickF f r s).homed) (.leaf (.done (.bool false))) (.node ((tickF f r s).moving) (.leaf (.done (.bool false))) (.node (decide ((↑(tickF f r s).queue.length:Int)>0)) (.leaf (.done (.bool false))) (.leaf (.at (loopOf Tryz.prog 7 1) 160 (slotsS 160 [(1,LO l),(2,.ptr 0 0),(5,.ptr 1 0),(7,.int .i64 i),(8,.ptr 2 0),(11,.int .i64 (i64.wrap (k+1)))]) [some (.cells (suC m c d g h cold)),some (.cells (Fw.cells (tickF f r s))),some (.cells (opL kd nb co n r s))]))))) (.leaf (.at (loopOf Tryz.prog 7 1) 160 (slotsS 160 [(1,LO l),(2,.ptr 0 0),(5,.ptr 1 0),(7,.int .i64 i),(8,.ptr 2 0),(11,.int .i64 (i64.wrap (k+1)))]) [some (.cells (suC m c d g h cold)),some (.cells (Fw.cells (tickF f r s))),some (.cells (opL kd nb co n r s))]))))))) (.req true (.req (true) (.node (f.mode==3) (.node (!((tickQ f r s).1==0&& ((tickQ f r s).2.1==0&& ((tickQ f r s).2.2.1==0&& ((tickQ f r s).2.2.2==0&&true))))) (.leaf (.done (.bool false))) (.node (!((tickD f r s).1==0&& ((tickD f r s).2==0&&true))) (.leaf (.done (.bool false))) (.node ((tickF f r s).mode != 3) (.leaf (.done (.bool false))) (.node ((tickF f r s).mode==3) (.node ((tickF f r s).homed) (.leaf (.done (.bool false))) (.node ((tickF f r s).moving) (.leaf (.done (.bool false))) (.node (decide ((↑(tickF f r s).queue.length:Int)>0)) (.leaf (.done (.bool false))) (.leaf (.at (loopOf Tryz.prog 7 1) 160 (slotsS 160 [(1,LO l),(2,.ptr 0 0),(5,.ptr 1 0),(7,.int .i64 i),(8,.ptr 2 0),(11,.int .i64 (i64.wrap (k+1)))]) [some (.cells (suC m c d g h cold)),some (.cells (Fw.cells (tickF f r s))),some (.cells (opL kd nb co n r s))]))))) (.leaf (.at (loopOf Tryz.prog 7 1) 160 (slotsS 160 [(1,LO l),(2,.ptr 0 0),(5,.ptr 1 0),(7,.int .i64 i),(8,.ptr 2 0),(11,.int .i64 (i64.wrap (k+1)))]) [some (.cells (suC m c d g h cold)),some (.cells (Fw.cells (tickF f r s))),some (.cells (opL kd nb co n r s))])))))) (.node (decide (s>h.high)) (.node (!((tickQ f r s).1==0&& ((tickQ f r s).2.1==0&& ((tickQ f r s).2.2.1==0&& ((tickQ f r s).2.2.2==0&&true))))) (.leaf (.done (.bool false))) (.node (!((tickD f r s).1==0&& ((tickD f r s).2==0&&true))) (.leaf (.done (.bool false))) (.node ((tickF f r s).mode != 3) (.leaf (.done (.bool false))) (.node ((tickF f r s).mode==3) (.node ((tickF f r s).homed) (.leaf (.done (.bool false))) (.node ((tickF f r s).moving) (.leaf (.done (.bool false))) (.node (decide ((↑(tickF f r s).queue.length:Int)>0)) (.leaf (.done (.bool false))) (.leaf (.at (loopOf Tryz.prog 7 1) 160 (slotsS 160 [(1,LO l),(2,.ptr 0 0),(5,.ptr 1 0),(7,.int .i64 i),(8,.ptr 2 0),(11,.int .i64 (i64.wrap (k+1)))]) [some (.cells (suC m c d g h cold)),some (.cells (Fw.cells (tickF f r s))),some (.cells (opL kd nb co n r s))]))))) (.leaf (.at (loopOf Tryz.prog 7 1) 160 (slotsS 160 [(1,LO l),(2,.ptr 0 0),(5,.ptr 1 0),(7,.int .i64 i),(8,.ptr 2 0),(11,.int .i64 (i64.wrap (k+1)))]) [some (.cells (suC m c d g h cold)),some (.cells (Fw.cells (tickF f r s))),some (.cells (opL kd nb co n r s))])))))) (.node ((tickF f r s).mode==3) (.node ((tickF f r s).homed) (.leaf (.done (.bool false))) (.node ((tickF f r s).moving) (.leaf (.done (.bool false))) (.node (decide ((↑(tickF f r s).queue.length:Int)>0)) (.leaf (.done (.bool false))) (.leaf (.at (loopOf Tryz.prog 7 1) 160 (slotsS 160 [(1,LO l),(2,.ptr 0 0),(5,.ptr 1 0),(7,.int .i64 i),(8,.ptr 2 0),(11,.int .i64 (i64.wrap (k+1)))]) [some (.cells (suC m c d g h cold)),some (.cells (Fw.cells (tickF f r s))),some (.cells (opL kd nb co n r s))]))))) (.leaf (.at (loopOf Tryz.prog 7 1) 160 (slotsS 160 [(1,LO l),(2,.ptr 0 0),(5,.ptr 1 0),(7,.int .i64 i),(8,.ptr 2 0),(11,.int .i64 (i64.wrap (k+1)))]) [some (.cells (suC m c d g h cold)),some (.cells (Fw.cells (tickF f r s))),some (.cells (opL kd nb co n r s))])))))))))))))))) (.leaf (.at (loopOf Tryz.prog 7 0) 160 (slotsS 160 [(1,LO l),(2,.ptr 0 0),(5,.ptr 1 0),(7,.int .i64 (i64.wrap (i+1)))]) [some (.cells (suC m c d g h cold)),some (.cells (Fw.cells f))]))
theorem fa2(f:Fw)(m:Ma)(c d:Co)(g h:Gu)(cold:Int)(l:List OpT)(i:Int)(kd:Int)(nb:Bool)(co:Gc.C)(n r s k:Int):segR (Env.ofB Tryz.prog (sumOf [fNew,fSmall,fWorks,fAcpt,fTickX,fLine53]) (wrOf []) (pnOf []) (bxOf []) (rdOf []) (rdOf []) (rdOf []) (rdOf [])) 1000 (fnOf Tryz.prog 7) .unit (keepN 160 [1,2,5,7] [1,2,5,7,8,11]) (loopOf Tryz.prog 7 1) fa2_p (slotsS 160 [(1,LO l),(2,.ptr 0 0),(5,.ptr 1 0),(7,I64 i),(8,.ptr 2 0),(11,I64 k)]) [some (.cells (suC m c d g h cold)),some (.cells f.cells),some (.cells (opL kd nb co n r s))] =fa2_t f m c d g h cold l i kd nb co n r s k:=by kernel_rfl
theorem new_fi{m:Ma}{c d:Co}{g h:Gu}{cold:Int}(k:newOk m c d g h cold=true):Fi (newF m c d g h cold) g.lim h.lim:=by
 obtain⟨k1,k2,k3,k4,k5,k6,k7,k8⟩:=newOk_iff.1 k
 exact⟨new_valid k,rfl,rfl,fun q=>absurd (show(1:Int)=3 from q) (by decide),fun _=>⟨k7,k8⟩⟩
theorem kLG:Known Tryz.prog (Env.ofB Tryz.prog (sumOf [fNew,fSmall,fWorks,fAcpt,fTickX,fLine53]) (wrOf []) (pnOf []) (bxOf []) (rdOf []) (rdOf []) (rdOf []) (rdOf [])):=
 hB (l:=[fNew,fSmall,fWorks,fAcpt,fTickX,fLine53]) (k:=[]) (j:=[]) (i:=[]) [] [] [] [] ⟨o_new,o_small,o_works,o_acpt,o_tickX,o_line53,trivial⟩ noneOk noneOk noneOk
section
variable {m:Ma} {c d:Co} {g h:Gu} {cold:Int} {l:List OpT}
abbrev F1(m:Ma)(c d:Co)(g h:Gu)(cold:Int)(l:List OpT)(f:Fw)(i:Int):Prop:=RunsR Tryz.prog (fnOf Tryz.prog 7) (.bool true) (loopOf Tryz.prog 7 0) (slotsS 160 [(1,LO l),(2,.ptr 0 0),(5,.ptr 1 0),(7,I64 i)]) [some (.cells (suC m c d g h cold)),some (.cells f.cells)]
theorem fa2_loop{i:Int}{kd:Int}{nb:Bool}{co:Gc.C}{n r s:Int}(hn:n≤9223372036854775807)(nx:∀f:Fw,Fi f g.lim h.lim→F1 m c d g h cold l f (i64.wrap (i+1))):∀ (j k:Nat) (f:Fw),Fi f g.lim h.lim→k+j=n.toNat→RunsR Tryz.prog (fnOf Tryz.prog 7) (.bool true) (loopOf Tryz.prog 7 1) (slotsS 160 [(1,LO l),(2,.ptr 0 0),(5,.ptr 1 0),(7,I64 i),(8,.ptr 2 0),(11,I64 k)]) [some (.cells (suC m c d g h cold)),some (.cells f.cells),some (.cells (opL kd nb co n r s))]
 |0,k,f,v,hk=>by
  refine runsR_seg kLG (n:=1000) (hint:=.unit) (keep:=keepN 160 [1,2,5,7] [1,2,5,7,8,11]) (p:=fa2_p) rfl ?_
  erw [fa2 f m c d g h cold l i kd nb co n r s k]
  unfold fa2_t
  exact n_dec (fun a=>absurd a (by omega)) fun _=>⟨slotsS_len _ _,nx f v⟩
 |j+1,k,f,v,hk=>by
  refine runsR_seg kLG (n:=1000) (hint:=.unit) (keep:=keepN 160 [1,2,5,7] [1,2,5,7,8,11]) (p:=fa2_p) rfl ?_
  erw [fa2 f m c d g h cold l i kd nb co n r s k]
  unfold fa2_t
  have w1:i64.wrap ((k:Int)+1)=((k+1:Nat):Int):=by rw[w64 (by omega) (by omega)];omega
  have tv:=tick_fi (r:=r) (s:=s) v
  have ih:=fa2_loop (kd:=kd) (nb:=nb) (co:=co) (r:=r) (s:=s) hn nx j (k+1) (tickF f r s) tv (by omega)
  have st:(tickF f r s).mode=3→(tickF f r s).homed=false∧(tickF f r s).moving=false∧(tickF f r s).queue.length=0:=fi_still tv
  rw[w1]
  by_cases P:f.mode=3∨(r<g.low∨g.high<r)∨(s<h.low∨h.high<s)
  ·obtain⟨q,dd,mo⟩:=tick_out (r:=r) (s:=s) v P
   obtain⟨s1,s2,s3⟩:=st mo
   rw[q,dd,s1,s2]
   repeat' first
    |refine n_req rfl ?_
    |refine n_eq (fun _=>?_) (fun _=>?_)
    |refine n_ne (fun _=>?_) (fun _=>?_)
    |refine n_dec (fun _=>?_) (fun _=>?_)
    |refine n_not (fun _=>?_) (fun _=>?_)
    |refine n_bool (fun _=>?_) (fun _=>?_)
   all_goals first
    |exact⟨slotsS_len _ _,ih⟩
    |(exfalso;omega)
    |(exfalso;rename_i z;exact absurd z (by decide))
    |(exfalso;rename_i z _;exact absurd z (by decide))
    |(exfalso;rename_i z _ _;exact absurd z (by decide))
  ·repeat' first
    |refine n_req rfl ?_
    |refine n_eq (fun _=>?_) (fun _=>?_)
    |refine n_ne (fun _=>?_) (fun _=>?_)
    |refine n_dec (fun _=>?_) (fun _=>?_)
    |refine n_not (fun _=>?_) (fun _=>?_)
    |refine n_bool (fun _=>?_) (fun _=>?_)
   all_goals first
    |exact⟨slotsS_len _ _,ih⟩
    |(exfalso;omega)
    |(exfalso;obtain⟨s1,s2,s3⟩:=st (by omega);first|omega|(rename_i z;rw[s1]at z;cases z)|(rename_i z;rw[s2]at z;cases z))
set_option maxHeartbeats 1000000 in
theorem fa1_loop(hs:smallB l 40=true):∀ (k i:Nat) (f:Fw),Fi f g.lim h.lim→i+k=l.length→F1 m c d g h cold l f i
 |0,i,f,v,hi=>by
  refine runsR_seg kLG (n:=1000) (hint:=.unit) (keep:=keepN 160 [1,2,5,7] [1,2,5,7,8,11]) (p:=fa1_p) rfl ?_
  erw [fa1 f m c d g h cold l i]
  unfold fa1_t
  exact n_dec (fun a=>absurd a (by omega)) fun _=>rfl
 |k+1,i,f,v,hi=>by
  refine runsR_seg kLG (n:=1000) (hint:=.unit) (keep:=keepN 160 [1,2,5,7] [1,2,5,7,8,11]) (p:=fa1_p) rfl ?_
  erw [fa1 f m c d g h cold l i]
  unfold fa1_t
  have ln:=(smallB_iff.1 hs).2
  have t0:(i:Int).toNat=i:=by omega
  have w1:i64.wrap ((i:Int)+1)=((i+1:Nat):Int):=by rw[w64 (by omega) (by omega)];omega
  have n40:(l.getD i dOp).2.2.2.1≤40:=small_at hs (by omega)
  have li:inR f.line 0 1099511627776=true:=inR_iff.2 (by have:=(vf_of v.v).nums;omega)
  have nx:∀f:Fw,Fi f g.lim h.lim→F1 m c d g h cold l f (i64.wrap ((i:Int)+1)):=fun f v=>by rw[w1];exact fa1_loop hs k (i+1) f v (by omega)
  have af:f.mode=3→accE f (lineV f (l.getD i dOp).2.1) (opC (l.getD i dOp))=0→(l.getD i dOp).2.2.1.1=1112∨(l.getD i dOp).2.2.1.1=1999:=fun m e=>acc_fault m e
  have ga:accE f (lineV f (l.getD i dOp).2.1) (opC (l.getD i dOp))=0→F1 m c d g h cold l (accF f (lineV f (l.getD i dOp).2.1) (opC (l.getD i dOp))) (i64.wrap ((i:Int)+1)):=fun e=>nx _ (acc_fi v e)
  have gf:=nx f v
  have g2:RunsR Tryz.prog (fnOf Tryz.prog 7) (.bool true) (loopOf Tryz.prog 7 1) (slotsS 160 [(1,LO l),(2,.ptr 0 0),(5,.ptr 1 0),(7,I64 i),(8,.ptr 2 0),(11,I64 (0:Nat))]) [some (.cells (suC m c d g h cold)),some (.cells f.cells),some (.cells (opL (l.getD i dOp).1 (l.getD i dOp).2.1 (opC (l.getD i dOp)) (l.getD i dOp).2.2.2.1 (l.getD i dOp).2.2.2.2.1 (l.getD i dOp).2.2.2.2.2))] :=fa2_loop (by omega) nx _ 0 f v (Nat.zero_add _)
  rw[t0]
  refine n_dec (fun a=>n_req (by simp;omega) (n_eq (fun _=>?_) fun _=>⟨slotsS_len _ _,g2⟩)) fun a=>absurd (show(i:Int)<l.length by omega) a
  generalize accE f (lineV f (l.getD i dOp).2.1) (opC (l.getD i dOp))=e at af ga ⊢
  repeat' first
   |refine n_req li ?_
   |refine n_eq (fun _=>?_) (fun _=>?_)
   |refine n_ne (fun _=>?_) (fun _=>?_)
   |refine n_dec (fun _=>?_) (fun _=>?_)
  all_goals first
   |(exfalso;omega)
   |(exfalso;have:=af (by omega) (by omega);omega)
   |exact⟨slotsS_len _ _,ga (by omega)⟩
   |exact⟨slotsS_len _ _,gf⟩
theorem s_lawFaults(m:Ma)(c d:Co)(g h:Gu)(cold:Int)(l:List OpT)(hl:l.length≤maxLen):SCall Tryz.prog 7 [.agg (m.cells++(c.cells++(d.cells++(g.cells++(h.cells++[I64 cold]))))),LO l] (.bool true):=by
 refine scallR_loops rfl rfl (by kernel_rfl) (runsR_seg kLG (n:=1000) (hint:=.unit) (keep:=keepN 160 [1,2,5,7] [1,2,5,7,8,11]) (p:=fa0_p) (boxes:=[]) rfl ?_)
 have q:=fa0 m c d g h cold l
 unfold startS codeS at q
 erw [q]
 unfold fa0_t
 exact n_bool (fun k=>n_req (lenOk_iff.2 hl) (n_not (fun _=>rfl) fun s=>⟨slotsS_len _ _,fa1_loop s l.length 0 _ (new_fi k) (by omega)⟩)) fun _=>rfl
end
end Go.Proofs.YtnkaepnblikcdaaGreat
