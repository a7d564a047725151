/-
  What the statement needs: an evaluator of the model, contracts of the functions that it reaches, and the plain law.
-/
import Derived.Test.YtnkaepnblikcdaaGreatVT4
set_option maxRecDepth 100000
set_option linter.unusedVariables false
set_option linter.unusedSimpArgs false
open Go.IntKind (i64 u64)
namespace Go.Proofs.YtnkaepnblikcdaaGreat
open Go.Sx
def firstL:List Int→Int→Int
 |[],d=>d
 |n::l,d=>if 0<n then n else firstL l d
def headZ:List Int→Bool
 |[] =>false
 |n::_=>n==0
def openV(f:Fw):Int:=if f.moving=true∧0<f.active then f.active else firstL f.lines (f.line+1)
def returnsB(f:Fw):Bool:=match f.moving with
 |true=>f.active==0
 |false=>headZ f.lines
theorem returnsB_on{f:Fw}(h:f.moving=true):returnsB f=(f.active==0):=by unfold returnsB;rw[h]
theorem returnsB_off{f:Fw}(h:f.moving=false):returnsB f=headZ f.lines:=by unfold returnsB;rw[h]
def shapeB(f:Fw):Bool:=big4 f.pos&& (decide (f.lines.length=f.queue.length)&& (decide (f.queue.length≤32)&& (inR f.line 0 1099511627776&& (inR f.active 0 1099511627776&&f.lines.all fun n=>inR n 0 1099511627776))))
theorem shapeB_iff{f:Fw}:shapeB f=true↔big4 f.pos=true∧f.lines.length=f.queue.length∧f.queue.length≤32∧(0≤f.line∧f.line≤1099511627776)∧(0≤f.active∧f.active≤1099511627776)∧∀n∈f.lines,0≤n∧n≤1099511627776:=by
 simp only[shapeB,Bool.and_eq_true,decide_eq_true_eq,inR_iff,List.all_eq_true]
theorem firstL_rng:∀ (l:List Int) (d:Int),(∀n∈l,0≤n∧n≤1099511627776)→0≤d∧d≤1099511627777→0≤firstL l d∧firstL l d≤1099511627777
 |[],d,_,h=>h
 |n::l,d,k,h=>by
  unfold firstL
  have:=k n List.mem_cons_self
  split
  ·omega
  ·exact firstL_rng l d (fun x hx=>k x (List.mem_cons_of_mem _ hx)) h
theorem openV_rng{f:Fw}(h:shapeB f=true):0≤openV f∧openV f≤1099511627777:=by
 obtain⟨_,_,_,h1,h2,h3⟩:=shapeB_iff.1 h
 unfold openV
 split
 ·omega
 ·exact firstL_rng _ _ h3 (by omega)
def loseRet(f:Fw):V4:=if f.moving=true∧0<f.active then begin4 f else if f.homed=true∧returnsB f=false then f.pos else f.ret
def loseF(f:Fw):Fw:={f with ret:=loseRet f,line:=openV f-1,back:=f.back||f.homed,homed:=false,moving:=false,queue:=[],lines:=[],mo:=m0,active:=0,dwell:=0,waits:=0}
def startMo(b:Bk)(t:Int):Mo:=match okS b t with
 |true=>startM b t
 |false=>m0
theorem startMo_yes{b:Bk}{t:Int}(h:okS b t=true):startMo b t=startM b t:=by unfold startMo;rw[h]
theorem startMo_no{b:Bk}{t:Int}(h:okS b t=false):startMo b t=m0:=by unfold startMo;rw[h]
def canStart(f:Fw):Bool:=!f.moving&& (!f.queue.isEmpty&& (!(f.mode==3)&&f.dwell==0))
theorem canStart_iff{f:Fw}:canStart f=true↔f.moving=false∧¬f.queue.length=0∧¬f.mode=3∧f.dwell=0:=by
 simp only[canStart,Bool.and_eq_true,Bool.not_eq_true',beq_iff_eq,beq_eq_false_iff_ne,ne_eq,List.isEmpty_eq_false_iff,List.length_eq_zero_iff]
def startF(f:Fw):Fw:={f with mo:=startMo (f.queue.getD 0 dBk) f.ma.ticks,moving:=true,active:=f.lines.getD 0 0,queue:=f.queue.drop 1,lines:=f.lines.drop 1}
def begF(f:Fw):Fw:=match canStart f with
 |true=>startF f
 |false=>f
theorem begF_yes{f:Fw}(h:canStart f=true):begF f=startF f:=by unfold begF;rw[h]
theorem begF_no{f:Fw}(h:canStart f=false):begF f=f:=by unfold begF;rw[h]
def resG(g:Gu)(r:Int):Gu:=if g.fault=0 then g else g.rest r
def resOk(g:Gu)(r:Int):Bool:=g.fault==0||g.resE r==0
def touchF(f:Fw):Fw:={f with g0:=f.g0.touch,g1:=f.g1.touch}
def stopG(f:Fw):Fw:={f with g0:=f.g0.stop,g1:=f.g1.stop}
def stopF(f:Fw):Fw:={loseF (stopG f)with mode:=3}
def newB(m:Ma)(c:V4)(len feed:Int):Bk:=(c,accV m c,0,spdV m c len feed*spdV m c len feed,0)
def capJ(m:Ma)(q:List Bk)(i:Nat):Int:=if i=0 then 0 else junV m (q.getD (i-1) dBk).1 (q.getD i dBk).1*junV m (q.getD (i-1) dBk).1 (q.getD i dBk).1
def capsV(m:Ma)(q:List Bk):List Int:=(List.range q.length).map (capJ m q)
def entryV(f:Fw):Int:=if f.moving=true then f.mo.1.2.2.2.2 else if f.queue.length=0 then 0 else(f.queue.getD 0 dBk).2.2.1
def addQ(f:Fw)(c:V4)(len:Int):List Bk:=f.queue++[newB f.ma c len f.feed]
def addOk(f:Fw)(c:V4)(len:Int):Bool:=decide (entryV f≤crL (addQ f c len) 0)&&decide (gL (addQ f c len) (capsV f.ma (addQ f c len)) (entryV f) 0=entryV f)
theorem addOk_iff{f:Fw}{c:V4}{len:Int}:addOk f c len=true↔entryV f≤crL (addQ f c len) 0∧gL (addQ f c len) (capsV f.ma (addQ f c len)) (entryV f) 0=entryV f:=by simp only[addOk,Bool.and_eq_true,decide_eq_true_eq]
def addF(f:Fw)(c:V4)(len line:Int):Fw:={f with queue:=plB (addQ f c len) (gL (addQ f c len) (capsV f.ma (addQ f c len)) (entryV f)),lines:=f.lines++[line]}
theorem nilC_ok(f:Fw)(h:f.queue=[])(k:f.lines=[]):NilLs (nilC f) f.cells:=by
 obtain⟨⟩:=f
 dsimp only at h k
 subst h k
 repeat(first|exact trivial|refine⟨.same _,?_⟩|refine⟨.nil _,?_⟩)
def hasW(h k:Int):Bool:=!(i64.wrap ((BitVec.ofInt 64 h &&&BitVec.ofInt 64 k).toNat:Int)==0)
def tgtV(f:Fw)(c:Gc.C):V3:=(if hasW c.has 1=true then c.x else f.loc.1,if hasW c.has 2=true then c.y else f.loc.2.1,if hasW c.has 4=true then c.z else f.loc.2.2)
def tgtE(f:Fw)(c:Gc.C):Int:=if hasW c.has 8=true then c.e else f.e
def sqs(a b:V3):Int:=(b.1-a.1)*(b.1-a.1)+(b.2.1-a.2.1)*(b.2.1-a.2.1)+(b.2.2-a.2.2)*(b.2.2-a.2.2)
def lenM(f:Fw)(p:V3)(e:Int):Int:=if isq (sqs f.loc p)=0 then(if e-f.e<f.e-e then f.e-e else e-f.e)else isq (sqs f.loc p)
def feedF(f:Fw)(c:Gc.C):Fw:=if hasW c.has 16=true then {f with feed:=c.f} else f
def moveP(f:Fw)(c:Gc.C):V4:=motV f.ma (tgtV f c) (tgtE f c)
def moveD(f:Fw)(c:Gc.C):V4:=sub4 (moveP f c) (goal4 f)
def tlE(g:Fw)(u:V3)(e:Int)(p d:V4):Int:=match near4 p&&near4 d with
 |false=>2
 |true=>match nz4 d with
  |false=>0
  |true=>if 32≤g.queue.length then 18 else if addOk g d (lenM g u e)=true then 0 else 2
def tlF(g:Fw)(line:Int)(u:V3)(e:Int)(d:V4):Fw:=match nz4 d with
 |false=>{g with loc:=u,e:=e}
 |true=>{addF g d (lenM g u e) line with loc:=u,e:=e}
def moveE(f:Fw)(line:Int)(c:Gc.C):Int:=
 if line<1∨f.homed=false∨f.back=true∨¬f.mode=1 then 14
 else if insB f.ma (tgtV f c)=false∨motOk f.ma (tgtV f c) (tgtE f c)=false then 8
 else if f.e<tgtE f c∧f.r0<f.cold then 15
 else 0
def moveA(f:Fw)(line:Int)(c:Gc.C):Int:=if moveE f line c=0 then tlE (feedF f c) (tgtV f c) (tgtE f c) (moveP f c) (moveD f c)else moveE f line c
def moveF(f:Fw)(line:Int)(c:Gc.C):Fw:=tlF (feedF f c) line (tgtV f c) (tgtE f c) (moveD f c)
def homeE(f:Fw):Int:=if unOk f.ma f.pos.2.2.2=true then unitsN f.ma.e f.pos.2.2.2 else 0
def homeB(f:Fw)(line:Int):Bool:=(line==0&&f.homed)||f.back
def homeR(f:Fw)(line:Int):V4:=if line=0∧f.homed=true then f.pos else f.ret
def home0(f:Fw)(line:Int):Fw:={f with ret:=homeR f line,back:=false,pos:=(0,0,0,f.pos.2.2.2),homed:=true,loc:=(0,0,0),e:=homeE f}
def homeC(f:Fw)(line:Int):V4:=(0,0,(homeR f line).2.2.1,0)
def homeD(f:Fw)(line:Int):V4:=((homeR f line).1,(homeR f line).2.1,0,0)
def backOk(f:Fw)(c:V4):Bool:=!nz4 c||addOk f c 0
def backF(f:Fw)(c:V4):Fw:=if nz4 c=true then addF f c 0 0 else f
def homeX(f:Fw)(line:Int):Int:=
 if homeB f line=false then 0
 else if backOk (home0 f line) (homeC f line)=false then 2
 else if backOk (backF (home0 f line) (homeC f line)) (homeD f line)=false then 2 else 0
def posL(m:Ma)(p:V4):V3:=((posV m p).1,(posV m p).2.1,(posV m p).2.2.1)
def homeF(f:Fw)(line:Int):Fw:=
 if homeB f line=false then home0 f line
 else {backF (backF (home0 f line) (homeC f line)) (homeD f line)with loc:=posL f.ma (homeR f line)}
def resE(f:Fw):Int:=if ¬f.mode=3 then 14 else if resOk f.g0 f.r0=false∨resOk f.g1 f.r1=false then 16 else 0
def resF(f:Fw):Fw:={f with g0:=resG f.g0 f.r0,g1:=resG f.g1 f.r1,mode:=1}
def homeA(f:Fw)(line:Int):Int:=if idleB f=false then 18 else if ¬f.mode=1 then 14 else homeX f line
def orB(a b:Int):Int:=i64.wrap ((BitVec.ofInt 64 a |||BitVec.ofInt 64 b).toNat:Int)
def lineF(f:Fw)(line:Int):Fw:=if line=0 then f else {f with line:=line}
def doE(f:Fw)(line:Int)(c:Gc.C):Int:=
 if c.code=1112 then 0
 else if c.code=1999 then resE f
 else if f.mode=3 then 16
 else if c.code=1025 then(if f.mode=1 then 0 else 14)
 else if c.code=1024 then(if f.mode=2 then 0 else 14)
 else if ¬f.waits=0∨¬f.dwell=0 then 18
 else if c.code=0∨c.code=1 then moveA f line c
 else if c.code=4 then(if idleB f=true then 0 else 18)
 else if c.code=28 then homeA f line
 else 0
def doF(f:Fw)(line:Int)(c:Gc.C):Fw:=
 if c.code=1112 then stopF (lineF f line)
 else if c.code=1999 then resF f
 else if c.code=1025 then {f with mode:=2}
 else if c.code=1024 then {f with mode:=1}
 else if c.code=0∨c.code=1 then moveF f line c
 else if c.code=4 then {f with dwell:=c.s}
 else if c.code=28 then homeF f line
 else if c.code=1104 then {f with c0:=f.c0.aim c.s}
 else if c.code=1109 then {f with c0:=f.c0.aim c.s,waits:=orB f.waits 1}
 else if c.code=1140 then {f with c1:=f.c1.aim c.s}
 else if c.code=1190 then {f with c1:=f.c1.aim c.s,waits:=orB f.waits 2}
 else {f with fan:=c.s}
def accE(f:Fw)(line:Int)(c:Gc.C):Int:=
 if validF f=false∨c.valid=false∨(¬line=0∧¬line=f.line+1)∨1099511627776<line then 1 else doE f line c
def accF(f:Fw)(line:Int)(c:Gc.C):Fw:=touchF (if c.code=1112 then doF f line c else lineF (doF f line c) line)
def readF(f:Fw)(r s:Int):Fw:={f with r0:=r,r1:=s,ticks:=if f.ticks+1<1099511627776 then f.ticks+1 else 1099511627776}
def heatF(f:Fw):Fw:={f with c0:=f.c0.step f.r0,c1:=f.c1.step f.r1,g0:=f.g0.step f.r0 (f.c0.step f.r0).target (f.c0.duty f.r0),g1:=f.g1.step f.r1 (f.c1.step f.r1).target (f.c1.duty f.r1)}
def duty0(f:Fw):Int:=f.g0.duty f.r0 (f.c0.step f.r0).target (f.c0.duty f.r0)
def duty1(f:Fw):Int:=f.g1.duty f.r1 (f.c1.step f.r1).target (f.c1.duty f.r1)
def newFault(a b:Gu):Bool:=a.fault==0&&!(b.fault==0)
def lostB(f:Fw):Bool:=newFault f.g0 (heatF f).g0||newFault f.g1 (heatF f).g1
def lostF(f:Fw):Fw:=if lostB f=true then {loseF (heatF f)with mode:=3} else heatF f
def warm(c:Co)(g:Gu)(r:Int):Bool:=decide (c.target-g.band≤r)
def waitF(f:Fw):Fw:={f with waits:=if warm f.c1 f.g1 f.r1=true then Gc.andNot (if warm f.c0 f.g0 f.r0=true then Gc.andNot f.waits 1 else f.waits) 2 else(if warm f.c0 f.g0 f.r0=true then Gc.andNot f.waits 1 else f.waits)}
def stepF(f:Fw):Fw:=if endedM (tickM f.mo f.ma.ticks)=true then {f with pos:=add4 f.pos (tickP f.mo f.ma.ticks),mo:=m0,moving:=false,active:=0} else {f with pos:=add4 f.pos (tickP f.mo f.ma.ticks),mo:=tickM f.mo f.ma.ticks}
def runF(f:Fw):Fw:=if 0<f.dwell then {f with dwell:=f.dwell-1} else if(begF f).moving=true then stepF (begF f)else begF f
def runP(f:Fw):V4:=if 0<f.dwell then z4 else if(begF f).moving=true then tickP (begF f).mo (begF f).ma.ticks else z4
def hotF(f:Fw)(r s:Int):Fw:=waitF (lostF (readF f r s))
def tickF(f:Fw)(r s:Int):Fw:=if validF f=false then f else if(hotF f r s).mode=3 then hotF f r s else runF (hotF f r s)
def tickQ(f:Fw)(r s:Int):V4:=if validF f=false then z4 else if(hotF f r s).mode=3 then z4 else runP (hotF f r s)
def tickD(f:Fw)(r s:Int):Int×Int:=if validF f=false then(0,0)else if(hotF f r s).mode=3 then(0,0)else(duty0 (readF f r s),duty1 (readF f r s))
theorem headZ_iff{l:List Int}:headZ l=true↔0<l.length∧l.getD 0 0=0:=by
 cases l with
 |nil=>simp[headZ]
 |cons n l=>simp[headZ]
def lensB(f:Fw):Bool:=decide (f.lines.length=f.queue.length)
theorem returnsB_iff{f:Fw}:returnsB f=true↔(f.moving=true∧f.active=0)∨(f.moving=false∧0<f.lines.length∧f.lines.getD 0 0=0):=by
 cases hm:f.moving
 ·rw[returnsB_off hm,headZ_iff];simp
 ·rw[returnsB_on hm];simp
theorem lensB_iff{f:Fw}:lensB f=true↔f.lines.length=f.queue.length:=by simp only[lensB,decide_eq_true_eq]
def s_returns_x_p:Plan:=.fork .all (.fork (.ln 7 (.lit .all)) (.ln 7 (.lit .all)))
noncomputable def s_returns_x_t(f:Fw):Tree StopX:= .node (f.moving) (.leaf (.fin (.ret (.bool (f.active==0)) [some (.cells (Fw.cells f))]))) (.node (decide ((↑f.queue.length:Int)>0)) (.req (decide (0< (↑f.lines.length:Int))) (.leaf (.fin (.ret (.bool (f.lines.getD 0 0==0)) [some (.cells (Fw.cells f))])))) (.leaf (.fin (.ret (.bool false) [some (.cells (Fw.cells f))]))))
theorem s_returns_x(f:Fw):segX (Env.ofB Tryz.prog (sumOf []) (wrOf []) (pnOf []) (bxOf []) (rdOf []) (rdOf []) (rdOf []) (rdOf [])) 1000 (fnOf Tryz.prog 227) 1 (keepS 31 []) (codeS Tryz.prog 227) s_returns_x_p (startS Tryz.prog 227 [.ptr 0 0]) [some (.cells f.cells)] =s_returns_x_t f:=by kernel_rfl
theorem s_returns(f:Fw)(h:lensB f=true):FCall Tryz.prog 227 [] f (.bool (returnsB f),f):=
 fcall_v (hB (l:=[]) (k:=[]) (j:=[]) (i:=[]) ([] :List Nat) ([] :List Nat) ([] :List Nat) ([] :List Nat) (trivial) noneOk noneOk noneOk) 1000 s_returns_x_p (keep:=(keepS 31 [])) (t:=s_returns_x_t f) (s_returns_x f) (by
  unfold s_returns_x_t
  have z:=headZ_iff (l:=f.lines)
  have hl:=lensB_iff.1 h
  cases hm:f.moving
  ·rw[returnsB_off hm]
   simp only[Tree.holds,hm,sL,ne_eq,beq_iff_eq,bne_iff_ne,eq_self,beq_eq_false_iff_ne,bne_eq_false_iff_eq,implies_true];(repeat' (first|apply And.intro|intro _));
   all_goals first
    |omega
    |(refine ends (congrArg SV.bool ?_) (NilLs.refl _) rfl;rw[Bool.eq_iff_iff,z];first|(simp_all;done)|(simp_all;omega)|grind)
  ·rw[returnsB_on hm]
   simp only[Tree.holds,hm,sL,ne_eq,beq_iff_eq,bne_iff_ne,eq_self,beq_eq_false_iff_ne,bne_eq_false_iff_eq,implies_true];(repeat' (first|apply And.intro|intro _));
   all_goals exact ends rfl (NilLs.refl _) rfl) (by kernel_rfl) (by kernel_rfl) (by kernel_rfl)
theorem s_returnsR(f:Fw):SCall Tryz.prog 169 [f.sv] (.bool (returnsB f)):=
 scall_v mix [] trivial 1000 (.fork .all (.fork (.ln 4 (.lit .all)) (.ln 4 (.lit .all))))
  (t:=.node (f.moving)
 (.leaf (SV.bool (f.active==0)))
 (.node (decide ((↑f.lines.length:Int)>0))
  (.req (decide (0< (↑f.lines.length:Int))) (.leaf (SV.bool (f.lines.getD 0 0==0))))
  (.leaf (SV.bool false))))
   (by kernel_rfl) (by
    have z:=headZ_iff (l:=f.lines)
    cases hm:f.moving
    ·rw[returnsB_off hm]
     simp only[Tree.holds,hm,sL,ne_eq,beq_iff_eq,bne_iff_ne,eq_self,beq_eq_false_iff_ne,bne_eq_false_iff_eq,implies_true];(repeat' (first|apply And.intro|intro _));
     all_goals first
      |omega
      |(refine congrArg SV.bool ?_;rw[Bool.eq_iff_iff,z];first|(simp_all;done)|(simp_all;omega)|grind)
    ·rw[returnsB_on hm]
     simp only[Tree.holds,hm,sL,ne_eq,beq_iff_eq,bne_iff_ne,eq_self,beq_eq_false_iff_ne,bne_eq_false_iff_eq,implies_true];(repeat' (first|apply And.intro|intro _));
     all_goals rfl) (by kernel_rfl) (by kernel_rfl)
def fReturnsR:Fact:=factF1 169 fun f=>.leaf (.bool (returnsB f))
theorem o_returnsR:fReturnsR.ok Tryz.prog:=factF1_ok (fun f=>s_returnsR f)
def op0_p:Plan:=.fork (.ln 6 (.fork .all .all)) (.ln 6 (.lit .all))
noncomputable def op0_t(f:Fw):Tree StopX:= .node (f.moving) (.node (decide (f.active>0)) (.leaf (.fin (.ret (.int .i64 f.active) [some (.cells (Fw.cells f))]))) (.leaf (.at (loopOf Tryz.prog 228 0) 43 (slotsS 43 [(0,.ptr 0 0),(27,.list (Ty.int IntKind.i64) f.lines),(28,.int .i64 (↑f.lines.length:Int)),(29,.int .i64 0)]) [some (.cells (Fw.cells f))]))) (.leaf (.at (loopOf Tryz.prog 228 0) 43 (slotsS 43 [(0,.ptr 0 0),(27,.list (Ty.int IntKind.i64) f.lines),(28,.int .i64 (↑f.lines.length:Int)),(29,.int .i64 0)]) [some (.cells (Fw.cells f))]))
theorem op0(f:Fw):segX (Env.ofB Tryz.prog (sumOf []) (wrOf []) (pnOf []) (bxOf []) (rdOf []) (rdOf []) (rdOf []) (rdOf [])) 1000 (fnOf Tryz.prog 228) 1 (keepS 43 [0,27,28,29]) (codeS Tryz.prog 228) op0_p (startS Tryz.prog 228 [.ptr 0 0]) [some (.cells f.cells)] =op0_t f:=by kernel_rfl
def op1_p:Plan:=.fork (.fork (.all) (.all)) (.all)
noncomputable def op1_t(f:Fw)(n i:Int):Tree StopX:= .node (decide (i<n)) (.req (decide (0≤i)&&decide (i< (↑f.lines.length:Int))) (.node (decide (f.lines.getD i.toNat 0>0)) (.leaf (.fin (.ret (.int .i64 (f.lines.getD i.toNat 0)) [some (.cells (Fw.cells f))]))) (.leaf (.at (loopOf Tryz.prog 228 0) 43 (slotsS 43 [(0,.ptr 0 0),(27,.list (Ty.int IntKind.i64) f.lines),(28,.int .i64 n),(29,.int .i64 (i64.wrap (i+1)))]) [some (.cells (Fw.cells f))])))) (.leaf (.fin (.ret (.int .i64 (i64.wrap (f.line+1))) [some (.cells (Fw.cells f))])))
theorem op1(f:Fw)(n i:Int):segX (Env.ofB Tryz.prog (sumOf []) (wrOf []) (pnOf []) (bxOf []) (rdOf []) (rdOf []) (rdOf []) (rdOf [])) 1000 (fnOf Tryz.prog 228) 1 (keepS 43 [0,27,28,29]) (loopOf Tryz.prog 228 0) op1_p (slotsS 43 [(0,.ptr 0 0),(27,LI f.lines),(28,I64 n),(29,I64 i)]) [some (.cells f.cells)] =op1_t f n i:=by kernel_rfl
def or0_p:Plan:=.fork (.ln 3 (.fork .all .all)) (.ln 3 (.lit .all))
noncomputable def or0_t(f:Fw):Tree Stop:= .node (f.moving) (.node (decide (f.active>0)) (.leaf (.done (.int .i64 f.active))) (.leaf (.at (loopOf Tryz.prog 170 0) 34 (slotsS 34 [(1,.ptr 0 0),(3,.int .i64 0)]) [some (.cells (Fw.cells f))]))) (.leaf (.at (loopOf Tryz.prog 170 0) 34 (slotsS 34 [(1,.ptr 0 0),(3,.int .i64 0)]) [some (.cells (Fw.cells f))]))
theorem or0(f:Fw):segR (Env.of Tryz.prog (sumOf [])) 1000 (fnOf Tryz.prog 170) .unit (keepS 34 [1,3]) (codeS Tryz.prog 170) or0_p (startS Tryz.prog 170 [f.sv]) [] =or0_t f:=by kernel_rfl
def or1_p:Plan:=.fork (.fork (.all) (.all)) (.all)
noncomputable def or1_t(f:Fw)(i:Int):Tree Stop:= .node (decide (i< (↑f.lines.length:Int))) (.req (decide (0≤i)&&decide (i< (↑f.lines.length:Int))) (.node (decide (f.lines.getD i.toNat 0>0)) (.req (decide (0≤i)&&decide (i< (↑f.lines.length:Int))) (.leaf (.done (.int .i64 (f.lines.getD i.toNat 0))))) (.leaf (.at (loopOf Tryz.prog 170 0) 34 (slotsS 34 [(1,.ptr 0 0),(3,.int .i64 (i64.wrap (i+1)))]) [some (.cells (Fw.cells f))])))) (.leaf (.done (.int .i64 (i64.wrap (f.line+1)))))
theorem or1(f:Fw)(i:Int):segR (Env.of Tryz.prog (sumOf [])) 1000 (fnOf Tryz.prog 170) .unit (keepS 34 [1,3]) (loopOf Tryz.prog 170 0) or1_p (slotsS 34 [(1,.ptr 0 0),(3,I64 i)]) [some (.cells f.cells)] =or1_t f i:=by kernel_rfl
theorem firstL_drop(l:List Int)(d:Int){i:Nat}(hi:i<l.length):firstL (l.drop i) d=if 0<l.getD i 0 then l.getD i 0 else firstL (l.drop (i+1)) d:=by
 rw[List.drop_eq_getElem_cons hi,List.getD_eq_getElem?_getD,List.getElem?_eq_getElem hi]
 rfl
theorem firstL_end(l:List Int)(d:Int):firstL (l.drop l.length) d=d:=by rw[List.drop_length];rfl
theorem op1_loop(f:Fw)(h:shapeB f=true):∀ (k i:Nat),i+k=f.lines.length→
  RunsX Tryz.prog (fnOf Tryz.prog 228) [] 1 (.ret (I64 (firstL (f.lines.drop i) (f.line+1))) [some (.cells f.cells)]) (loopOf Tryz.prog 228 0) (slotsS 43 [(0,.ptr 0 0),(27,LI f.lines),(28,I64 f.lines.length),(29,I64 i)]) [some (.cells f.cells)]
 |k,i,hi=>by
  have s:=shapeB_iff.1 h
  refine runsX_seg (hB (l:=[]) (k:=[]) (j:=[]) (i:=[]) [] [] [] [] trivial noneOk noneOk noneOk) (n:=1000) (keep:=keepS 43 [0,27,28,29]) (p:=op1_p) (Nat.le_refl _) ?_
  erw [op1 f f.lines.length i]
  unfold op1_t
  have t0:(i:Int).toNat=i:=by omega
  have w1:i64.wrap ((i:Int)+1)=((i+1:Nat):Int):=by rw[w64 (by omega) (by omega)];omega
  have w2:i64.wrap (f.line+1)=f.line+1:=w64 (by omega) (by omega)
  match k,hi with
  |0,hi=>
   have hi2:¬((i:Int)<f.lines.length):=by omega
   have hie:i=f.lines.length:=by omega
   simp only[t0,w1,w2,hi2,Tree.holds,decide_eq_true_eq,decide_eq_false_iff_not,false_implies,true_and,true_implies,not_false_eq_true]
   rw[hie,firstL_end]<;>rfl
  |k+1,hi=>
   have hi2:(i:Int)<f.lines.length:=by omega
   have ih:=op1_loop f h k (i+1) (by omega)
   have e:=firstL_drop f.lines (f.line+1) (i:=i) (by omega)
   simp only[t0,w1,w2,hi2,Tree.holds,decide_eq_true_eq,decide_eq_false_iff_not,Bool.and_eq_true,not_true_eq_false,false_implies,true_and,and_true,true_implies]
   refine⟨by omega,fun a=>?_,fun a=>⟨slotsS_len _ _,?_⟩⟩
   ·rw[e,if_pos a]<;>rfl
   ·rw[e,if_neg a];exact ih
theorem s_open(f:Fw)(h:shapeB f=true):FCall Tryz.prog 228 [] f (I64 (openV f),f):=by
 have s:=shapeB_iff.1 h
 refine fcall_runs (cs:=f.cells) (by kernel_rfl) rfl rfl rfl (NilLs.refl _) (runsX_seg (hB (l:=[]) (k:=[]) (j:=[]) (i:=[]) [] [] [] [] trivial noneOk noneOk noneOk) (n:=1000) (keep:=keepS 43 [0,27,28,29]) (p:=op0_p) (Nat.le_refl _) ?_)
 have q:=op0 f
 unfold startS codeS at q
 erw [q]
 unfold op0_t openV
 have lp:=op1_loop f h f.lines.length 0 (by omega)
 cases hm:f.moving
 ·simp only[hm,Tree.holds,Bool.false_eq_true,false_and,if_false,false_implies,true_implies,true_and]
  exact⟨slotsS_len _ _,lp⟩
 ·simp only[hm,Tree.holds,decide_eq_true_eq,decide_eq_false_iff_not,true_and,true_implies,Bool.true_eq_false,false_implies,and_true]
  refine⟨fun a=>?_,fun a=>⟨slotsS_len _ _,?_⟩⟩
  ·rw[if_pos (by omega)]<;>rfl
  ·rw[if_neg (by omega)];exact lp
def bOpen:BFact:=bfact 228 fun f rest=>match rest with
 |[] =>some (.req (shapeB f) (.leaf (I64 (openV f),f)))
 |_=>none
theorem o_bOpen:bOpen.ok Tryz.prog:=bfact_ok fun f rest t ht=>by
 split at ht
 ·injection ht with ht;subst ht;exact fun h=>s_open f h
 ·cases ht
theorem or1_loop(f:Fw)(h:shapeB f=true):∀ (k i:Nat),i+k=f.lines.length→
  RunsR Tryz.prog (fnOf Tryz.prog 170) (I64 (firstL (f.lines.drop i) (f.line+1))) (loopOf Tryz.prog 170 0) (slotsS 34 [(1,.ptr 0 0),(3,I64 i)]) [some (.cells f.cells)]
 |k,i,hi=>by
  have s:=shapeB_iff.1 h
  refine runsR_seg k0 (n:=1000) (hint:=.unit) (keep:=keepS 34 [1,3]) (p:=or1_p) rfl ?_
  erw [or1 f i]
  unfold or1_t
  have t0:(i:Int).toNat=i:=by omega
  have w1:i64.wrap ((i:Int)+1)=((i+1:Nat):Int):=by rw[w64 (by omega) (by omega)];omega
  have w2:i64.wrap (f.line+1)=f.line+1:=w64 (by omega) (by omega)
  match k,hi with
  |0,hi=>
   have hi2:¬((i:Int)<f.lines.length):=by omega
   have hie:i=f.lines.length:=by omega
   simp only[t0,w1,w2,hi2,Tree.holds,decide_eq_true_eq,decide_eq_false_iff_not,false_implies,true_and,true_implies,not_false_eq_true]
   rw[hie,firstL_end]<;>rfl
  |k+1,hi=>
   have hi2:(i:Int)<f.lines.length:=by omega
   have ih:=or1_loop f h k (i+1) (by omega)
   have e:=firstL_drop f.lines (f.line+1) (i:=i) (by omega)
   simp only[t0,w1,w2,hi2,Tree.holds,decide_eq_true_eq,decide_eq_false_iff_not,Bool.and_eq_true,not_true_eq_false,false_implies,true_and,and_true,true_implies]
   refine⟨by omega,fun a=>⟨by omega,?_⟩,fun a=>⟨slotsS_len _ _,?_⟩⟩
   ·rw[e,if_pos a]<;>rfl
   ·rw[e,if_neg a];exact ih
theorem s_openR(f:Fw)(h:shapeB f=true):SCall Tryz.prog 170 [f.sv] (I64 (openV f)):=by
 refine scallR_loops rfl rfl (by kernel_rfl) (runsR_seg k0 (n:=1000) (hint:=.unit) (keep:=keepS 34 [1,3]) (p:=or0_p) (boxes:=[]) rfl ?_)
 have q:=or0 f
 unfold startS codeS at q
 erw [q]
 unfold or0_t openV
 have lp:=or1_loop f h f.lines.length 0 (by omega)
 cases hm:f.moving
 ·simp only[hm,Tree.holds,Bool.false_eq_true,false_and,if_false,false_implies,true_implies,true_and]
  exact⟨slotsS_len _ _,lp⟩
 ·simp only[hm,Tree.holds,decide_eq_true_eq,decide_eq_false_iff_not,true_and,true_implies,Bool.true_eq_false,false_implies,and_true]
  refine⟨fun a=>?_,fun a=>⟨slotsS_len _ _,?_⟩⟩
  ·rw[if_pos (by omega)]<;>rfl
  ·rw[if_neg (by omega)];exact lp
def fOpenR:Fact:=factF1 170 fun f=>.req (shapeB f) (.leaf (I64 (openV f)))
theorem o_openR:fOpenR.ok Tryz.prog:=factF1_ok fun f h=>s_openR f h
theorem nil_leaf{g y:Fw}(h:g=y)(q:g.queue=[])(l:g.lines=[]):NilLs (nilC g) y.cells:=by subst h;exact nilC_ok g q l
def s_lose_x_p:Plan:=.fork (.ln 6 (.fork (.fork (.ln 4 (.lit .all)) (.ln 4 (.lit .all))) (.fork (.lit (.fork (.lit (.lit (.fork (.fork (.ln 4 (.lit .all)) (.ln 4 (.lit .all))) (.fork (.ln 4 (.lit .all)) (.ln 4 (.lit .all)))))) (.fork (.ln 10 (.fork (.fork (.ln 4 (.lit .all)) (.ln 4 (.lit .all))) (.fork (.ln 4 (.lit .all)) (.ln 4 (.lit .all))))) (.ln 11 (.fork (.ln 4 (.lit .all)) (.ln 4 (.lit .all))))))) (.ln 4 (.fork (.ln 4 (.lit .all)) (.ln 4 (.lit .all))))))) (.ln 7 (.fork (.lit (.fork (.lit (.lit (.fork (.fork (.ln 4 (.lit .all)) (.ln 4 (.lit .all))) (.fork (.ln 4 (.lit .all)) (.ln 4 (.lit .all)))))) (.fork (.ln 10 (.fork (.fork (.ln 4 (.lit .all)) (.ln 4 (.lit .all))) (.fork (.ln 4 (.lit .all)) (.ln 4 (.lit .all))))) (.ln 11 (.fork (.ln 4 (.lit .all)) (.ln 4 (.lit .all))))))) (.ln 4 (.fork (.ln 4 (.lit .all)) (.ln 4 (.lit .all))))))
noncomputable def s_lose_x_t(f:Fw):Tree StopX:=let y2:=Fw.mk f.ma f.mode f.homed f.pos f.loc f.e f.feed f.queue f.lines f.mo f.moving f.active f.back (begin4 f) f.dwell f.waits f.c0 f.c1 f.g0 f.g1 f.fan f.line f.ticks f.cold f.r0 f.r1;let y3:=Fw.mk f.ma f.mode f.homed f.pos f.loc f.e f.feed f.queue f.lines f.mo f.moving f.active f.back f.pos f.dwell f.waits f.c0 f.c1 f.g0 f.g1 f.fan f.line f.ticks f.cold f.r0 f.r1;let y5:=(((0,0,0,0),0,0,0,0),0,0);let y0:Tree StopX:=.req (shapeB y3) (.node (y3.back) (.leaf (.fin (.ret (.tuple []) [some (.cells (nilC {y3 with homed:=false,queue:=[],lines:=[],mo:=y5,moving:=false,active:=0,back:=true,dwell:=0,waits:=0,line:=(i64.wrap (openV y3-1))}))]))) (.leaf (.fin (.ret (.tuple []) [some (.cells (nilC {y3 with homed:=false,queue:=[],lines:=[],mo:=y5,moving:=false,active:=0,back:=y3.homed,dwell:=0,waits:=0,line:=(i64.wrap (openV y3-1))}))]))));let y1:Tree StopX:=.req (shapeB f) (.node (f.back) (.leaf (.fin (.ret (.tuple []) [some (.cells (nilC {f with homed:=false,queue:=[],lines:=[],mo:=y5,moving:=false,active:=0,back:=true,dwell:=0,waits:=0,line:=(i64.wrap (openV f-1))}))]))) (.leaf (.fin (.ret (.tuple []) [some (.cells (nilC {f with homed:=false,queue:=[],lines:=[],mo:=y5,moving:=false,active:=0,back:=f.homed,dwell:=0,waits:=0,line:=(i64.wrap (openV f-1))}))]))));let y4:Tree StopX:=.node (f.homed) (.node (f.moving) (.node (!f.active==0) y0 y1) (.node (decide ((↑f.queue.length:Int)>0)) (.req (decide (0< (↑f.lines.length:Int))) (.node (!f.lines.getD 0 0==0) y0 y1)) y0)) y1; .node (f.moving) (.node (decide (f.active>0)) (.req (big4 f.pos) (.req (shapeB y2) (.node (y2.back) (.leaf (.fin (.ret (.tuple []) [some (.cells (nilC {y2 with homed:=false,queue:=[],lines:=[],mo:=y5,moving:=false,active:=0,back:=true,dwell:=0,waits:=0,line:=(i64.wrap (openV y2-1))}))]))) (.leaf (.fin (.ret (.tuple []) [some (.cells (nilC {y2 with homed:=false,queue:=[],lines:=[],mo:=y5,moving:=false,active:=0,back:=y2.homed,dwell:=0,waits:=0,line:=(i64.wrap (openV y2-1))}))])))))) y4) y4
theorem s_lose_x(f:Fw):segX (Env.ofB Tryz.prog (sumOf [fBegin]) (wrOf []) (pnOf [BFact.toP bOpen]) (bxOf [bOpen]) (rdOf []) (rdOf []) (rdOf []) (rdOf [])) 1000 (fnOf Tryz.prog 164) 1 (keepS 101 []) (codeS Tryz.prog 164) s_lose_x_p (startS Tryz.prog 164 [.ptr 0 0]) [some (.cells f.cells)] =s_lose_x_t f:=by kernel_rfl
theorem s_lose(f:Fw)(h:shapeB f=true):FCall Tryz.prog 164 [] f (.tuple [],loseF f):=
 fcall_v (hB (l:=[fBegin]) (k:=[]) (j:=[BFact.toP bOpen]) (i:=[bOpen]) ([] :List Nat) ([] :List Nat) ([] :List Nat) ([] :List Nat) (⟨o_begin,trivial⟩) noneOk (allQ.all (p:=PFact.ok Tryz.prog) (l:=[BFact.toP bOpen]) ⟨BFact.toP_ok o_bOpen,trivial⟩) (allQ.all (p:=BFact.ok Tryz.prog) (l:=[bOpen]) ⟨o_bOpen,trivial⟩)) 1000 s_lose_x_p (keep:=(keepS 101 [])) (t:=s_lose_x_t f) (s_lose_x f) (by
  unfold s_lose_x_t
  have sh:=shapeB_iff.1 h
  have rb:=returnsB_iff (f:=f)
  have ov:=openV_rng h
  have w1:=w64 (x:=openV f-1) (by omega) (by omega)
  have e3:loseF f={loseF f with line:=i64.wrap (openV f-1)}:=by rw[w1];rfl
  cases hbk:f.back
  all_goals
  simp only[Tree.holds,hbk,sL,ne_eq,beq_iff_eq,bne_iff_ne,eq_self,beq_eq_false_iff_ne,bne_eq_false_iff_eq,implies_true];(repeat' (first|apply And.intro|intro _));
  all_goals first
   |exact h
   |exact sh.1
   |omega
   |(have e:loseRet f=begin4 f:=if_pos (by grind)
     refine ends rfl (nil_leaf ?_ rfl rfl) rfl;rw[e3];unfold loseF;rw[e,hbk];rfl)
   |(have e:loseRet f=wsub4 f.pos (madeM f.mo):=by rw[show loseRet f=begin4 f from if_pos (by grind),begin4_on (by assumption),wsub4_eq sh.1 (made_big f.mo)]
     refine ends rfl (nil_leaf ?_ rfl rfl) rfl;rw[e3];unfold loseF;rw[e,hbk];rfl)
   |(have e:loseRet f=f.pos:=by unfold loseRet;rw[if_neg (by grind),if_pos (by grind)]
     refine ends rfl (nil_leaf ?_ rfl rfl) rfl;rw[e3];unfold loseF;rw[e,hbk];rfl)
   |(have e:loseRet f=f.ret:=by unfold loseRet;rw[if_neg (by grind),if_neg (by grind)]
     refine ends rfl (nil_leaf ?_ rfl rfl) rfl;rw[e3];unfold loseF;rw[e,hbk];rfl)) (by kernel_rfl) (by kernel_rfl) (by kernel_rfl)
def bLose:BFact:=bfact 164 fun f rest=>match rest with
 |[] =>some (.req (shapeB f) (.leaf (.tuple [],loseF f)))
 |_=>none
theorem o_blose:bLose.ok Tryz.prog:=bfact_ok fun f rest t ht=>by
 split at ht
 ·injection ht with ht;subst ht;exact fun h=>s_lose f h
 ·cases ht
theorem s_loseR(f:Fw)(h:shapeB f=true):SCall Tryz.prog 81 [f.sv] (.agg (nilC (loseF f))):=
 scall_v mix [fReturnsR,fOpenR,fMnsR,fMadeR] ⟨o_returnsR,o_openR,o_mnsR,o_madeR,trivial⟩ 1000 (.fork (.ln 3 (.fork (.fork (.lit (.lit .all)) (.lit (.lit .all))) (.fork (.lit (.lit (.fork (.fork (.lit (.lit .all)) (.lit (.lit .all))) (.fork (.lit (.lit .all)) (.lit (.lit .all)))))) (.ln 3 (.fork (.lit (.lit .all)) (.lit (.lit .all))))))) (.ln 4 (.fork (.lit (.lit (.fork (.fork (.lit (.lit .all)) (.lit (.lit .all))) (.fork (.lit (.lit .all)) (.lit (.lit .all)))))) (.ln 3 (.fork (.lit (.lit .all)) (.lit (.lit .all)))))))
  (t:=let y2:=Fw.mk f.ma f.mode f.homed f.pos f.loc f.e f.feed f.queue f.lines f.mo f.moving f.active f.back (wsub4 f.pos (madeM f.mo)) f.dwell f.waits f.c0 f.c1 f.g0 f.g1 f.fan f.line f.ticks f.cold f.r0 f.r1;let y3:=Fw.mk f.ma f.mode f.homed f.pos f.loc f.e f.feed f.queue f.lines f.mo f.moving f.active f.back f.pos f.dwell f.waits f.c0 f.c1 f.g0 f.g1 f.fan f.line f.ticks f.cold f.r0 f.r1;let y4:=(((0,0,0,0),0,0,0,0),0,0);let y1:Tree SV:=.req (shapeB f) (.node (f.back) (.leaf (.agg (nilC {f with homed:=false,queue:=[],lines:=[],mo:=y4,moving:=false,active:=0,back:=true,dwell:=0,waits:=0,line:=(i64.wrap (openV f-1))}))) (.leaf (.agg (nilC {f with homed:=false,queue:=[],lines:=[],mo:=y4,moving:=false,active:=0,back:=f.homed,dwell:=0,waits:=0,line:=(i64.wrap (openV f-1))}))));let y0:Tree SV:=.node (!returnsB f) (.node (f.homed) (.req (shapeB y3) (.node (f.back) (.leaf (.agg (nilC {f with homed:=false,queue:=[],lines:=[],mo:=y4,moving:=false,active:=0,back:=true,ret:=f.pos,dwell:=0,waits:=0,line:=(i64.wrap (openV y3-1))}))) (.leaf (.agg (nilC {f with homed:=false,queue:=[],lines:=[],mo:=y4,moving:=false,active:=0,back:=f.homed,ret:=f.pos,dwell:=0,waits:=0,line:=(i64.wrap (openV y3-1))}))))) y1) y1;.node (f.moving) (.node (decide (f.active>0)) (.req (shapeB y2) (.node (f.back) (.leaf (.agg (nilC {f with homed:=false,queue:=[],lines:=[],mo:=y4,moving:=false,active:=0,back:=true,ret:=(wsub4 f.pos (madeM f.mo)),dwell:=0,waits:=0,line:=(i64.wrap (openV y2-1))}))) (.leaf (.agg (nilC {f with homed:=false,queue:=[],lines:=[],mo:=y4,moving:=false,active:=0,back:=f.homed,ret:=(wsub4 f.pos (madeM f.mo)),dwell:=0,waits:=0,line:=(i64.wrap (openV y2-1))}))))) y0) y0)
  (by kernel_rfl) (by
   have sh:=shapeB_iff.1 h
   have rb:=returnsB_iff (f:=f)
   have ov:=openV_rng h
   have w1:=w64 (x:=openV f-1) (by omega) (by omega)
   have e3:loseF f={loseF f with line:=i64.wrap (openV f-1)}:=by rw[w1];rfl
   cases hbk:f.back
   all_goals
   simp only[Tree.holds,hbk,sL,ne_eq,beq_iff_eq,bne_iff_ne,eq_self,beq_eq_false_iff_ne,bne_eq_false_iff_eq,implies_true];(repeat' (first|apply And.intro|intro _));
   all_goals first
    |exact h
    |exact sh.1
    |omega
    |(have e:loseRet f=begin4 f:=if_pos (by grind)
      rw[e3];unfold loseF;rw[e,hbk];rfl)
    |(have e:loseRet f=wsub4 f.pos (madeM f.mo):=by rw[show loseRet f=begin4 f from if_pos (by grind),begin4_on (by assumption),wsub4_eq sh.1 (made_big f.mo)]
      rw[e3];unfold loseF;rw[e,hbk];rfl)
    |(have e:loseRet f=f.pos:=by unfold loseRet;rw[if_neg (by grind),if_pos (by grind)]
      rw[e3];unfold loseF;rw[e,hbk];rfl)
    |(have e:loseRet f=f.ret:=by unfold loseRet;rw[if_neg (by grind),if_neg (by grind)]
      rw[e3];unfold loseF;rw[e,hbk];rfl)) (by kernel_rfl) (by kernel_rfl)
theorem nil_agg{cs ds:List SV}(hn:NilLs cs ds)(R:Nat→Prop)(ρ:Rho)(n:Nat)(w:World)(u:Value)(h:Rep R ρ n w (.agg cs) u):Rep R ρ n w (.agg ds) u:=by
 obtain⟨ws,h3,h4⟩:=h
 exact⟨ws,h3,hn.rep h4⟩
theorem s_loseR'(f:Fw)(h:shapeB f=true):SCall Tryz.prog 81 [f.sv] (loseF f).sv:=scall_val (s_loseR f h) (nil_agg (nilC_ok _ rfl rfl))
def fLoseR:Fact:=factF1 81 fun f=>.req (shapeB f) (.leaf (loseF f).sv)
theorem o_loseR:fLoseR.ok Tryz.prog:=factF1_ok (fun f h=>s_loseR' f h)
def s_sta_x_p:Plan:=.fork (.ln 21 (.lit .all)) (.ln 7 (.fork (.ln 13 (.lit .all)) (.ln 6 (.fork (.ln 6 (.lit .all)) (.ln 6 (.fork .all (.fork .all .all)))))))
noncomputable def s_sta_x_t(f:Fw):Tree StopX:=let y0:Tree StopX:=.leaf (.fin (.ret (.bool false) [some (.cells (Fw.cells f))]));let y1:=(↑f.queue.length:Int);let y2:=(↑f.lines.length:Int);let y3:=List.drop 1 f.queue;let y4:=List.drop 1 f.lines; .node (f.moving) y0 (.node (y1==0) y0 (.node (f.mode==3) y0 (.node (f.dwell != 0) y0 (.req (decide (0<y1)) (.node (okS (f.queue.getD 0 dBk) f.ma.ticks) (.req (decide (0<y2)) (.req (decide (1≤y1)) (.req (few2 y3.length) (.req (decide (1≤y2)) (.req (few2 y4.length) (.leaf (.fin (.ret (.bool true) [some (.cells (Fw.cells {f with queue:=y3,lines:=y4,mo:=(startM (f.queue.getD 0 dBk) f.ma.ticks),moving:=true,active:=(f.lines.getD 0 0)}))])))))))) (.req (decide (0<y2)) (.req (decide (1≤y1)) (.req (few2 y3.length) (.req (decide (1≤y2)) (.req (few2 y4.length) (.leaf (.fin (.ret (.bool true) [some (.cells (Fw.cells {f with queue:=y3,lines:=y4,mo:=(((0,0,0,0),0,0,0,0),0,0),moving:=true,active:=(f.lines.getD 0 0)}))])))))))))))))
theorem s_sta_x(f:Fw):segX (Env.ofB Tryz.prog (sumOf [fStart,fCloB,fCloI]) (wrOf []) (pnOf []) (bxOf []) (rdOf []) (rdOf []) (rdOf []) (rdOf [])) 1000 (fnOf Tryz.prog 84) 1 (keepS 91 []) (codeS Tryz.prog 84) s_sta_x_p (startS Tryz.prog 84 [.ptr 0 0]) [some (.cells f.cells)] =s_sta_x_t f:=by kernel_rfl
theorem s_sta(f:Fw)(h:shapeB f=true):FCall Tryz.prog 84 [] f (.bool (canStart f),begF f):=
 fcall_v (hB (l:=[fStart,fCloB,fCloI]) (k:=[]) (j:=[]) (i:=[]) ([] :List Nat) ([] :List Nat) ([] :List Nat) ([] :List Nat) (⟨o_start,o_cloB,o_cloI,trivial⟩) noneOk noneOk noneOk) 1000 s_sta_x_p (keep:=(keepS 91 [])) (t:=s_sta_x_t f) (s_sta_x f) (by
  unfold s_sta_x_t
  have sh:=shapeB_iff.1 h
  have ci:=canStart_iff (f:=f)
  cases hc:canStart f
  ·have hn:¬(f.moving=false∧¬f.queue.length=0∧¬f.mode=3∧f.dwell=0):=fun a=>by rw[ci.2 a]at hc;cases hc
   simp only[Tree.holds,sL,ne_eq,beq_iff_eq,bne_iff_ne,eq_self,beq_eq_false_iff_ne,bne_eq_false_iff_eq,implies_true];(repeat' (first|apply And.intro|intro _));
   all_goals first
    |(exfalso;first|omega|grind)
    |(rw[begF_no hc];exact ends rfl (NilLs.refl _) rfl)
  ·have hy:=ci.1 hc
   rw[begF_yes hc]
   simp only[Tree.holds,sL,ne_eq,beq_iff_eq,bne_iff_ne,eq_self,beq_eq_false_iff_ne,bne_eq_false_iff_eq,implies_true];(repeat' (first|apply And.intro|intro _));
   all_goals first
    |omega
    |(rw[few2_iff];simp;omega)
    |(exfalso;first|omega|grind)
    |(unfold startF;rw[startMo_yes (by assumption)];exact ends rfl (NilLs.refl _) rfl)
    |(unfold startF;rw[startMo_no (by assumption)];exact ends rfl (NilLs.refl _) rfl)) (by kernel_rfl) (by kernel_rfl) (by kernel_rfl)
def bStart:BFact:=bfact 84 fun f rest=>match rest with
 |[] =>some (.req (shapeB f) (.leaf (.bool (canStart f),begF f)))
 |_=>none
theorem o_bstart:bStart.ok Tryz.prog:=bfact_ok fun f rest t ht=>by
 split at ht
 ·injection ht with ht;subst ht;exact fun h=>s_sta f h
 ·cases ht
def addPre(f:Fw)(c:V4)(len:Int):Bool:=okL f.ma c&& (ok63 len&& (ok63 f.feed&& (f.queue.all soundB&& (lensB f&& (decide (f.queue.length≤1000)&&inR (entryV f) 0 1099511627776)))))
theorem addPre_iff{f:Fw}{c:V4}{len:Int}:addPre f c len=true↔okL f.ma c=true∧ok63 len=true∧ok63 f.feed=true∧(∀b∈f.queue,soundB b=true)∧f.lines.length=f.queue.length∧f.queue.length≤1000∧0≤entryV f∧entryV f≤1099511627776:=by
 simp only[addPre,Bool.and_eq_true,List.all_eq_true,lensB_iff,decide_eq_true_eq,inR_iff]
theorem ok63_iff{x:Int}:ok63 x=true↔-9223372036854775808≤x∧x≤9223372036854775807:=inR_iff
theorem capJ_rng(m:Ma)(q:List Bk)(i:Nat):0≤capJ m q i∧capJ m q i≤1099511627776:=by
 unfold capJ
 split
 ·omega
 ·have:=sq_rng (junV_rng m (q.getD (i-1) dBk).1 (q.getD i dBk).1);omega
theorem capsV_len(m:Ma)(q:List Bk):(capsV m q).length=q.length:=by simp[capsV]
theorem addQ_len(f:Fw)(c:V4)(len:Int):(addQ f c len).length=f.queue.length+1:=by simp[addQ]
theorem newB_sound{f:Fw}{c:V4}{len:Int}(h:addPre f c len=true):soundB (newB f.ma c len f.feed)=true:=by
 obtain⟨h1,h2,h3,_⟩:=addPre_iff.1 h
 have a:=accV_rng h1
 have s:=spdV_rng h1 (l:=len) (f:=f.feed) (ok63_iff.1 h2).2 (ok63_iff.1 h3).2
 have q:=sq_pos (v:=spdV f.ma c len f.feed) (M:=1048576) (by omega)
 exact soundB_iff.2 ⟨(okL_iff.1 h1).2,a,by show 1≤spdV f.ma c len f.feed*spdV f.ma c len f.feed;omega,by show spdV f.ma c len f.feed*spdV f.ma c len f.feed≤1099511627776;omega⟩
theorem add_plOk{f:Fw}{c:V4}{len:Int}(h:addPre f c len=true):PlOk (addQ f c len) (capsV f.ma (addQ f c len)) (entryV f):=by
 have p:=addPre_iff.1 h
 refine⟨by rw[addQ_len];omega,fun b hb=>?_,capsV_len _ _,fun x hx=>?_,p.2.2.2.2.2.2⟩
 ·unfold addQ at hb
  rcases List.mem_append.1 hb with hb|hb
  ·exact p.2.2.2.1 b hb
  ·rw[List.mem_singleton.1 hb];exact newB_sound h
 ·unfold capsV at hx
  obtain⟨i,_,rfl⟩:=List.mem_map.1 hx
  exact capJ_rng _ _ _
theorem add_okPl{f:Fw}{c:V4}{len:Int}(h:addPre f c len=true):okPl (addQ f c len) (capsV f.ma (addQ f c len)) (entryV f)=true:=
 okPl_iff.2 ⟨by have:=(addPre_iff.1 h).2.2.2.2.2.1;rw[addQ_len];omega,add_plOk h⟩
theorem caps_list{m:Ma}{q:List Bk}{s:List Int}(hs:s.length=q.length)(h:∀t,t<q.length→s.getD t 0=capJ m q t):s=capsV m q:=list_eq_map hs h
theorem wsq{v:Int}(hv:0≤v∧v≤1048576):i64.wrap (v*v)=v*v:=by
 have:=sq_rng hv
 exact w64 (by omega) (by omega)
theorem capJ_succ(m:Ma)(q:List Bk){i:Nat}(h:1≤i):capJ m q i=junV m (q.getD (i-1) dBk).1 (q.getD i dBk).1*junV m (q.getD (i-1) dBk).1 (q.getD i dBk).1:=if_neg (by omega)
theorem wrA:∀x∈[fPla.frz],x.ok Tryz.prog:=allQ.all (p:=WFact.ok Tryz.prog) (l:=[fPla.frz]) ⟨Fact.frz_ok o_pla,trivial⟩
def bAdd:BFact:=bfact 215 fun f rest=>match rest with
 |[.agg [.int .i64 a,.int .i64 b,.int .i64 c,.int .i64 d],.int .i64 len,.int .i64 line] =>some (.req (addPre f (a,b,c,d) len) (.node (addOk f (a,b,c,d) len) (.leaf (I64 0,addF f (a,b,c,d) len line)) (.leaf (I64 2,f))))
 |_=>none
section
variable {g:Fw} {line e:Int} {u:V3} {p d:V4}
end
structure VF (f:Fw):Prop where
 ma:f.ma.ok=true
 c0:f.c0.ok=true
 c1:f.c1.ok=true
 g0:f.g0.ok=true
 g1:f.g1.ok=true
 mode:1≤f.mode∧f.mode≤3
 nums:(-16777216≤f.loc.1∧f.loc.1≤16777216)∧(-16777216≤f.loc.2.1∧f.loc.2.1≤16777216)∧(-16777216≤f.loc.2.2∧f.loc.2.2≤16777216)∧(-16777216≤f.e∧f.e≤16777216)∧(0≤f.feed∧f.feed≤1048576)∧(0≤f.dwell∧f.dwell≤1048576)∧(0≤f.waits∧f.waits≤3)∧(0≤f.fan∧f.fan≤255)∧(0≤f.line∧f.line≤1099511627776)∧(0≤f.active∧f.active≤1099511627776)∧(0≤f.ticks∧f.ticks≤1099511627776)∧0≤f.cold∧f.cold≤400000
 moves:movesB f=true
 queued:queuedB f=true
 ends:(¬f.mode=3∧f.homed=true)∨(f.moving=false∧f.queue.length=0)
 len:f.queue.length≤32
 lens:f.lines.length=f.queue.length
 pos:near4 f.pos=true
 ret:near4 f.ret=true
 beg:near4 (begin4 f)=true
 q0:near4 (queue0 f)=true
 blk:∀i,i<f.queue.length→blkOK (queue0 f) f.queue f.lines i=true
theorem vf_of{f:Fw}(h:validF f=true):VF f:=by
 obtain⟨h1,h2,h3,h4,h5⟩:=validF_iff.1 h
 obtain⟨a1,a2,a3,a4,a5⟩:=partsB_iff.1 h1
 obtain⟨b1,b2⟩:=modNumB_iff.1 h2
 obtain⟨q1,q2,q3,q4,q5,q6,q7⟩:=queuedB_iff.1 h4
 exact⟨a1,a2,a3,a4,a5,b1,numsB_iff.1 b2,h3,h4,endB_iff.1 h5,q1,q2,q3,q4,q5,q6,q7⟩
theorem getD_of_mem{α:Type}{l:List α}{x d:α}(h:x∈l):∃i,i<l.length∧l.getD i d=x:=by
 obtain⟨i,hi,e⟩:=List.getElem_of_mem h
 exact⟨i,hi,by rw[List.getD_eq_getElem?_getD,List.getElem?_eq_getElem hi];exact e⟩
theorem blk_use{p:V4}{q:List Bk}{ls:List Int}{i:Nat}(h:blkOK p q ls i=true):validB (q.getD i dBk)=true∧(0≤ls.getD i 0∧ls.getD i 0≤1099511627776)∧near4 (posAt p q (i+1))=true:=by
 simp only[blkOK,Bool.and_eq_true,inR_iff]at h;exact h
theorem VF.blocks{f:Fw}(v:VF f):∀b∈f.queue,validB b=true:=fun b hb=>by
 obtain⟨i,hi,rfl⟩:=getD_of_mem (d:=dBk) hb
 exact(blk_use (v.blk i hi)).1
theorem VF.linesR{f:Fw}(v:VF f):∀n∈f.lines,0≤n∧n≤1099511627776:=fun n hn=>by
 obtain⟨i,hi,rfl⟩:=getD_of_mem (d:=(0:Int)) hn
 exact(blk_use (v.blk i (by have:=v.lens;omega))).2.1
theorem VF.shape{f:Fw}(v:VF f):shapeB f=true:=shapeB_iff.2 ⟨near_big v.pos,v.lens,v.len,by have:=v.nums;omega,by have:=v.nums;omega,v.linesR⟩
theorem VF.sound{f:Fw}(v:VF f):∀b∈f.queue,soundB b=true:=fun b hb=>by
 have:=v.blocks b hb
 unfold validB at this
 rw[Bool.and_eq_true]at this
 exact this.1
section
variable {f:Fw} {line:Int} {c:Gc.C}
end
def hm0_p:Plan:=.fork .all (.fork .all (.fork (.ln 5 (.fork (.fork (.lit .all) (.lit .all)) (.fork (.fork .all .all) (.fork .all .all)))) (.ln 6 (.fork (.fork .all .all) (.fork .all .all)))))
noncomputable def hm0_t(f:Fw)(line:Int)(c:Gc.C):Tree StopX:=let y1:=slotsS 148 [(0,.ptr 0 0),(115,.agg [.int .i64 0,.int .i64 0,.int .i64 f.pos.2.2.1,.int .i64 0,.int .i64 f.pos.1,.int .i64 f.pos.2.1,.int .i64 0,.int .i64 0]),(116,.int .i64 0)];let y2:=slotsS 148 [(0,.ptr 0 0),(115,.agg [.int .i64 0,.int .i64 0,.int .i64 f.ret.2.2.1,.int .i64 0,.int .i64 f.ret.1,.int .i64 f.ret.2.1,.int .i64 0,.int .i64 0]),(116,.int .i64 0)];let y3:=(0,0,0,f.pos.2.2.2);let y4:=loopOf Tryz.prog 148 0;let y5:=unitsN (axM f.ma 3) f.pos.2.2.2;let y0:Tree StopX:=.req true (.req (true) (.req true (.node (unOk f.ma f.pos.2.2.2) (.node (!f.back) (.leaf (.fin (.ret (.int .i64 0) [some (.cells (Fw.cells {f with homed:=true,pos:=y3,loc:=(0,0,0),e:=y5}))]))) (.req true (.req (true) (.req true (.leaf (.at y4 148 y2 [some (.cells (Fw.cells {f with homed:=true,pos:=y3,loc:=(0,0,0),e:=y5,back:=false}))])))))) (.node (!f.back) (.leaf (.fin (.ret (.int .i64 0) [some (.cells (Fw.cells {f with homed:=true,pos:=y3,loc:=(0,0,0),e:=0}))]))) (.req true (.req (true) (.req true (.leaf (.at y4 148 y2 [some (.cells (Fw.cells {f with homed:=true,pos:=y3,loc:=(0,0,0),e:=0,back:=false}))]))))))))); .node (!idleB f) (.leaf (.fin (.ret (.int .i64 18) [some (.cells (Fw.cells f))]))) (.node (f.mode != 1) (.leaf (.fin (.ret (.int .i64 14) [some (.cells (Fw.cells f))]))) (.node (line==0) (.node (f.homed) (.req true (.req (true) (.req true (.node (unOk f.ma f.pos.2.2.2) (.req true (.req (true) (.req true (.leaf (.at y4 148 y1 [some (.cells (Fw.cells {f with homed:=true,pos:=y3,loc:=(0,0,0),e:=y5,back:=false,ret:=f.pos}))]))))) (.req true (.req (true) (.req true (.leaf (.at y4 148 y1 [some (.cells (Fw.cells {f with homed:=true,pos:=y3,loc:=(0,0,0),e:=0,back:=false,ret:=f.pos}))]))))))))) y0) y0))
theorem hm0(f:Fw)(line:Int)(c:Gc.C):segX (Env.ofB Tryz.prog (sumOf [fIdle,fUni,fPos]) (wrOf []) (pnOf [BFact.toP bAdd]) (bxOf [bAdd]) (rdOf []) (rdOf []) (rdOf []) (rdOf [])) 1000 (fnOf Tryz.prog 148) 1 (keepS 148 [0,115,116]) (codeS Tryz.prog 148) hm0_p (startS Tryz.prog 148 [.ptr 0 0,I64 line,c.sv]) [some (.cells f.cells)] =hm0_t f line c:=by kernel_rfl
def hm1_p:Plan:=.lit (.fork (.all) (.fork (.lit (.all)) (.lit (.all))))
noncomputable def hm1_t(g:Fw)(c d:V4):Tree StopX:= .req (true) (.node (c.1==0&& (c.2.1==0&& (c.2.2.1==0&& (c.2.2.2==0&&true)))) (.leaf (.at (loopOf Tryz.prog 148 0) 148 (slotsS 148 [(0,.ptr 0 0),(115,.agg [.int .i64 c.1,.int .i64 c.2.1,.int .i64 c.2.2.1,.int .i64 c.2.2.2,.int .i64 d.1,.int .i64 d.2.1,.int .i64 d.2.2.1,.int .i64 d.2.2.2]),(116,.int .i64 1)]) [some (.cells (Fw.cells g))])) (.req (addPre g c 0) (.node (addOk g c 0) (.leaf (.at (loopOf Tryz.prog 148 0) 148 (slotsS 148 [(0,.ptr 0 0),(115,.agg [.int .i64 c.1,.int .i64 c.2.1,.int .i64 c.2.2.1,.int .i64 c.2.2.2,.int .i64 d.1,.int .i64 d.2.1,.int .i64 d.2.2.1,.int .i64 d.2.2.2]),(116,.int .i64 1)]) [some (.cells (Fw.cells (addF g c 0 0)))])) (.leaf (.fin (.ret (.int .i64 2) [some (.cells (Fw.cells g))]))))))
theorem hm1(g:Fw)(c d:V4):segX (Env.ofB Tryz.prog (sumOf [fIdle,fUni,fPos]) (wrOf []) (pnOf [BFact.toP bAdd]) (bxOf [bAdd]) (rdOf []) (rdOf []) (rdOf []) (rdOf [])) 1000 (fnOf Tryz.prog 148) 1 (keepS 148 [0,115,116]) (loopOf Tryz.prog 148 0) hm1_p (slotsS 148 [(0,.ptr 0 0),(115,.agg (V4.cells c++V4.cells d)),(116,I64 0)]) [some (.cells g.cells)] =hm1_t g c d:=by kernel_rfl
def hm2_p:Plan:=.lit (.fork (.all) (.fork (.lit (.all)) (.lit (.all))))
noncomputable def hm2_t(g:Fw)(c d:V4):Tree StopX:= .req (true) (.node (d.1==0&& (d.2.1==0&& (d.2.2.1==0&& (d.2.2.2==0&&true)))) (.leaf (.at (loopOf Tryz.prog 148 0) 148 (slotsS 148 [(0,.ptr 0 0),(115,.agg [.int .i64 c.1,.int .i64 c.2.1,.int .i64 c.2.2.1,.int .i64 c.2.2.2,.int .i64 d.1,.int .i64 d.2.1,.int .i64 d.2.2.1,.int .i64 d.2.2.2]),(116,.int .i64 2)]) [some (.cells (Fw.cells g))])) (.req (addPre g d 0) (.node (addOk g d 0) (.leaf (.at (loopOf Tryz.prog 148 0) 148 (slotsS 148 [(0,.ptr 0 0),(115,.agg [.int .i64 c.1,.int .i64 c.2.1,.int .i64 c.2.2.1,.int .i64 c.2.2.2,.int .i64 d.1,.int .i64 d.2.1,.int .i64 d.2.2.1,.int .i64 d.2.2.2]),(116,.int .i64 2)]) [some (.cells (Fw.cells (addF g d 0 0)))])) (.leaf (.fin (.ret (.int .i64 2) [some (.cells (Fw.cells g))]))))))
theorem hm2(g:Fw)(c d:V4):segX (Env.ofB Tryz.prog (sumOf [fIdle,fUni,fPos]) (wrOf []) (pnOf [BFact.toP bAdd]) (bxOf [bAdd]) (rdOf []) (rdOf []) (rdOf []) (rdOf [])) 1000 (fnOf Tryz.prog 148) 1 (keepS 148 [0,115,116]) (loopOf Tryz.prog 148 0) hm2_p (slotsS 148 [(0,.ptr 0 0),(115,.agg (V4.cells c++V4.cells d)),(116,I64 1)]) [some (.cells g.cells)] =hm2_t g c d:=by kernel_rfl
theorem plB_len(l:List Bk)(g:Nat→Int):(plB l g).length=l.length:=by simp[plB]
theorem plB_get{l:List Bk}{g:Nat→Int}{i:Nat}(h:i<l.length):(plB l g).getD i dBk=setEE (l.getD i dBk) (g i) (g (i+1)):=by
 unfold plB
 rw[List.getD_eq_getElem?_getD,List.getElem?_map,List.getElem?_range h];rfl
theorem soundB_setEE(b:Bk)(x y:Int):soundB (setEE b x y)=soundB b:=rfl
section
variable {g:Fw} {c:V4} {len line:Int}
theorem addF_len:(addF g c len line).queue.length=g.queue.length+1:=by
 show(plB _ _).length=_
 rw[plB_len,addQ_len]
theorem addF_lens(h:g.lines.length=g.queue.length):(addF g c len line).lines.length=(addF g c len line).queue.length:=by
 rw[addF_len];show(g.lines++[line]).length=_;simp[h]
theorem addF_sound(h:addPre g c len=true):∀b∈(addF g c len line).queue,soundB b=true:=fun b hb=>by
 obtain⟨i,hi,e⟩:=getD_of_mem (d:=dBk) hb
 have hi2:i< (addQ g c len).length:=by rw[addF_len]at hi;rw[addQ_len];exact hi
 have e2:=plB_get (g:=gL (addQ g c len) (capsV g.ma (addQ g c len)) (entryV g)) hi2
 rw[←e]
 show soundB ((plB _ _).getD i dBk)=true
 rw[e2,soundB_setEE]
 exact getD_in (p:=fun b=>soundB b=true) (add_plOk h).snd hi2
theorem addF_entry(o:addOk g c len=true):entryV (addF g c len line)=entryV g:=by
 have k:=(addOk_iff.1 o).2
 have hl:(addF g c len line).queue.length=g.queue.length+1:=addF_len
 by_cases hm:g.moving=true
 ·unfold entryV
  rw[show(addF g c len line).moving=g.moving from rfl,if_pos hm,if_pos hm];rfl
 ·have e1:entryV (addF g c len line)=((addF g c len line).queue.getD 0 dBk).2.2.1:=by
   unfold entryV
   rw[show(addF g c len line).moving=g.moving from rfl,if_neg hm,if_neg (by omega)]
  rw[e1]
  show((plB _ _).getD 0 dBk).2.2.1=_
  rw[plB_get (by rw[addQ_len];omega)]
  exact k
theorem addF_pre{d:V4}{len2:Int}(h:addPre g c len=true)(o:addOk g c len=true)(hd:okL g.ma d=true)(hl:ok63 len2=true)(hq:g.queue.length≤900):addPre (addF g c len line) d len2=true:=by
 have p:=addPre_iff.1 h
 exact addPre_iff.2 ⟨hd,hl,p.2.2.1,addF_sound h,addF_lens p.2.2.2.2.1,by rw[addF_len];omega,by rw[addF_entry o];exact p.2.2.2.2.2.2⟩
end
def hE2(g:Fw)(d:V4):Int:=if backOk g d=true then 0 else 2
def hE1(g:Fw)(c d:V4):Int:=if backOk g c=true then hE2 (backF g c) d else 2
section
variable {g:Fw} {c d:V4}
theorem backF_yes(h:nz4 c=true):backF g c=addF g c 0 0:=if_pos h
theorem backF_no(h:nz4 c=false):backF g c=g:=if_neg (by rw[h];exact Bool.false_ne_true)
theorem backOk_no(h:nz4 c=false):backOk g c=true:=by unfold backOk;rw[h];rfl
theorem backOk_yes(h:nz4 c=true):backOk g c=addOk g c 0:=by unfold backOk;rw[h];rfl
end
theorem okL_of{m:Ma}{c:V4}(hm:m.ok=true)(hn:near4 c=true)(hz:nz4 c=true):okL m c=true:=okL_iff.2 ⟨hm,by unfold okC;rw[hn,hz];rfl⟩
section
variable {f:Fw} {line:Int}
end
theorem Co.step_ok{c:Co}(h:c.ok=true)(r:Int):(c.step r).ok=true∧(c.step r).target=c.target:=by
 unfold Co.step
 split
 ·rename_i hl
  have a:=co_rng hl
  have o:=(Co.ok_iff c).1 h
  have b:=cla_rng (n:=c.sum+c.ki*(c.target-r)) (lo:=0) (hi:=c.limit) (by omega)
  refine⟨?_,rfl⟩
  rw[Co.ok_iff]
  dsimp only
  refine⟨o.1,o.2.1,o.2.2.1,o.2.2.2.1,o.2.2.2.2.1,?_⟩
  unfold Co.acc
  split<;>omega
 ·exact⟨h,rfl⟩
theorem Gu.way_rng(g:Gu)(r t u:Int):g.way r t u≤7:=by
 unfold Gu.way;(repeat' split)<;>omega
theorem Gu.step_k0{g:Gu}{r t u:Int}(h:g.way r t u=0):g.step r t u=g:=by unfold Gu.step;simp only[h]
theorem Gu.step_k1{g:Gu}{r t u:Int}(h:g.way r t u=1):g.step r t u={g with fault:=1}:=by unfold Gu.step;simp only[h]
theorem Gu.step_k2{g:Gu}{r t u:Int}(h:g.way r t u=2):g.step r t u={g with fault:=2}:=by unfold Gu.step;simp only[h]
theorem Gu.step_k3{g:Gu}{r t u:Int}(h:g.way r t u=3):g.step r t u={g with quiet:=g.idle,base:=r,count:=0}:=by unfold Gu.step;simp only[h]
theorem Gu.step_k4{g:Gu}{r t u:Int}(h:g.way r t u=4):g.step r t u={g with quiet:=g.quiet+1,base:=r,count:=0}:=by unfold Gu.step;simp only[h]
theorem Gu.step_k5{g:Gu}{r t u:Int}(h:g.way r t u=5):g.step r t u={g with quiet:=g.quiet+1,base:=r,count:=0}:=by unfold Gu.step;simp only[h]
theorem Gu.step_k6{g:Gu}{r t u:Int}(h:g.way r t u=6):g.step r t u={g with quiet:=g.quiet+1,base:=g.bas r,count:=g.watch,fault:=3}:=by unfold Gu.step;simp only[h]
theorem Gu.step_k7{g:Gu}{r t u:Int}(h:g.way r t u=7):g.step r t u={g with quiet:=g.quiet+1,base:=g.bas r,count:=g.cnt r}:=by unfold Gu.step;simp only[h]
theorem Gu.step_ok{g:Gu}(h:g.ok=true)(r t u:Int):(g.step r t u).ok=true∧(g.step r t u).low=g.low∧(g.step r t u).high=g.high∧(g.step r t u).band=g.band:=by
 have o:=(Gu.ok_iff g).1 h
 have hb:g.bas r=r∨g.bas r=g.base:=by unfold Gu.bas;split<;>simp
 have hc:0≤g.cnt r:=by unfold Gu.cnt;split<;>omega
 have hw:(3≤g.way r t u→g.low≤r∧r≤g.high)∧(4≤g.way r t u→g.quiet+1<g.idle)∧(7≤g.way r t u→g.cnt r<g.watch):=by
  unfold Gu.way
  rw[h]
  dsimp only
  (repeat' split)<;>omega
 have w7:=Gu.way_rng g r t u
 have cases8:g.way r t u=0∨g.way r t u=1∨g.way r t u=2∨g.way r t u=3∨g.way r t u=4∨g.way r t u=5∨g.way r t u=6∨g.way r t u=7:=by omega
 rcases cases8 with e|e|e|e|e|e|e|e
 ·rw[Gu.step_k0 e];exact⟨h,rfl,rfl,rfl⟩
 ·rw[Gu.step_k1 e];refine⟨?_,rfl,rfl,rfl⟩;rw[Gu.ok_iff];dsimp only;omega
 ·rw[Gu.step_k2 e];refine⟨?_,rfl,rfl,rfl⟩;rw[Gu.ok_iff];dsimp only;omega
 ·rw[Gu.step_k3 e];refine⟨?_,rfl,rfl,rfl⟩;rw[Gu.ok_iff];dsimp only;omega
 ·rw[Gu.step_k4 e];refine⟨?_,rfl,rfl,rfl⟩;rw[Gu.ok_iff];dsimp only;omega
 ·rw[Gu.step_k5 e];refine⟨?_,rfl,rfl,rfl⟩;rw[Gu.ok_iff];dsimp only;omega
 ·rw[Gu.step_k6 e];refine⟨?_,rfl,rfl,rfl⟩;rw[Gu.ok_iff];dsimp only;omega
 ·rw[Gu.step_k7 e];refine⟨?_,rfl,rfl,rfl⟩;rw[Gu.ok_iff];dsimp only;omega
theorem stp_zero{n k:Int}(hn:1≤n):stp n 0 k=0:=by
 have e:(2*0*sz k+n) / (2*n)=0:=by
  rw[Int.mul_zero,Int.zero_mul,Int.zero_add]
  exact Int.ediv_eq_zero_of_lt (by omega) (by omega)
 unfold stp;rw[e];split<;>omega
theorem stp_all{n k:Int}(hn:1≤n):stp n n k=k:=by
 have e:(2*n*sz k+n) / (2*n)=sz k:=by
  rw[Int.add_comm,Int.add_mul_ediv_left _ _ (by omega),Int.ediv_eq_zero_of_lt (by omega) (by omega)];omega
 unfold stp;rw[e];unfold sz;split<;>omega
theorem at4_zero(c:V4):at4 c 0=z4:=by
 cases h:okC c with
 |false=>exact at4_no h
 |true=>
  have m:=(mx4_bounds h).1
  have z:clm (mx4 c) 0=0:=by unfold clm;(repeat' split)<;>omega
  rw[at4_ok h,z,stp_zero m,stp_zero m,stp_zero m,stp_zero m];rfl
theorem at4_dom{c:V4}(h:okC c=true):at4 c (dom c)=c:=by
 have m:=(mx4_bounds h).1
 have z:clm (mx4 c) (mx4 c)=mx4 c:=by unfold clm;(repeat' split)<;>omega
 rw[at4_ok h,dom_ok h,z,stp_all m,stp_all m,stp_all m,stp_all m]
theorem add4_zero(a:V4):add4 a z4=a:=by unfold add4 z4;simp
theorem add4_sub(a b:V4):add4 a (sub4 b a)=b:=by
 unfold add4 sub4
 refine Prod.ext ?_ (Prod.ext ?_ (Prod.ext ?_ ?_))<;>(dsimp only;omega)
section
variable {m:Mo} {t:Int}
theorem ended_made(h:endedM m=true):madeM m=m.1.1:=by
 obtain⟨h1,h2⟩:=endedM_iff.1 h
 have v:=(validB_iff.1 h1).1.1
 have d:=dom_range m.1.1
 rw[madeM_yes ⟨h1,by omega,by omega⟩,h2,at4_dom v]
theorem made_start(b:Bk)(t:Int):madeM (startM b t)=z4:=by
 cases h:validB b with
 |false=>exact madeM_no fun c=>by rw[show(startM b t).1=b from rfl,h]at c;cases c.1
 |true=>
  have d:=dom_range b.1
  rw[madeM_yes (m:=startM b t) ⟨h,Int.le_refl 0,d.1⟩]
  exact at4_zero b.1
theorem ivl_one{b:Bk}{i t:Int}(h:validB b=true∧1≤i∧i≤dom b.1)(ht:1≤t∧t≤1048576):1≤ivl b i t:=by
 have s:=sqv_bnd h
 have p:=isq_pos (n:=sqv b i) s.1
 unfold ivl
 rw[if_pos ⟨s.1,ht⟩]
 exact Int.le_ediv_of_mul_le (by omega) (by omega)
theorem start_runs{b:Bk}(h:okS b t=true):runsM (startM b t) t=true:=by
 obtain⟨h1,h2⟩:=okS_iff.1 h
 have d:=valid_dom h1
 exact runsM_iff.2 ⟨h1,⟨Int.le_refl 0,by show(0:Int)≤dom b.1-1;omega⟩,ivl_one ⟨h1,by omega,d.1⟩ h2,Int.le_refl _⟩
theorem runs_t(h:runsM m t=true):1≤t∧t≤1048576:=by
 have r:=runsM_iff.1 h
 exact ivl_pos (b:=m.1) (i:=m.2.1+1) (by omega)
theorem tickM_wait(h:runsM m t=true)(h1:1<m.2.2):tickM m t=(m.1,m.2.1,m.2.2-1)∧tickP m t=z4:=by
 unfold tickM tickP;rw[h];simp only[if_pos h1];trivial
theorem tickM_step(h:runsM m t=true)(h1:¬1<m.2.2):tickM m t=(m.1,m.2.1+1,if m.2.1+1=dom m.1.1 then 0 else ivl m.1 (m.2.1+2) t)∧tickP m t=pul m.1.1 (m.2.1+1):=by
 unfold tickM tickP;rw[h];simp only[if_neg h1];trivial
theorem made_tick(h:runsM m t=true):madeM (tickM m t)=add4 (madeM m) (tickP m t):=by
 have r:=runsM_iff.1 h
 have d:=dom_range m.1.1
 by_cases h1:1<m.2.2
 ·obtain⟨e1,e2⟩:=tickM_wait h h1
  rw[e1,e2,add4_zero];rfl
 ·obtain⟨e1,e2⟩:=tickM_step h h1
  rw[e1,e2,madeM_yes (m:=(m.1,m.2.1+1,_)) ⟨r.1,by show(0:Int)≤m.2.1+1;omega,by show m.2.1+1≤dom m.1.1;omega⟩,madeM_yes (m:=m) ⟨r.1,by omega,by omega⟩]
  have p:pul m.1.1 (m.2.1+1)=sub4 (at4 m.1.1 (m.2.1+1)) (at4 m.1.1 m.2.1):=by
   unfold pul
   rw[inR_iff.2 (show 1≤m.2.1+1∧m.2.1+1≤dom m.1.1 by omega),show m.2.1+1-1=m.2.1 by omega]
  rw[p,add4_sub]
theorem tick_block(m:Mo)(t:Int):(tickM m t).1=m.1:=by
 unfold tickM
 split
 ·split<;>rfl
 ·rfl
theorem tick_runs(h:runsM m t=true)(he:endedM (tickM m t)=false):runsM (tickM m t) t=true:=by
 have r:=runsM_iff.1 h
 have d:=dom_range m.1.1
 by_cases h1:1<m.2.2
 ·obtain⟨e1,_⟩:=tickM_wait h h1
  rw[e1]
  exact runsM_iff.2 ⟨r.1,r.2.1,by show 1≤m.2.2-1;omega,by show m.2.2-1≤ivl m.1 (m.2.1+1) t;have:=r.2.2.2;omega⟩
 ·obtain⟨e1,_⟩:=tickM_step h h1
  rw[e1]at he ⊢
  have hd:¬m.2.1+1=dom m.1.1:=fun c=>by
   have:endedM (m.1,m.2.1+1,if m.2.1+1=dom m.1.1 then 0 else ivl m.1 (m.2.1+2) t)=true:=endedM_iff.2 ⟨r.1,c⟩
   rw[he]at this;cases this
  rw[if_neg hd]
  refine runsM_iff.2 ⟨r.1,⟨by show 0≤m.2.1+1;omega,by show m.2.1+1≤dom m.1.1-1;omega⟩,?_,?_⟩
  ·exact ivl_one ⟨r.1,by omega,by omega⟩ (runs_t h)
  ·show ivl m.1 (m.2.1+2) t≤ivl m.1 (m.2.1+1+1) t
   rw[show m.2.1+1+1=m.2.1+2 by omega];exact Int.le_refl _
end
def partB(f:Fw):Bool:=f.c0.ok&& (f.c1.ok&& (f.g0.ok&& (f.g1.ok&&shapeB f)))
theorem partB_iff{f:Fw}:partB f=true↔f.c0.ok=true∧f.c1.ok=true∧f.g0.ok=true∧f.g1.ok=true∧shapeB f=true:=by simp only[partB,Bool.and_eq_true]
def hotD(f:Fw):Int×Int:=if(lostF f).mode=3 then(0,0)else(duty0 f,duty1 f)
def hotF'(f:Fw):Fw:=waitF (lostF f)
theorem lostB_iff{f:Fw}:lostB f=true↔(f.g0.fault=0∧¬(f.g0.step f.r0 (f.c0.step f.r0).target (f.c0.duty f.r0)).fault=0)∨(f.g1.fault=0∧¬(f.g1.step f.r1 (f.c1.step f.r1).target (f.c1.duty f.r1)).fault=0):=by
 simp only[lostB,newFault,heatF,Bool.or_eq_true,Bool.and_eq_true,Bool.not_eq_true',beq_iff_eq,beq_eq_false_iff_ne,ne_eq]
theorem lose_c0(f:Fw):(loseF f).c0=f.c0:=rfl
theorem lose_c1(f:Fw):(loseF f).c1=f.c1:=rfl
theorem lose_g0(f:Fw):(loseF f).g0=f.g0:=rfl
theorem lose_g1(f:Fw):(loseF f).g1=f.g1:=rfl
theorem warm_yes{c:Co}{g:Gu}{r:Int}(h:r≥c.target-g.band):warm c g r=true:=decide_eq_true h
theorem warm_no{c:Co}{g:Gu}{r:Int}(h:¬r≥c.target-g.band):¬warm c g r=true:=fun k=>h (of_decide_eq_true k)
theorem waitF_tt{x:Fw}(a:x.r0≥x.c0.target-x.g0.band)(b:x.r1≥x.c1.target-x.g1.band):waitF x={x with waits:=Gc.andNot (Gc.andNot x.waits 1) 2}:=by unfold waitF;rw[if_pos (warm_yes b),if_pos (warm_yes a)]
theorem waitF_tf{x:Fw}(a:x.r0≥x.c0.target-x.g0.band)(b:¬x.r1≥x.c1.target-x.g1.band):waitF x={x with waits:=Gc.andNot x.waits 1}:=by unfold waitF;rw[if_neg (warm_no b),if_pos (warm_yes a)]
theorem waitF_ft{x:Fw}(a:¬x.r0≥x.c0.target-x.g0.band)(b:x.r1≥x.c1.target-x.g1.band):waitF x={x with waits:=Gc.andNot x.waits 2}:=by unfold waitF;rw[if_pos (warm_yes b),if_neg (warm_no a)]
theorem waitF_ff{x:Fw}(a:¬x.r0≥x.c0.target-x.g0.band)(b:¬x.r1≥x.c1.target-x.g1.band):waitF x=x:=by unfold waitF;rw[if_neg (warm_no b),if_neg (warm_no a)]
def motPre(f:Fw):Bool:=shapeB f&&inR f.dwell 0 1048576
theorem motPre_iff{f:Fw}:motPre f=true↔shapeB f=true∧0≤f.dwell∧f.dwell≤1048576:=by simp only[motPre,Bool.and_eq_true,inR_iff]
theorem begF_pos(f:Fw):(begF f).pos=f.pos:=by unfold begF;split<;>rfl
theorem pul_big(c:V4)(i:Int):big4 (pul c i)=true:=by
 unfold pul
 split
 ·have a:=at4_abs c i
  have b:=at4_abs c (i-1)
  rw[big4_iff];unfold sub4;dsimp only;omega
 ·decide
theorem tickP_big(m:Mo)(t:Int):big4 (tickP m t)=true:=by
 unfold tickP
 split
 ·split
  ·decide
  ·exact pul_big _ _
 ·decide
def s_heat_x_p:Plan:=.go (.ln 4 (.fork (.ln 11 (.go (.lit (.fork (.ln 4 (.go (.lit (.lit (.go (.lit (.fork (.go (.lit (.fork (.go (.lit (.lit .all))) (.go (.lit (.lit .all)))))) (.go (.lit (.fork (.go (.lit (.lit .all))) (.go (.lit (.lit .all))))))))))))) (.lit (.lit (.fork (.ln 11 (.go (.lit (.fork (.go (.lit (.fork (.go (.lit (.fork (.go (.lit (.lit .all))) (.go (.lit (.lit .all)))))) (.go (.lit (.fork (.go (.lit (.lit .all))) (.go (.lit (.lit .all))))))))) (.go (.lit (.fork (.go (.lit (.fork (.go (.lit (.fork .all .all))) (.go (.lit (.fork .all .all)))))) (.go (.lit (.fork (.go (.lit (.fork .all .all))) (.go (.lit (.fork .all .all))))))))))))) (.ln 11 (.go (.lit (.lit (.go (.lit (.fork (.go (.lit (.fork (.go (.lit (.fork .all .all))) (.go (.lit (.fork .all .all)))))) (.go (.lit (.fork (.go (.lit (.fork .all .all))) (.go (.lit (.fork .all .all)))))))))))))))))))) (.ln 11 (.go (.ln 4 (.fork (.ln 11 (.go (.lit (.fork (.go (.lit (.fork (.go (.lit (.fork (.go (.lit (.lit .all))) (.go (.lit (.lit .all)))))) (.go (.lit (.fork (.go (.lit (.lit .all))) (.go (.lit (.lit .all))))))))) (.go (.lit (.fork (.go (.lit (.fork (.go (.lit (.fork .all .all))) (.go (.lit (.fork .all .all)))))) (.go (.lit (.fork (.go (.lit (.fork .all .all))) (.go (.lit (.fork .all .all))))))))))))) (.ln 11 (.go (.lit (.lit (.go (.lit (.fork (.go (.lit (.fork (.go (.lit (.fork .all .all))) (.go (.lit (.fork .all .all)))))) (.go (.lit (.fork (.go (.lit (.fork .all .all))) (.go (.lit (.fork .all .all)))))))))))))))))))
noncomputable def s_heat_x_t(f:Fw):Tree StopX:=let y8:SV:=.agg [.int .i64 0,.int .i64 0];let y11:=f.c1.step f.r1;let y4:=f.g1.step f.r1 y11.target (f.c1.duty f.r1);let y12:=f.c0.step f.r0;let y5:=f.g0.step f.r0 y12.target (f.c0.duty f.r0);let y1:={f with c0:=y12,c1:=y11,g0:=y5,g1:=y4};let y6:SV:=.agg [.int .i64 (f.g0.duty f.r0 y12.target (f.c0.duty f.r0)),.int .i64 (f.g1.duty f.r1 y11.target (f.c1.duty f.r1))];let y10:=Fw.cells {f with waits:=(i64.wrap (↑(BitVec.ofInt 64 f.waits &&& ~~~BitVec.ofInt 64 2).toNat:Int)),c0:=y12,c1:=y11,g0:=y5,g1:=y4};let y13:=i64.wrap (↑(BitVec.ofInt 64 (loseF y1).waits &&& ~~~BitVec.ofInt 64 1).toNat:Int);let y14:=i64.wrap (↑(BitVec.ofInt 64 f.waits &&& ~~~BitVec.ofInt 64 1).toNat:Int);let y7:=Fw.cells {f with waits:=(i64.wrap (↑(BitVec.ofInt 64 y14 &&& ~~~BitVec.ofInt 64 2).toNat:Int)),c0:=y12,c1:=y11,g0:=y5,g1:=y4};let y9:=Fw.cells {f with waits:=y14,c0:=y12,c1:=y11,g0:=y5,g1:=y4};let y15:=decide (f.r1≥i64.wrap ((loseF y1).c1.target-(loseF y1).g1.band));let y3:Tree StopX:=.req (shapeB y1) (.req true (.req (true) (.req true (.node (decide (f.r0≥i64.wrap ((loseF y1).c0.target-(loseF y1).g0.band))) (.req true (.req (true) (.req true (.req (true) (.node y15 (.req true (.leaf (.fin (.ret y8 [some (.cells (Fw.cells { (loseF y1)with mode:=3,waits:=(i64.wrap (↑(BitVec.ofInt 64 y13 &&& ~~~BitVec.ofInt 64 2).toNat:Int))}))])))) (.leaf (.fin (.ret y8 [some (.cells (Fw.cells { (loseF y1)with mode:=3,waits:=y13}))])))))))) (.req true (.req (true) (.req true (.node y15 (.req true (.leaf (.fin (.ret y8 [some (.cells (Fw.cells { (loseF y1)with mode:=3,waits:=(i64.wrap (↑(BitVec.ofInt 64 (loseF y1).waits &&& ~~~BitVec.ofInt 64 2).toNat:Int))}))])))) (.leaf (.fin (.ret y8 [some (.cells (Fw.cells { (loseF y1)with mode:=3}))])))))))))));let y16:=Fw.cells {f with c0:=y12,c1:=y11,g0:=y5,g1:=y4};let y2:Tree StopX:=.req true (.req (true) (.req true (.node (decide (f.r0≥i64.wrap (y12.target-y5.band))) (.req true (.req (true) (.req true (.req (true) (.node (decide (f.r1≥i64.wrap (y11.target-y4.band))) (.req true (.node (f.mode==3) (.leaf (.fin (.ret y8 [some (.cells y7)]))) (.leaf (.fin (.ret y6 [some (.cells y7)]))))) (.node (f.mode==3) (.leaf (.fin (.ret y8 [some (.cells y9)]))) (.leaf (.fin (.ret y6 [some (.cells y9)]))))))))) (.req true (.req (true) (.req true (.node (decide (f.r1≥i64.wrap (y11.target-y4.band))) (.req true (.node (f.mode==3) (.leaf (.fin (.ret y8 [some (.cells y10)]))) (.leaf (.fin (.ret y6 [some (.cells y10)]))))) (.node (f.mode==3) (.leaf (.fin (.ret y8 [some (.cells y16)]))) (.leaf (.fin (.ret y6 [some (.cells y16)])))))))))));let y0:Tree StopX:=.node (f.g1.fault==0) (.req true (.node (y4.fault != 0) y3 y2)) y2; .req (true) (.req true (.req (true) (.req true (.req (true) (.req true (.req (true) (.req true (.node (f.g0.fault==0) (.req true (.req (true) (.req true (.req (true) (.req true (.req (true) (.req true (.req (true) (.req true (.node (y5.fault != 0) y3 y0)))))))))) (.req true (.req (true) (.req true (.req (true) (.req true (.req (true) (.req true (.req (true) y0))))))))))))))))
theorem s_heat_x(f:Fw):segX (Env.ofB Tryz.prog (sumOf [fCoS,fGst]) (wrOf []) (pnOf [BFact.toP bLose]) (bxOf [bLose]) (rdOf []) (rdOf []) (rdOf []) (rdOf [])) 1000 (fnOf Tryz.prog 78) 1 (keepS 141 []) (codeS Tryz.prog 78) s_heat_x_p (startS Tryz.prog 78 [.ptr 0 0,.agg [I64 f.r0,I64 f.r1]]) [some (.cells f.cells)] =s_heat_x_t f:=by kernel_rfl
theorem s_heat(f:Fw)(h:partB f=true):FCall Tryz.prog 78 [.agg [I64 f.r0,I64 f.r1]] f (.agg [I64 (hotD f).1,I64 (hotD f).2],hotF' f):=
 fcall_v (hB (l:=[fCoS,fGst]) (k:=[]) (j:=[BFact.toP bLose]) (i:=[bLose]) ([] :List Nat) ([] :List Nat) ([] :List Nat) ([] :List Nat) (⟨o_coS,o_gst,trivial⟩) noneOk (allQ.all (p:=PFact.ok Tryz.prog) (l:=[BFact.toP bLose]) ⟨BFact.toP_ok o_blose,trivial⟩) (allQ.all (p:=BFact.ok Tryz.prog) (l:=[bLose]) ⟨o_blose,trivial⟩)) 1000 s_heat_x_p (keep:=(keepS 141 [])) (t:=s_heat_x_t f) (s_heat_x f) (by
  unfold s_heat_x_t
  have p:=partB_iff.1 h
  have c0k:=Co.step_ok p.1 f.r0
  have c1k:=Co.step_ok p.2.1 f.r1
  have g0k:=Gu.step_ok p.2.2.1 f.r0 (f.c0.step f.r0).target (f.c0.duty f.r0)
  have g1k:=Gu.step_ok p.2.2.2.1 f.r1 (f.c1.step f.r1).target (f.c1.duty f.r1)
  have c0o:=(Co.ok_iff _).1 c0k.1
  have c1o:=(Co.ok_iff _).1 c1k.1
  have g0o:=(Gu.ok_iff _).1 g0k.1
  have g1o:=(Gu.ok_iff _).1 g1k.1
  have w0:=w64 (x:=(f.c0.step f.r0).target-(f.g0.step f.r0 (f.c0.step f.r0).target (f.c0.duty f.r0)).band) (by omega) (by omega)
  have w1:=w64 (x:=(f.c1.step f.r1).target-(f.g1.step f.r1 (f.c1.step f.r1).target (f.c1.duty f.r1)).band) (by omega) (by omega)
  simp only[Tree.holds,lose_c0,lose_c1,lose_g0,lose_g1,w0,w1,sL,ne_eq,beq_iff_eq,bne_iff_ne,eq_self,beq_eq_false_iff_ne,bne_eq_false_iff_eq,implies_true];(repeat' (first|apply And.intro|intro _));
  all_goals first
   |exact p.2.2.2.2
   |(have e:lostF f={loseF (heatF f)with mode:=3}:=if_pos (lostB_iff.2 (by omega))
     unfold hotD hotF';rw[e]
     first
     |(rw[if_pos rfl];first|(rw[waitF_tt (by assumption) (by assumption)];exact ends rfl (NilLs.refl _) rfl)|(rw[waitF_tf (by assumption) (by assumption)];exact ends rfl (NilLs.refl _) rfl)|(rw[waitF_ft (by assumption) (by assumption)];exact ends rfl (NilLs.refl _) rfl)|(rw[waitF_ff (by assumption) (by assumption)];exact ends rfl (NilLs.refl _) rfl))
     |(rw[if_pos (by assumption)];first|(rw[waitF_tt (by assumption) (by assumption)];exact ends rfl (NilLs.refl _) rfl)|(rw[waitF_tf (by assumption) (by assumption)];exact ends rfl (NilLs.refl _) rfl)|(rw[waitF_ft (by assumption) (by assumption)];exact ends rfl (NilLs.refl _) rfl)|(rw[waitF_ff (by assumption) (by assumption)];exact ends rfl (NilLs.refl _) rfl))
     |(rw[if_neg (by assumption)];first|(rw[waitF_tt (by assumption) (by assumption)];exact ends rfl (NilLs.refl _) rfl)|(rw[waitF_tf (by assumption) (by assumption)];exact ends rfl (NilLs.refl _) rfl)|(rw[waitF_ft (by assumption) (by assumption)];exact ends rfl (NilLs.refl _) rfl)|(rw[waitF_ff (by assumption) (by assumption)];exact ends rfl (NilLs.refl _) rfl)))
   |(have e:lostF f=heatF f:=if_neg (fun k=>by have k:=lostB_iff.1 k;omega)
     unfold hotD hotF';rw[e]
     first
     |(rw[if_pos rfl];first|(rw[waitF_tt (by assumption) (by assumption)];exact ends rfl (NilLs.refl _) rfl)|(rw[waitF_tf (by assumption) (by assumption)];exact ends rfl (NilLs.refl _) rfl)|(rw[waitF_ft (by assumption) (by assumption)];exact ends rfl (NilLs.refl _) rfl)|(rw[waitF_ff (by assumption) (by assumption)];exact ends rfl (NilLs.refl _) rfl))
     |(rw[if_pos (by assumption)];first|(rw[waitF_tt (by assumption) (by assumption)];exact ends rfl (NilLs.refl _) rfl)|(rw[waitF_tf (by assumption) (by assumption)];exact ends rfl (NilLs.refl _) rfl)|(rw[waitF_ft (by assumption) (by assumption)];exact ends rfl (NilLs.refl _) rfl)|(rw[waitF_ff (by assumption) (by assumption)];exact ends rfl (NilLs.refl _) rfl))
     |(rw[if_neg (by assumption)];first|(rw[waitF_tt (by assumption) (by assumption)];exact ends rfl (NilLs.refl _) rfl)|(rw[waitF_tf (by assumption) (by assumption)];exact ends rfl (NilLs.refl _) rfl)|(rw[waitF_ft (by assumption) (by assumption)];exact ends rfl (NilLs.refl _) rfl)|(rw[waitF_ff (by assumption) (by assumption)];exact ends rfl (NilLs.refl _) rfl)))) (by kernel_rfl) (by kernel_rfl) (by kernel_rfl)
def bHeat:BFact:=bfact 78 fun f rest=>match rest with
 |[.agg [.int .i64 a,.int .i64 b]] =>some (.req (decide (a=f.r0)) (.req (decide (b=f.r1)) (.req (partB f) (.leaf (.agg [I64 (hotD f).1,I64 (hotD f).2],hotF' f)))))
 |_=>none
theorem o_bheat:bHeat.ok Tryz.prog:=bfact_ok fun f rest t ht=>by
 split at ht
 ·injection ht with ht;subst ht;exact fun ha hb h=>by rw[of_decide_eq_true ha,of_decide_eq_true hb];exact s_heat f h
 ·cases ht
def s_mots_x_p:Plan:=.fork (.all) (.fork (.all) (.fork (.all) (.fork (.all) (.all))))
noncomputable def s_mots_x_t(f:Fw):Tree StopX:=let y0:=((((begF f).mo.1.1.1,(begF f).mo.1.1.2.1,(begF f).mo.1.1.2.2),(begF f).mo.1.2.1,(begF f).mo.1.2.2.1,(begF f).mo.1.2.2.2),(begF f).mo.2);let y1:=tickP y0 (begF f).ma.ticks;let y2:=tickM y0 (begF f).ma.ticks;let y3:SV:=.agg [.int .i64 0,.int .i64 0,.int .i64 0,.int .i64 0];let y4:SV:=.agg [.int .i64 y1.1,.int .i64 y1.2.1,.int .i64 y1.2.2.1,.int .i64 y1.2.2.2];let y5:=wadd4 ((begF f).pos.1,(begF f).pos.2.1,(begF f).pos.2.2) y1; .node (f.mode==3) (.leaf (.fin (.ret y3 [some (.cells (Fw.cells f))]))) (.node (decide (f.dwell>0)) (.leaf (.fin (.ret y3 [some (.cells (Fw.cells {f with dwell:=(i64.wrap (f.dwell-1))}))]))) (.req (shapeB f) (.node (!(begF f).moving) (.leaf (.fin (.ret y3 [some (.cells (Fw.cells (begF f)))]))) (.node (endedM (((y2.1.1.1,y2.1.1.2.1,y2.1.1.2.2),y2.1.2.1,y2.1.2.2.1,y2.1.2.2.2),y2.2)) (.leaf (.fin (.ret y4 [some (.cells (Fw.cells { (begF f)with pos:=y5,mo:=(((0,0,0,0),0,0,0,0),0,0),moving:=false,active:=0}))]))) (.leaf (.fin (.ret y4 [some (.cells (Fw.cells { (begF f)with pos:=y5,mo:=y2}))])))))))
theorem s_mots_x(f:Fw):segX (Env.ofB Tryz.prog (sumOf [fTick,fEnded,fPls]) (wrOf []) (pnOf [BFact.toP bStart]) (bxOf [bStart]) (rdOf []) (rdOf []) (rdOf []) (rdOf [])) 1000 (fnOf Tryz.prog 79) 1 (keepS 86 []) (codeS Tryz.prog 79) s_mots_x_p (startS Tryz.prog 79 [.ptr 0 0]) [some (.cells f.cells)] =s_mots_x_t f:=by kernel_rfl
theorem s_mots(f:Fw)(h:motPre f=true):FCall Tryz.prog 79 [] f (V4.sv (if f.mode=3 then z4 else runP f),(if f.mode=3 then f else runF f)):=
 fcall_v (hB (l:=[fTick,fEnded,fPls]) (k:=[]) (j:=[BFact.toP bStart]) (i:=[bStart]) ([] :List Nat) ([] :List Nat) ([] :List Nat) ([] :List Nat) (⟨o_tick,o_ended,o_pls,trivial⟩) noneOk (allQ.all (p:=PFact.ok Tryz.prog) (l:=[BFact.toP bStart]) ⟨BFact.toP_ok o_bstart,trivial⟩) (allQ.all (p:=BFact.ok Tryz.prog) (l:=[bStart]) ⟨o_bstart,trivial⟩)) 1000 s_mots_x_p (keep:=(keepS 86 [])) (t:=s_mots_x_t f) (s_mots_x f) (by
  unfold s_mots_x_t
  have mp:=motPre_iff.1 h
  have bp:big4 (begF f).pos=true:=by rw[begF_pos];exact(shapeB_iff.1 mp.1).1
  have wa:wadd4 (begF f).pos (tickP (begF f).mo (begF f).ma.ticks)=add4 (begF f).pos (tickP (begF f).mo (begF f).ma.ticks):=wadd4_eq bp (tickP_big _ _)
  have w1:0<f.dwell→i64.wrap (f.dwell-1)=f.dwell-1:=fun k=>w64 (by omega) (by omega)
  refine⟨fun a=>?_,fun a=>⟨fun b=>?_,fun b=>⟨mp.1,fun c=>?_,fun c=>?_⟩⟩⟩
  ·have a:=beq_iff_eq.1 a
   rw[if_pos a,if_pos a];exact ends rfl (NilLs.refl _) rfl
  ·have a:=beq_eq_false_iff_ne.1 a
   have b:=of_decide_eq_true b
   rw[if_neg a,if_neg a,w1 b,show runF f={f with dwell:=f.dwell-1} from if_pos b,show runP f=z4 from if_pos b]
   exact ends rfl (NilLs.refl _) rfl
  ·have a:=beq_eq_false_iff_ne.1 a
   have b:=of_decide_eq_false b
   have c:¬(begF f).moving=true:=by rw[Bool.not_eq_true']at c;rw[c];exact Bool.false_ne_true
   rw[if_neg a,if_neg a,show runF f=begF f by unfold runF;rw[if_neg b,if_neg c],show runP f=z4 by unfold runP;rw[if_neg b,if_neg c]]
   exact ends rfl (NilLs.refl _) rfl
  ·have a:=beq_eq_false_iff_ne.1 a
   have b:=of_decide_eq_false b
   have c:(begF f).moving=true:=by rw[Bool.not_eq_false']at c;exact c
   rw[if_neg a,if_neg a,show runF f=stepF (begF f) by unfold runF;rw[if_neg b,if_pos c],show runP f=tickP (begF f).mo (begF f).ma.ticks by unfold runP;rw[if_neg b,if_pos c]]
   refine⟨fun d=>?_,fun d=>?_⟩
   ·rw[show stepF (begF f)={begF f with pos:=wadd4 (begF f).pos (tickP (begF f).mo (begF f).ma.ticks),mo:=m0,moving:=false,active:=0} by unfold stepF;rw[if_pos (show endedM (tickM (begF f).mo (begF f).ma.ticks)=true from d),wa]]
    exact ends rfl (NilLs.refl _) rfl
   ·rw[show stepF (begF f)={begF f with pos:=wadd4 (begF f).pos (tickP (begF f).mo (begF f).ma.ticks),mo:=tickM (begF f).mo (begF f).ma.ticks} by unfold stepF;rw[if_neg (by rw[show endedM (tickM (begF f).mo (begF f).ma.ticks)=false from d];exact Bool.false_ne_true),wa]]
    exact ends rfl (NilLs.refl _) rfl) (by kernel_rfl) (by kernel_rfl) (by kernel_rfl)
theorem mots_says(f:Fw)(h:motPre f=true):(Tree.node (f.mode==3) (.leaf (V4.sv z4,f)) (.leaf (V4.sv (runP f),runF f))).says (FCall Tryz.prog 79 [] f):=by
 have k:=s_mots f h
 refine⟨fun a=>?_,fun a=>?_⟩
 ·have a:=beq_iff_eq.1 a
  rw[if_pos a,if_pos a]at k;exact k
 ·have a:=beq_eq_false_iff_ne.1 a
  rw[if_neg a,if_neg a]at k;exact k
def bMots:BFact:=bfact 79 fun f rest=>match rest with
 |[] =>some (.req (motPre f) (.node (f.mode==3) (.leaf (V4.sv z4,f)) (.leaf (V4.sv (runP f),runF f))))
 |_=>none
theorem o_bmots:bMots.ok Tryz.prog:=bfact_ok fun f rest t ht=>by
 split at ht
 ·injection ht with ht;subst ht;exact fun h=>mots_says f h
 ·cases ht
section
variable {f:Fw} {line:Int} {c:Gc.C}
end
section
variable {f:Fw} {c:Gc.C}
end
section
variable {f:Fw} {line:Int} {c:Gc.C}
end
theorem n_eq{α:Type}{L:α→Prop}{a k:Int}{T F:Tree α}(h:a=k→T.holds L)(h':¬a=k→F.holds L):(Tree.node (a==k) T F).holds L:=⟨fun e=>h (beq_iff_eq.1 e),fun e=>h' (beq_eq_false_iff_ne.1 e)⟩
theorem n_ne{α:Type}{L:α→Prop}{a k:Int}{T F:Tree α}(h:¬a=k→T.holds L)(h':a=k→F.holds L):(Tree.node (a != k) T F).holds L:=⟨fun e=>h (bne_iff_ne.1 e),fun e=>h' (bne_eq_false_iff_eq.1 e)⟩
theorem n_bool{α:Type}{L:α→Prop}{b:Bool}{T F:Tree α}(h:b=true→T.holds L)(h':b=false→F.holds L):(Tree.node b T F).holds L:=⟨h,h'⟩
theorem n_not{α:Type}{L:α→Prop}{b:Bool}{T F:Tree α}(h:b=false→T.holds L)(h':b=true→F.holds L):(Tree.node (!b) T F).holds L:=⟨fun e=>h (by simpa using e),fun e=>h' (by simpa using e)⟩
theorem n_dec{α:Type}{L:α→Prop}{p:Prop}[Decidable p]{T F:Tree α}(h:p→T.holds L)(h':¬p→F.holds L):(Tree.node (decide p) T F).holds L:=⟨fun e=>h (of_decide_eq_true e),fun e=>h' (of_decide_eq_false e)⟩
theorem n_req{α:Type}{L:α→Prop}{b:Bool}{T:Tree α}(h:b=true)(h':T.holds L):(Tree.req b T).holds L:=⟨h,h'⟩
section
variable {f:Fw} {line:Int} {c:Gc.C}
end
abbrev CmdT:=Int×Int×Int×Int×Int×Int×Int×Int
abbrev OpT:=Int×Bool×CmdT×Int×Int×Int
abbrev tyOp:Ty:=.pair (.int .i64) (.pair .bool (.pair (.pair (.int .i64) (.pair (.int .i64) (.pair (.int .i64) (.pair (.int .i64) (.pair (.int .i64) (.pair (.int .i64) (.pair (.int .i64) (.int .i64)))))))) (.pair (.int .i64) (.pair (.int .i64) (.int .i64)))))
abbrev LO(l:List OpT):SV:=.list tyOp l
def sm1_p:Plan:=.fork (.ln 3 (.fork (.fork .all .all) .all)) (.ln 3 (.lit .all))
noncomputable def sm1_t(l:List OpT)(m i:Int):Tree Stop:= .node (decide (i< (↑l.length:Int))) (.node (decide (i<m)) (.req (decide (0≤i)&&decide (i< (↑l.length:Int))) (.node (decide ((l.getD i.toNat tyOp.dflt).2.2.2.1>40)) (.leaf (.done (.bool false))) (.leaf (.at (loopOf Tryz.prog 17 0) 27 (slotsS 27 [(0,.list ((Ty.int IntKind.i64).pair (Ty.bool.pair (((Ty.int IntKind.i64).pair ((Ty.int IntKind.i64).pair ((Ty.int IntKind.i64).pair ((Ty.int IntKind.i64).pair ((Ty.int IntKind.i64).pair ((Ty.int IntKind.i64).pair ((Ty.int IntKind.i64).pair (Ty.int IntKind.i64)))))))).pair ((Ty.int IntKind.i64).pair ((Ty.int IntKind.i64).pair (Ty.int IntKind.i64)))))) l),(1,.int .i64 m),(5,.int .i64 (i64.wrap (i+1)))]) [])))) (.leaf (.done (.bool (decide ((↑l.length:Int)≤m)))))) (.leaf (.done (.bool (decide ((↑l.length:Int)≤m)))))
theorem sm1(l:List OpT)(m i:Int):segR (Env.of Tryz.prog (sumOf [])) 1000 (fnOf Tryz.prog 17) .unit (keepS 27 [0,1,5]) (loopOf Tryz.prog 17 0) sm1_p (slotsS 27 [(0,LO l),(1,I64 m),(5,I64 i)]) [] =sm1_t l m i:=by kernel_rfl
def opN(x:OpT):Int:=x.2.2.2.1
theorem k00:Known Tryz.prog (Env.of Tryz.prog (sumOf [])):=kW trivial
section
variable {l:List Bk} {caps:List Int} {e:Int}
end
section
variable {g:Fw} {d:V4} {len line:Int}
end
theorem vf_mk{f:Fw}(p:partsB f=true)(m:1≤f.mode∧f.mode≤3)(n:numsB f=true)(mv:movesB f=true)(q:queuedB f=true)(e:(¬f.mode=3∧f.homed=true)∨(f.moving=false∧f.queue.length=0)):validF f=true:=
 validF_iff.2 ⟨p,modNumB_iff.2 ⟨m,n⟩,mv,q,endB_iff.2 e⟩
theorem valid_nums{f:Fw}(h:validF f=true):numsB f=true:=(modNumB_iff.1 (validF_iff.1 h).2.1).2
theorem valid_parts{f:Fw}(h:validF f=true):partsB f=true:=(validF_iff.1 h).1
theorem openV_pos{f:Fw}(h:shapeB f=true):1≤openV f:=by
 have s:=shapeB_iff.1 h
 have fl:∀ (l:List Int) (d:Int),1≤d→1≤firstL l d:=by
  intro l
  induction l with
  |nil=>exact fun d h=>h
  |cons x l ih=>
   intro d h
   unfold firstL
   by_cases k:0<x
   ·rw[if_pos k];omega
   ·rw[if_neg k];exact ih d h
 unfold openV
 split
 ·omega
 ·exact fl _ _ (by omega)
theorem stillB_zero{f:Fw}(h1:f.mo=m0)(h2:f.active=0):stillB f=true:=by
 unfold stillB;rw[h1,h2];decide
theorem queue0_idle{f:Fw}(h:f.moving=false)(hm:f.mo.1.1=z4):queue0 f=f.pos:=by
 unfold queue0;rw[begin4_off h,hm];exact add4_zero _
theorem queued_idle{f:Fw}(h:f.moving=false)(hm:f.mo.1.1=z4)(q:f.queue=[])(l:f.lines=[])(p:near4 f.pos=true)(r:near4 f.ret=true):queuedB f=true:=
 queuedB_iff.2 ⟨by rw[q];decide,by rw[q,l];rfl,p,r,by rw[begin4_off h];exact p,by rw[queue0_idle h hm];exact p,fun i hi=>by rw[q]at hi;exact absurd hi (Nat.not_lt_zero _)⟩
theorem loseRet_near{f:Fw}(v:VF f):near4 (loseRet f)=true:=by
 unfold loseRet;split
 ·exact v.beg
 ·split
  ·exact v.pos
  ·exact v.ret
theorem lose_valid{f:Fw}(h:validF f=true):validF {loseF f with mode:=3}=true:=by
 have v:=vf_of h
 have vp:=valid_parts h
 have n:=v.nums
 have o1:=openV_rng v.shape
 have o2:=openV_pos v.shape
 refine vf_mk vp (by show 1≤(3:Int)∧(3:Int)≤3;omega) (numsB_iff.2 ?_) ?_ ?_ (.inr ⟨rfl,rfl⟩)
 ·show _∧_∧_∧_∧_∧((0:Int)≤0∧(0:Int)≤1048576)∧((0:Int)≤0∧(0:Int)≤3)∧_∧(0≤openV f-1∧openV f-1≤1099511627776)∧((0:Int)≤0∧(0:Int)≤1099511627776)∧_
  exact⟨n.1,n.2.1,n.2.2.1,n.2.2.2.1,n.2.2.2.2.1,by omega,by omega,n.2.2.2.2.2.2.2.1,by omega,by omega,n.2.2.2.2.2.2.2.2.2.2⟩
 ·rw[movesB_off rfl];exact stillB_zero rfl rfl
 ·exact queued_idle rfl rfl rfl rfl v.pos (loseRet_near v)
theorem dwell_valid{f:Fw}{n:Int}(h:validF f=true)(hn:0≤n∧n≤1048576):validF {f with dwell:=n}=true:=by
 have v:=vf_of h
 have vp:=valid_parts h
 have k:=v.nums
 exact vf_mk vp v.mode (numsB_iff.2 ⟨k.1,k.2.1,k.2.2.1,k.2.2.2.1,k.2.2.2.2.1,hn,k.2.2.2.2.2.2⟩) v.moves v.queued v.ends
theorem waits_valid{f:Fw}{n:Int}(h:validF f=true)(hn:0≤n∧n≤3):validF {f with waits:=n}=true:=by
 have v:=vf_of h
 have vp:=valid_parts h
 have k:=v.nums
 exact vf_mk vp v.mode (numsB_iff.2 ⟨k.1,k.2.1,k.2.2.1,k.2.2.2.1,k.2.2.2.2.1,k.2.2.2.2.2.1,hn,k.2.2.2.2.2.2.2⟩) v.moves v.queued v.ends
section
variable {f:Fw} {line:Int} {c:Gc.C}
end
theorem v4x{a b:V4}(h:a.1=b.1∧a.2.1=b.2.1∧a.2.2.1=b.2.2.1∧a.2.2.2=b.2.2.2):a=b:=by
 obtain⟨a1,a2,a3,a4⟩:=a
 obtain⟨b1,b2,b3,b4⟩:=b
 simp only[Prod.mk.injEq];exact h
theorem stp_mid{n i k:Int}(hn:1≤n)(hi:0≤i∧i≤n):(0≤k→0≤stp n i k∧stp n i k≤k)∧(k≤0→k≤stp n i k∧stp n i k≤0):=by
 have s0:=sz_nonneg k
 have e:(2*n*sz k+n) / (2*n)=sz k:=by
  rw[Int.add_comm,Int.add_mul_ediv_left _ _ (by omega),Int.ediv_eq_zero_of_lt (by omega) (by omega)];omega
 have p0:0≤2*i*sz k:=Int.mul_nonneg (by omega) s0
 have lo:0≤(2*i*sz k+n) / (2*n):=Int.ediv_nonneg (by omega) (by omega)
 have up:(2*i*sz k+n) / (2*n)≤sz k:=by
  have m:=Int.mul_le_mul_of_nonneg_right (show 2*i≤2*n by omega) s0
  have:=Int.ediv_le_ediv (c:=2*n) (by omega) (show 2*i*sz k+n≤2*n*sz k+n by omega)
  omega
 have sk:sz k=if k<0 then -k else k:=rfl
 unfold stp
 constructor
 ·intro h;rw[if_neg (by omega)];rw[if_neg (by omega)]at sk;omega
 ·intro h
  by_cases z:k<0
  ·rw[if_pos z];rw[if_pos z]at sk;omega
  ·rw[if_neg z];rw[if_neg z]at sk;omega
theorem at4_mid{c p:V4}{i:Int}(hp:near4 p=true)(hq:near4 (add4 p c)=true):near4 (add4 p (at4 c i))=true:=by
 cases h:okC c with
 |false=>rw[at4_no h,add4_zero];exact hp
 |true=>
  have m:=mx4_bounds h
  have cl:=clm_bnd (n:=mx4 c) (i:=i) m.1
  have a1:=stp_mid (k:=c.1) m.1 cl
  have a2:=stp_mid (k:=c.2.1) m.1 cl
  have a3:=stp_mid (k:=c.2.2.1) m.1 cl
  have a4:=stp_mid (k:=c.2.2.2) m.1 cl
  have n1:=near4_iff.1 hp
  have n2:=near4_iff.1 hq
  unfold add4 at n2
  dsimp only at n2
  rw[at4_ok h]
  refine near4_iff.2 ?_
  unfold add4;dsimp only
  refine⟨?_,?_,?_,?_⟩
  ·rcases Int.le_total 0 c.1 with k|k
   ·have:=a1.1 k;omega
   ·have:=a1.2 k;omega
  ·rcases Int.le_total 0 c.2.1 with k|k
   ·have:=a2.1 k;omega
   ·have:=a2.2 k;omega
  ·rcases Int.le_total 0 c.2.2.1 with k|k
   ·have:=a3.1 k;omega
   ·have:=a3.2 k;omega
  ·rcases Int.le_total 0 c.2.2.2 with k|k
   ·have:=a4.1 k;omega
   ·have:=a4.2 k;omega
theorem made_mid{m:Mo}{p:V4}(hp:near4 p=true)(hq:near4 (add4 p m.1.1)=true):near4 (add4 p (madeM m))=true:=by
 by_cases h:validB m.1=true∧0≤m.2.1∧m.2.1≤dom m.1.1
 ·rw[madeM_yes h];exact at4_mid hp hq
 ·rw[madeM_no h,add4_zero];exact hp
section
variable {f:Fw} {r s:Int}
theorem read_valid(h:validF f=true):validF (readF f r s)=true:=by
 have v:=vf_of h
 have vp:=valid_parts h
 have k:=v.nums
 refine vf_mk vp v.mode (numsB_iff.2 ⟨k.1,k.2.1,k.2.2.1,k.2.2.2.1,k.2.2.2.2.1,k.2.2.2.2.2.1,k.2.2.2.2.2.2.1,k.2.2.2.2.2.2.2.1,k.2.2.2.2.2.2.2.2.1,k.2.2.2.2.2.2.2.2.2.1,?_,k.2.2.2.2.2.2.2.2.2.2.2⟩) v.moves v.queued v.ends
 unfold readF;dsimp only
 split<;>omega
theorem heat_valid(h:validF f=true):validF (heatF f)=true:=by
 have v:=vf_of h
 have vn:=valid_nums h
 exact vf_mk (partsB_iff.2 ⟨v.ma,(Co.step_ok v.c0 _).1,(Co.step_ok v.c1 _).1,(Gu.step_ok v.g0 _ _ _).1,(Gu.step_ok v.g1 _ _ _).1⟩) v.mode vn v.moves v.queued v.ends
theorem lost_valid(h:validF f=true):validF (lostF f)=true:=by
 unfold lostF;split
 ·exact lose_valid (heat_valid h)
 ·exact heat_valid h
theorem andNot_rng{n:Int}(h:0≤n∧n≤3):(0≤Gc.andNot n 1∧Gc.andNot n 1≤3)∧0≤Gc.andNot n 2∧Gc.andNot n 2≤3:=by
 have:n=0∨n=1∨n=2∨n=3:=by omega
 rcases this with rfl|rfl|rfl|rfl<;>decide
theorem wait_valid(h:validF f=true):validF (waitF f)=true:=by
 have k:=(vf_of h).nums
 have w:0≤f.waits∧f.waits≤3:=k.2.2.2.2.2.2.1
 have a:0≤(if warm f.c0 f.g0 f.r0=true then Gc.andNot f.waits 1 else f.waits)∧(if warm f.c0 f.g0 f.r0=true then Gc.andNot f.waits 1 else f.waits)≤3:=by
  split
  ·exact(andNot_rng w).1
  ·exact w
 unfold waitF
 refine waits_valid h ?_
 split
 ·exact(andNot_rng a).2
 ·exact a
theorem hot_valid(h:validF f=true):validF (hotF f r s)=true:=wait_valid (lost_valid (read_valid h))
theorem posAt_drop{p:V4}{q:List Bk}:∀n,posAt (add4 p (q.getD 0 dBk).1) (q.drop 1) n=posAt p q (n+1)
 |0=>rfl
 |n+1=>by
  show add4 (posAt _ (q.drop 1) n) ((q.drop 1).getD n dBk).1=add4 (posAt p q (n+1)) (q.getD (n+1) dBk).1
  rw[posAt_drop n]
  congr 2
  rw[List.getD_eq_getElem?_getD,List.getElem?_drop,←List.getD_eq_getElem?_getD,Nat.add_comm]
theorem start_mo(h:validF f=true)(hc:canStart f=true):okS (f.queue.getD 0 dBk) f.ma.ticks=true∧(startF f).mo=startM (f.queue.getD 0 dBk) f.ma.ticks:=by
 have v:=vf_of h
 obtain⟨c1,c2,c3,c4⟩:=canStart_iff.1 hc
 have b:=(blk_use (v.blk 0 (by omega))).1
 have t:=((Ma.ok_iff f.ma).1 v.ma).2.2.2.2
 have k:okS (f.queue.getD 0 dBk) f.ma.ticks=true:=okS_iff.2 ⟨b,by omega,by omega⟩
 exact⟨k,startMo_yes k⟩
theorem start_begin(h:validF f=true)(hc:canStart f=true):begin4 (startF f)=f.pos∧queue0 (startF f)=add4 (queue0 f) (f.queue.getD 0 dBk).1:=by
 have v:=vf_of h
 obtain⟨c1,c2,c3,c4⟩:=canStart_iff.1 hc
 obtain⟨_,m⟩:=start_mo h hc
 have b:begin4 (startF f)=f.pos:=by
  rw[begin4_on (f:=startF f) rfl,m,made_start]
  exact v4x ⟨by show f.pos.1-0=_;omega,by show f.pos.2.1-0=_;omega,by show f.pos.2.2.1-0=_;omega,by show f.pos.2.2.2-0=_;omega⟩
 refine⟨b,?_⟩
 show add4 (begin4 (startF f)) (startF f).mo.1.1=_
 rw[b,m,queue0_off v.moves c1,begin4_off c1];rfl
theorem start_valid(h:validF f=true)(hc:canStart f=true):validF (startF f)=true:=by
 have v:=vf_of h
 have vp:=valid_parts h
 have n:=v.nums
 obtain⟨c1,c2,c3,c4⟩:=canStart_iff.1 hc
 obtain⟨ok,m⟩:=start_mo h hc
 obtain⟨b,q0⟩:=start_begin h hc
 have l0:=(blk_use (v.blk 0 (by omega))).2.1
 have p1:near4 (add4 (queue0 f) (f.queue.getD 0 dBk).1)=true:=(blk_use (v.blk 0 (by omega))).2.2
 have len:(startF f).queue.length=f.queue.length-1:=by show(f.queue.drop 1).length=_;rw[List.length_drop]
 have hom:f.homed=true:=by
  rcases v.ends with k|k
  ·exact k.2
  ·omega
 refine vf_mk vp v.mode (numsB_iff.2 ⟨n.1,n.2.1,n.2.2.1,n.2.2.2.1,n.2.2.2.2.1,n.2.2.2.2.2.1,n.2.2.2.2.2.2.1,n.2.2.2.2.2.2.2.1,n.2.2.2.2.2.2.2.2.1,l0,n.2.2.2.2.2.2.2.2.2.2⟩) ?_ ?_ (.inl ⟨c3,hom⟩)
 ·rw[movesB_on (f:=startF f) rfl,m];exact start_runs ok
 ·refine queuedB_iff.2 ⟨by rw[len];have:=v.len;omega,?_,v.pos,v.ret,by rw[b];exact v.pos,by rw[q0];exact p1,fun i hi=>?_⟩
  ·rw[len];show(f.lines.drop 1).length=_;rw[List.length_drop,v.lens]
  ·rw[len]at hi
   have k:=blk_use (v.blk (i+1) (by omega))
   rw[q0]
   refine blkOK_iff.2 ⟨?_,?_,?_⟩
   ·show validB ((f.queue.drop 1).getD i dBk)=true
    rw[List.getD_eq_getElem?_getD,List.getElem?_drop,←List.getD_eq_getElem?_getD,Nat.add_comm];exact k.1
   ·show 0≤(f.lines.drop 1).getD i 0∧(f.lines.drop 1).getD i 0≤1099511627776
    rw[List.getD_eq_getElem?_getD,List.getElem?_drop,←List.getD_eq_getElem?_getD,Nat.add_comm];exact k.2.1
   ·show near4 (posAt _ (f.queue.drop 1) (i+1))=true
    rw[posAt_drop];exact k.2.2
theorem beg_valid(h:validF f=true):validF (begF f)=true:=by
 cases c:canStart f with
 |true=>rw[begF_yes c];exact start_valid h c
 |false=>rw[begF_no c];exact h
theorem step_yes(e:endedM (tickM f.mo f.ma.ticks)=true):stepF f={f with pos:=add4 f.pos (tickP f.mo f.ma.ticks),mo:=m0,moving:=false,active:=0}:=if_pos e
theorem step_no(e:endedM (tickM f.mo f.ma.ticks)=false):stepF f={f with pos:=add4 f.pos (tickP f.mo f.ma.ticks),mo:=tickM f.mo f.ma.ticks}:=if_neg (by rw[e];exact Bool.false_ne_true)
theorem step_pos:(stepF f).pos=add4 f.pos (tickP f.mo f.ma.ticks):=by unfold stepF;split<;>rfl
theorem step_begin(h:validF f=true)(hm:f.moving=true):queue0 (stepF f)=queue0 f∧begin4 (stepF f)=(if endedM (tickM f.mo f.ma.ticks)=true then queue0 f else begin4 f):=by
 have v:=vf_of h
 have m:=v.moves
 rw[movesB_on hm]at m
 have mt:=made_tick m
 cases e:endedM (tickM f.mo f.ma.ticks)with
 |true=>
  have em:=ended_made e
  rw[tick_block,mt]at em
  have q:queue0 f=add4 f.pos (tickP f.mo f.ma.ticks):=by
   unfold queue0;rw[begin4_on hm,←em]
   unfold add4 sub4
   exact v4x ⟨by dsimp only;omega,by dsimp only;omega,by dsimp only;omega,by dsimp only;omega⟩
  rw[step_yes e,if_pos rfl,q]
  refine⟨?_,?_⟩
  ·unfold queue0;rw[begin4_off rfl];exact add4_zero _
  ·rw[begin4_off rfl]
 |false=>
  have b:begin4 (stepF f)=begin4 f:=by
   rw[step_no e,begin4_on (f:={f with pos:=add4 f.pos (tickP f.mo f.ma.ticks),mo:=tickM f.mo f.ma.ticks}) hm,begin4_on hm,mt]
   unfold add4 sub4
   exact v4x ⟨by dsimp only;omega,by dsimp only;omega,by dsimp only;omega,by dsimp only;omega⟩
  refine⟨?_,by rw[b,if_neg Bool.false_ne_true]⟩
  unfold queue0
  rw[b,step_no e]
  show add4 (begin4 f) (tickM f.mo f.ma.ticks).1.1=_
  rw[tick_block]
theorem step_valid(h:validF f=true)(hm:f.moving=true):validF (stepF f)=true:=by
 have v:=vf_of h
 have vp:=valid_parts h
 have vn:=valid_nums h
 have n:=v.nums
 have m:=v.moves
 rw[movesB_on hm]at m
 obtain⟨q0,b⟩:=step_begin h hm
 have en:¬f.mode=3∧f.homed=true:=by
  rcases v.ends with k|k
  ·exact k
  ·rw[hm]at k;cases k.1
 have same:(stepF f).queue=f.queue∧(stepF f).lines=f.lines∧(stepF f).ret=f.ret∧(stepF f).mode=f.mode∧(stepF f).homed=f.homed:=by unfold stepF;split<;>exact⟨rfl,rfl,rfl,rfl,rfl⟩
 have pn:near4 (stepF f).pos=true:=by
  rw[step_pos]
  have mt:=made_tick m
  have k:=made_mid (m:=tickM f.mo f.ma.ticks) (p:=begin4 f) v.beg (by rw[tick_block];exact v.q0)
  rw[mt,begin4_on hm]at k
  have e:add4 (sub4 f.pos (madeM f.mo)) (add4 (madeM f.mo) (tickP f.mo f.ma.ticks))=add4 f.pos (tickP f.mo f.ma.ticks):=by
   unfold add4 sub4
   exact v4x ⟨by dsimp only;omega,by dsimp only;omega,by dsimp only;omega,by dsimp only;omega⟩
  rw[e]at k;exact k
 have qd:queuedB (stepF f)=true:=queuedB_iff.2 ⟨by rw[same.1];exact v.len,by rw[same.1,same.2.1];exact v.lens,pn,by rw[same.2.2.1];exact v.ret,by
  rw[b];split
  ·exact v.q0
  ·exact v.beg,by rw[q0];exact v.q0,fun i hi=>by
  rw[same.1]at hi
  rw[q0,same.1,same.2.1];exact v.blk i hi⟩
 cases e:endedM (tickM f.mo f.ma.ticks)with
 |true=>
  rw[step_yes e]at qd ⊢
  refine vf_mk vp v.mode (numsB_iff.2 ⟨n.1,n.2.1,n.2.2.1,n.2.2.2.1,n.2.2.2.2.1,n.2.2.2.2.2.1,n.2.2.2.2.2.2.1,n.2.2.2.2.2.2.2.1,n.2.2.2.2.2.2.2.2.1,?_,n.2.2.2.2.2.2.2.2.2.2⟩) ?_ qd (.inl en)
  ·show(0:Int)≤0∧(0:Int)≤1099511627776;omega
  ·rw[movesB_off rfl];exact stillB_zero rfl rfl
 |false=>
  rw[step_no e]at qd ⊢
  refine vf_mk vp v.mode vn ?_ qd (.inl en)
  rw[movesB_on (f:={f with pos:=add4 f.pos (tickP f.mo f.ma.ticks),mo:=tickM f.mo f.ma.ticks}) hm]
  exact tick_runs m e
theorem run_valid(h:validF f=true)(hm:¬f.mode=3):validF (runF f)=true:=by
 have v:=vf_of h
 have n:=v.nums
 unfold runF
 split
 ·exact dwell_valid h (by omega)
 ·split
  ·rename_i k;exact step_valid (beg_valid h) k
  ·exact beg_valid h
theorem tick_valid(h:validF f=true):validF (tickF f r s)=true:=by
 unfold tickF
 rw[h,if_neg (by decide)]
 split
 ·exact hot_valid h
 ·rename_i k;exact run_valid (hot_valid h) k
theorem tickF_on(h:validF f=true):tickF f r s=if(hotF f r s).mode=3 then hotF f r s else runF (hotF f r s):=by unfold tickF;rw[h];rfl
theorem tickQ_on(h:validF f=true):tickQ f r s=if(hotF f r s).mode=3 then z4 else runP (hotF f r s):=by unfold tickQ;rw[h];rfl
theorem tickD_on(h:validF f=true):tickD f r s=if(hotF f r s).mode=3 then(0,0)else(duty0 (readF f r s),duty1 (readF f r s)):=by unfold tickD;rw[h];rfl
end
def begB(f:Fw):Bool:=validF f&&canStart f
def begX(f:Fw):Fw:=if validF f=true then begF f else f
def begS(f:Fw):SV:=.tuple [(begX f).sv,.bool (begB f)]
theorem begX_yes{f:Fw}(h:validF f=true):begX f=begF f:=if_pos h
theorem begX_no{f:Fw}(h:validF f=false):begX f=f:=if_neg (by rw[h];exact Bool.false_ne_true)
theorem begS_1{f:Fw}(h:validF f=false):SV.tuple [.agg f.cells,.bool false] =begS f:=by unfold begS begB;rw[begX_no h,h];rfl
theorem begS_2{f:Fw}(h:validF f=true)(c:canStart f=false):SV.tuple [.agg f.cells,.bool false] =begS f:=by unfold begS begB;rw[begX_yes h,begF_no c,h,c];rfl
theorem begS_3{f:Fw}(h:validF f=true)(c:canStart f=true):SV.tuple [.agg (begF f).cells,.bool true] =begS f:=by unfold begS begB;rw[begX_yes h,h,c];rfl
def tickX(f:Fw)(r s:Int):SV:=.tuple [(tickF f r s).sv,V4.sv (tickQ f r s),.agg [I64 (tickD f r s).1,I64 (tickD f r s).2]]
theorem tk_ticks{f:Fw}(v:validF f=true):(if 1099511627776<i64.wrap (f.ticks+1)then 1099511627776 else i64.wrap (f.ticks+1))=(if f.ticks+1<1099511627776 then f.ticks+1 else 1099511627776):=by
 have n:=(vf_of v).nums
 rw[w64 (x:=f.ticks+1) (by omega) (by omega)]
 split<;>split<;>omega
theorem tk_part{f g:Fw}{r s:Int}(v:validF f=true)(h:g=readF f r s):partB g=true:=by
 subst h
 have u:=vf_of (read_valid (r:=r) (s:=s) v)
 exact partB_iff.2 ⟨u.c0,u.c1,u.g0,u.g1,u.shape⟩
theorem tk_mot{f g:Fw}{r s:Int}(v:validF f=true)(h:g=readF f r s):motPre (hotF' g)=true:=by
 subst h
 have u:=vf_of (hot_valid (r:=r) (s:=s) v)
 have n:=u.nums
 exact motPre_iff.2 ⟨u.shape,show 0≤(hotF f r s).dwell∧(hotF f r s).dwell≤1048576 by omega⟩
theorem tk_hotD{f:Fw}{r s:Int}(v:validF f=true):hotD (readF f r s)=tickD f r s:=by
 rw[tickD_on v];rfl
theorem tk_leaf1{f g:Fw}{r s:Int}(v:validF f=true)(h:g=readF f r s)(m:(hotF' g).mode=3):SV.tuple [.agg (hotF' g).cells,V4.sv z4,.agg [I64 (hotD g).1,I64 (hotD g).2]] =tickX f r s:=by
 subst h
 have m:(hotF f r s).mode=3:=m
 unfold tickX
 rw[tk_hotD v,tickF_on v,tickQ_on v,if_pos m,if_pos m];rfl
theorem tk_leaf2{f g:Fw}{r s:Int}(v:validF f=true)(h:g=readF f r s)(m:¬(hotF' g).mode=3):SV.tuple [.agg (runF (hotF' g)).cells,V4.sv (runP (hotF' g)),.agg [I64 (hotD g).1,I64 (hotD g).2]] =tickX f r s:=by
 subst h
 have m:¬(hotF f r s).mode=3:=m
 unfold tickX
 rw[tk_hotD v,tickF_on v,tickQ_on v,if_neg m,if_neg m];rfl
theorem tk_no{f:Fw}{r s:Int}(v:validF f=false):SV.tuple [.agg f.cells,V4.sv z4,.agg [I64 0,I64 0]] =tickX f r s:=by
 unfold tickX tickF tickQ tickD;rw[v];rfl
theorem s_beginP(f:Fw):SCall Tryz.prog 29 [f.sv] (begS f):=
 scall_vE (hB (l:=[fValid]) (k:=[]) (j:=[BFact.toP bStart]) (i:=[bStart]) ([] :List Nat) ([] :List Nat) ([] :List Nat) ([] :List Nat) (⟨o_valid,trivial⟩) noneOk (allQ.all (p:=PFact.ok Tryz.prog) (l:=[BFact.toP bStart]) ⟨BFact.toP_ok o_bstart,trivial⟩) (allQ.all (p:=BFact.ok Tryz.prog) (l:=[bStart]) ⟨o_bstart,trivial⟩)) 1000 (.fork (.all) (.fork (.all) (.all)))
  (t:=.node (!validF f)
 (.leaf (SV.tuple [SV.agg (Fw.cells f),SV.bool false]))
 (.req (shapeB f) (.node (!canStart f)
   (.leaf (SV.tuple [SV.agg (Fw.cells f),SV.bool false]))
   (.leaf (SV.tuple [SV.agg (Fw.cells (begF f)),SV.bool true])))))
   (by kernel_rfl) (by
    refine n_not (fun v=>begS_1 v) fun v=>n_req (vf_of v).shape (n_not (fun c=>begS_2 v c) fun c=>begS_3 v c)) (by kernel_rfl) (by rfl)
theorem s_tickP(f:Fw)(r s:Int):SCall Tryz.prog 27 [f.sv,.agg [I64 r,I64 s]] (tickX f r s):=
 scall_vE (hB (l:=[fValid]) (k:=[]) (j:=[BFact.toP bHeat,BFact.toP bMots]) (i:=[bHeat,bMots]) ([] :List Nat) ([] :List Nat) ([] :List Nat) ([] :List Nat) (⟨o_valid,trivial⟩) noneOk (allQ.all (p:=PFact.ok Tryz.prog) (l:=[BFact.toP bHeat,BFact.toP bMots]) ⟨BFact.toP_ok o_bheat,BFact.toP_ok o_bmots,trivial⟩) (allQ.all (p:=BFact.ok Tryz.prog) (l:=[bHeat,bMots]) ⟨o_bheat,o_bmots,trivial⟩)) 1000 (.fork (.all) (.fork (.all) (.all)))
  (t:=let y2:={f with ticks:=(if 1099511627776<i64.wrap (f.ticks+1)then 1099511627776 else i64.wrap (f.ticks+1)),r0:=r,r1:=s};let y0:=hotF' y2;let y3:=(((y0.mo.1.1.1,y0.mo.1.1.2.1,y0.mo.1.1.2.2),y0.mo.1.2.1,y0.mo.1.2.2.1,y0.mo.1.2.2.2),y0.mo.2);let y1:={y0 with pos:=(y0.pos.1,y0.pos.2.1,y0.pos.2.2),loc:=(y0.loc.1,y0.loc.2),mo:=y3,ret:=(y0.ret.1,y0.ret.2.1,y0.ret.2.2)};.node (!validF f) (.leaf (.tuple [.agg (Fw.cells f),.agg [.int .i64 0,.int .i64 0,.int .i64 0,.int .i64 0],.agg [.int .i64 0,.int .i64 0]])) (.req (decide (r=r)) (.req (decide (s=s)) (.req (partB y2) (.req (motPre y1) (.node (y0.mode==3) (.leaf (.tuple [.agg (Fw.cells {y0 with pos:=(y0.pos.1,y0.pos.2.1,y0.pos.2.2),loc:=(y0.loc.1,y0.loc.2),mo:=y3,ret:=(y0.ret.1,y0.ret.2.1,y0.ret.2.2)}),.agg [.int .i64 0,.int .i64 0,.int .i64 0,.int .i64 0],.agg [.int .i64 (hotD y2).1,.int .i64 (hotD y2).2]])) (.leaf (.tuple [.agg (Fw.cells (runF y1)),.agg [.int .i64 (runP y1).1,.int .i64 (runP y1).2.1,.int .i64 (runP y1).2.2.1,.int .i64 (runP y1).2.2.2],.agg [.int .i64 (hotD y2).1,.int .i64 (hotD y2).2]]))))))))
  (by kernel_rfl) (by
   refine n_not (fun v=>tk_no v) fun v=>?_
   have h:({f with ticks:=(if 1099511627776<i64.wrap (f.ticks+1)then 1099511627776 else i64.wrap (f.ticks+1)),r0:=r,r1:=s}:Fw)=readF f r s:=by unfold readF;rw[tk_ticks v]
   exact n_req (decide_eq_true rfl) (n_req (decide_eq_true rfl) (n_req (tk_part v h) (n_req (tk_mot v h) (n_eq (fun m=>tk_leaf1 v h m) fun m=>tk_leaf2 v h m))))) (by kernel_rfl) (by rfl)
section
variable {f:Fw} {line:Int} {c:Gc.C}
end
def asMa:List SV→Option Ma
 |[.int .i64 a0,.int .i64 a1,.int .i64 a2,.int .i64 a3,.int .i64 a4,.int .i64 a5,.int .i64 a6,.int .i64 a7,.int .i64 a8,.int .i64 a9,.int .i64 a10,.int .i64 a11,.int .i64 a12,.int .i64 a13,.int .i64 a14,.int .i64 a15,.int .i64 a16,.int .i64 a17,.int .i64 a18,.int .i64 a19,.int .i64 a20,.int .i64 a21,.int .i64 a22,.int .i64 a23,.int .i64 a24,.int .i64 a25,.int .i64 a26,.int .i64 a27,.bool xy,.int .i64 t] =>some ⟨⟨a0,a1,a2,a3,a4,a5,a6⟩,⟨a7,a8,a9,a10,a11,a12,a13⟩,⟨a14,a15,a16,a17,a18,a19,a20⟩,⟨a21,a22,a23,a24,a25,a26,a27⟩,xy,t⟩
 |_=>none
theorem asMa_eq{l:List SV}{m:Ma}(h:asMa l=some m):l=m.cells:=by
 unfold asMa at h
 split at h
 ·injection h with h;subst h;rfl
 ·cases h
def asCo2:List SV→Option (Co×Co)
 |[.int .i64 c0,.int .i64 c1,.int .i64 c2,.int .i64 c3,.int .i64 c4,.int .i64 c5,.int .i64 c6,.int .i64 c7,.int .i64 c8,.int .i64 c9,.int .i64 c10,.int .i64 c11] =>some (⟨c0,c1,c2,c3,c4,c5⟩,⟨c6,c7,c8,c9,c10,c11⟩)
 |_=>none
theorem asCo2_eq{l:List SV}{m:(Co×Co)}(h:asCo2 l=some m):l=m.1.cells++m.2.cells:=by
 unfold asCo2 at h
 split at h
 ·injection h with h;subst h;rfl
 ·cases h
def asGu2:List SV→Option (Gu×Gu)
 |[.int .i64 g0,.int .i64 g1,.int .i64 g2,.int .i64 g3,.int .i64 g4,.int .i64 g5,.int .i64 g6,.int .i64 g7,.int .i64 g8,.int .i64 g9,.bool u,.int .i64 h0,.int .i64 h1,.int .i64 h2,.int .i64 h3,.int .i64 h4,.int .i64 h5,.int .i64 h6,.int .i64 h7,.int .i64 h8,.int .i64 h9,.bool v] =>some (⟨g0,g1,g2,g3,g4,g5,g6,g7,g8,g9,u⟩,⟨h0,h1,h2,h3,h4,h5,h6,h7,h8,h9,v⟩)
 |_=>none
theorem asGu2_eq{l:List SV}{m:(Gu×Gu)}(h:asGu2 l=some m):l=m.1.cells++m.2.cells:=by
 unfold asGu2 at h
 split at h
 ·injection h with h;subst h;rfl
 ·cases h
def factNew(f:FuncId):Fact:=⟨f,fun args=>match args with
 |[.agg lm,.agg lc,.agg lg,.int .i64 cold] =>match asMa lm with
  |some m=>match asCo2 lc with
   |some c=>match asGu2 lg with
    |some g=>some (.node (newOk m c.1 c.2 g.1 g.2 cold) (.leaf (.tuple [(newF m c.1 c.2 g.1 g.2 cold).sv,I64 0])) (.leaf (.tuple [fw0.sv,I64 1])))
    |none=>none
   |none=>none
  |none=>none
 |_=>none⟩
def fNew:Fact:=factNew 61
def fBegX:Fact:=factF1 29 fun f=>.leaf (begS f)
def fTickX:Fact:=factFw 27 fun f rest=>match rest with
 |[.agg [.int .i64 r,.int .i64 s]] =>some (.leaf (tickX f r s))
 |_=>none
theorem factNew_ok{f:FuncId}(k:∀m c d g h cold,SCall Tryz.prog f [Ma.sv m,.agg (Co.cells c++Co.cells d),.agg (Gu.cells g++Gu.cells h),I64 cold] (newS m c d g h cold)):(factNew f).ok Tryz.prog:=fun args t ht=>by
 simp only[factNew]at ht
 split at ht
 ·split at ht
  ·rename_i hm
   split at ht
   ·rename_i hc
    split at ht
    ·rename_i hg
     injection ht with ht;subst ht
     rw[asMa_eq hm,asCo2_eq hc,asGu2_eq hg]
     refine⟨fun h1=>?_,fun h1=>?_⟩
     ·refine scall_val (v:=newS _ _ _ _ _ _) (k _ _ _ _ _ _) ?_
      rw[newS_yes h1];exact nil_tuple (nilC_ok _ rfl rfl)
     ·refine scall_val (v:=newS _ _ _ _ _ _) (k _ _ _ _ _ _) ?_
      rw[newS_no h1];exact nil_tuple (nilC_ok _ rfl rfl)
    ·cases ht
   ·cases ht
  ·cases ht
 ·cases ht
theorem o_new:fNew.ok Tryz.prog:=factNew_ok s_new
theorem o_begX:fBegX.ok Tryz.prog:=factF1_ok fun f=>s_beginP f
theorem o_tickX:fTickX.ok Tryz.prog:=factFw_ok fun f rest t ht=>by
 split at ht
 ·injection ht with ht;subst ht;exact s_tickP f _ _
 ·cases ht
section
variable {f:Fw} {ex:Int} {cn:V4}
end
section
variable {f:Fw} {line:Int} {c:Gc.C} {ex:Int} {cn:V4}
end
section
variable {f:Fw} {r s ex:Int} {cn:V4}
end
section
variable {f:Fw} {line:Int} {c:Gc.C} {a b:Int×Int}
end
section
variable {f:Fw} {r s:Int} {a b:Int×Int}
end
def eqLI(a b:List Int):Bool:=decide (a=b)
def eqLB(a b:List Bk):Bool:=decide (a=b)
theorem eqLI_eq{a b:List Int}(h:eqLI a b=true):a=b:=of_decide_eq_true h
theorem eqLB_eq{a b:List Bk}(h:eqLB a b=true):a=b:=of_decide_eq_true h
def shI(a:List Int):Bool:=decide (a.length≤1000)
def shB(a:List Bk):Bool:=decide (a.length≤1000)
def fSaI:Fact:=⟨70,fun args=>match args with
 |[.list (.int .i64) a,.list (.int .i64) b] =>some (.req (eqLI a b) (.req (shI a) (.leaf (.bool true))))
 |_=>none⟩
def fSaB:Fact:=⟨69,fun args=>match args with
 |[.list (.pair (.pair (.int .i64) (.pair (.int .i64) (.pair (.int .i64) (.int .i64)))) (.pair (.int .i64) (.pair (.int .i64) (.pair (.int .i64) (.int .i64))))) a,.list (.pair (.pair (.int .i64) (.pair (.int .i64) (.pair (.int .i64) (.int .i64)))) (.pair (.int .i64) (.pair (.int .i64) (.pair (.int .i64) (.int .i64))))) b] =>some (.req (eqLB a b) (.req (shB a) (.leaf (.bool true))))
 |_=>none⟩
def sai0_p:Plan:=.fork (.all) (.all)
noncomputable def sai0_t(l:List Int):Tree Stop:= .node ((↑l.length:Int) !=(↑l.length:Int)) (.leaf (.done (.bool false))) (.leaf (.at (loopOf Tryz.prog 70 0) 26 (slotsS 26 [(0,.list (Ty.int IntKind.i64) l),(1,.list (Ty.int IntKind.i64) l),(5,.int .i64 0)]) []))
theorem sai0(l:List Int):segR (Env.of Tryz.prog (sumOf [])) 1000 (fnOf Tryz.prog 70) .unit (keepS 26 [0,1,5]) (codeS Tryz.prog 70) sai0_p (startS Tryz.prog 70 [LI l,LI l]) [] =sai0_t l:=by kernel_rfl
def sai1_p:Plan:=.fork (.fork (.all) (.all)) (.all)
noncomputable def sai1_t(l:List Int)(i:Int):Tree Stop:= .node (decide (i< (↑l.length:Int))) (.req (decide (0≤i)&&decide (i< (↑l.length:Int))) (.req (decide (0≤i)&&decide (i< (↑l.length:Int))) (.node (l.getD i.toNat 0 != l.getD i.toNat 0) (.leaf (.done (.bool false))) (.leaf (.at (loopOf Tryz.prog 70 0) 26 (slotsS 26 [(0,.list (Ty.int IntKind.i64) l),(1,.list (Ty.int IntKind.i64) l),(5,.int .i64 (i64.wrap (i+1)))]) []))))) (.leaf (.done (.bool true)))
theorem sai1(l:List Int)(i:Int):segR (Env.of Tryz.prog (sumOf [])) 1000 (fnOf Tryz.prog 70) .unit (keepS 26 [0,1,5]) (loopOf Tryz.prog 70 0) sai1_p (slotsS 26 [(0,LI l),(1,LI l),(5,I64 i)]) [] =sai1_t l i:=by kernel_rfl
def sab0_p:Plan:=.fork (.all) (.all)
noncomputable def sab0_t(l:List Bk):Tree Stop:= .node ((↑l.length:Int) !=(↑l.length:Int)) (.leaf (.done (.bool false))) (.leaf (.at (loopOf Tryz.prog 69 0) 26 (slotsS 26 [(0,.list tyBk l),(1,.list tyBk l),(5,.int .i64 0)]) []))
theorem sab0(l:List Bk):segR (Env.of Tryz.prog (sumOf [])) 1000 (fnOf Tryz.prog 69) .unit (keepS 26 [0,1,5]) (codeS Tryz.prog 69) sab0_p (startS Tryz.prog 69 [LB l,LB l]) [] =sab0_t l:=by kernel_rfl
def sab1_p:Plan:=.fork (.fork (.all) (.all)) (.all)
noncomputable def sab1_t(l:List Bk)(i:Int):Tree Stop:= .node (decide (i< (↑l.length:Int))) (.req (decide (0≤i)&&decide (i< (↑l.length:Int))) (.req (decide (0≤i)&&decide (i< (↑l.length:Int))) (.node (!((l.getD i.toNat dBk).1.1==(l.getD i.toNat dBk).1.1&& ((l.getD i.toNat dBk).1.2.1==(l.getD i.toNat dBk).1.2.1&& ((l.getD i.toNat dBk).1.2.2.1==(l.getD i.toNat dBk).1.2.2.1&& ((l.getD i.toNat dBk).1.2.2.2==(l.getD i.toNat dBk).1.2.2.2&&true)))&& ((l.getD i.toNat dBk).2.1==(l.getD i.toNat dBk).2.1&& ((l.getD i.toNat dBk).2.2.1==(l.getD i.toNat dBk).2.2.1&& ((l.getD i.toNat dBk).2.2.2.1==(l.getD i.toNat dBk).2.2.2.1&& ((l.getD i.toNat dBk).2.2.2.2==(l.getD i.toNat dBk).2.2.2.2&&true)))))) (.leaf (.done (.bool false))) (.leaf (.at (loopOf Tryz.prog 69 0) 26 (slotsS 26 [(0,.list tyBk l),(1,.list tyBk l),(5,.int .i64 (i64.wrap (i+1)))]) []))))) (.leaf (.done (.bool true)))
theorem sab1(l:List Bk)(i:Int):segR (Env.of Tryz.prog (sumOf [])) 1000 (fnOf Tryz.prog 69) .unit (keepS 26 [0,1,5]) (loopOf Tryz.prog 69 0) sab1_p (slotsS 26 [(0,LB l),(1,LB l),(5,I64 i)]) [] =sab1_t l i:=by kernel_rfl
structure Fl where
 pages:List (List UInt8)
 fuse:Int
 dead:Bool
 keep:Int
def Fl.cells(f:Fl):List SV:=[.list .str f.pages,I64 f.fuse,.bool f.dead,I64 f.keep]
def Fl.sv(f:Fl):SV:=.agg f.cells
def factFl(f:FuncId)(h:Fl→Tree SV):Fact:=⟨f,fun args=>match args with
 |[.agg [.list .str p,.int .i64 a,.bool d,.int .i64 k]] =>some (h ⟨p,a,d,k⟩)
 |_=>none⟩
theorem factFl_ok{P:Program}{f:FuncId}{h:Fl→Tree SV}(k:∀c,(h c).says (SCall P f [c.sv])):(factFl f h).ok P:=fun args t ht=>by
 simp only[factFl]at ht
 split at ht
 ·injection ht with ht;subst ht;exact k ⟨_,_,_,_⟩
 ·cases ht
def vap0_p:Plan:=.all
noncomputable def vap0_t(f:Fl):Tree Stop:= .leaf (.at (loopOf Tryz.prog 102 0) 46 (slotsS 46 [(1,.ptr 0 0),(6,.list Ty.str f.pages),(7,.int .i64 (↑f.pages.length:Int)),(8,.int .i64 0)]) [some (.cells [.list Ty.str f.pages,.int .i64 f.fuse,.bool f.dead,.int .i64 f.keep])])
theorem vap0(f:Fl):segR (Env.of Tryz.prog (sumOf [])) 1000 (fnOf Tryz.prog 102) .unit (keepS 46 [1,6,7,8]) (codeS Tryz.prog 102) vap0_p (startS Tryz.prog 102 [f.sv]) [] =vap0_t f:=by kernel_rfl
def vap1_p:Plan:=.fork (.fork .all .all) (.fork (.ln 4 (.fork (.ln 3 (.fork (.ln 3 (.fork (.ln 3 (.fork (.lit (.lit (.lit .all))) (.lit (.lit (.lit .all))))) (.ln 6 (.lit .all)))) (.ln 10 (.lit .all)))) (.ln 14 (.lit .all)))) (.ln 19 (.lit .all)))
noncomputable def vap1_t(f:Fl)(i:Int):Tree Stop:= .node (decide (i< (↑f.pages.length:Int))) (.req (decide (0≤i)&&decide (i< (↑f.pages.length:Int))) (.node (((List.length (f.pages.getD i.toNat ([] :List UInt8)):Nat):Int) != 64) (.leaf (.done (.bool false))) (.leaf (.at (loopOf Tryz.prog 102 0) 46 (slotsS 46 [(1,.ptr 0 0),(6,.list Ty.str f.pages),(7,.int .i64 (↑f.pages.length:Int)),(8,.int .i64 (i64.wrap (i+1)))]) [some (.cells [.list Ty.str f.pages,.int .i64 f.fuse,.bool f.dead,.int .i64 f.keep])])))) (.node (decide ((↑f.pages.length:Int)≥2)) (.node (decide ((↑f.pages.length:Int)≤256)) (.node (decide (f.fuse≥0)) (.node (decide (f.fuse≤1048576)) (.node (decide (f.keep≥0)) (.leaf (.done (.bool (decide (f.keep≤64))))) (.leaf (.done (.bool false)))) (.leaf (.done (.bool false)))) (.leaf (.done (.bool false)))) (.leaf (.done (.bool false)))) (.leaf (.done (.bool false))))
theorem vap1(f:Fl)(i:Int):segR (Env.of Tryz.prog (sumOf [])) 1000 (fnOf Tryz.prog 102) .unit (keepS 46 [1,6,7,8]) (loopOf Tryz.prog 102 0) vap1_p (slotsS 46 [(1,.ptr 0 0),(6,.list .str f.pages),(7,I64 f.pages.length),(8,I64 i)]) [some (.cells f.cells)] =vap1_t f i:=by kernel_rfl
def var0_p:Plan:=.all
noncomputable def var0_t(f:Fl):Tree Stop:= .leaf (.at (loopOf Tryz.prog 109 0) 46 (slotsS 46 [(1,.ptr 0 0),(6,.list Ty.str f.pages),(7,.int .i64 (↑f.pages.length:Int)),(8,.int .i64 0)]) [some (.cells [.list Ty.str f.pages,.int .i64 f.fuse,.bool f.dead,.int .i64 f.keep])])
theorem var0(f:Fl):segR (Env.of Tryz.prog (sumOf [])) 1000 (fnOf Tryz.prog 109) .unit (keepS 46 [1,6,7,8]) (codeS Tryz.prog 109) var0_p (startS Tryz.prog 109 [f.sv]) [] =var0_t f:=by kernel_rfl
def var1_p:Plan:=.fork (.fork .all .all) (.fork (.ln 4 (.fork (.ln 3 (.fork (.ln 3 (.fork (.ln 3 (.fork (.lit (.lit (.lit .all))) (.lit (.lit (.lit .all))))) (.ln 6 (.lit .all)))) (.ln 10 (.lit .all)))) (.ln 14 (.lit .all)))) (.ln 19 (.lit .all)))
noncomputable def var1_t(f:Fl)(i:Int):Tree Stop:= .node (decide (i< (↑f.pages.length:Int))) (.req (decide (0≤i)&&decide (i< (↑f.pages.length:Int))) (.node (((List.length (f.pages.getD i.toNat ([] :List UInt8)):Nat):Int) != 64) (.leaf (.done (.bool false))) (.leaf (.at (loopOf Tryz.prog 109 0) 46 (slotsS 46 [(1,.ptr 0 0),(6,.list Ty.str f.pages),(7,.int .i64 (↑f.pages.length:Int)),(8,.int .i64 (i64.wrap (i+1)))]) [some (.cells [.list Ty.str f.pages,.int .i64 f.fuse,.bool f.dead,.int .i64 f.keep])])))) (.node (decide ((↑f.pages.length:Int)≥2)) (.node (decide ((↑f.pages.length:Int)≤256)) (.node (decide (f.fuse≥0)) (.node (decide (f.fuse≤1048576)) (.node (decide (f.keep≥0)) (.leaf (.done (.bool (decide (f.keep≤64))))) (.leaf (.done (.bool false)))) (.leaf (.done (.bool false)))) (.leaf (.done (.bool false)))) (.leaf (.done (.bool false)))) (.leaf (.done (.bool false))))
theorem var1(f:Fl)(i:Int):segR (Env.of Tryz.prog (sumOf [])) 1000 (fnOf Tryz.prog 109) .unit (keepS 46 [1,6,7,8]) (loopOf Tryz.prog 109 0) var1_p (slotsS 46 [(1,.ptr 0 0),(6,.list .str f.pages),(7,I64 f.pages.length),(8,I64 i)]) [some (.cells f.cells)] =var1_t f i:=by kernel_rfl
def fcp_p:Plan:=.fork (.all) (.all)
noncomputable def fcp_t(f:Fl):Tree Stop:= .node (f.pages.isEmpty) (.leaf (.done (.agg [.list Ty.str [],.int .i64 f.fuse,.bool f.dead,.int .i64 f.keep]))) (.req (decide ((0+f.pages.length)*16≤140737488355328)) (.leaf (.done (.agg [.list Ty.str f.pages,.int .i64 f.fuse,.bool f.dead,.int .i64 f.keep]))))
theorem fcp(f:Fl):segR (Env.of Tryz.prog (sumOf [])) 1000 (fnOf Tryz.prog 130) .str (keepS 9 []) (codeS Tryz.prog 130) fcp_p (startS Tryz.prog 130 [f.sv]) [] =fcp_t f:=by kernel_rfl
def fcpP_p:Plan:=.fork (.all) (.all)
noncomputable def fcpP_t(f:Fl):Tree Stop:= .node (f.pages.isEmpty) (.leaf (.done (.agg [.list Ty.str [],.int .i64 f.fuse,.bool f.dead,.int .i64 f.keep]))) (.req (decide ((0+f.pages.length)*16≤140737488355328)) (.leaf (.done (.agg [.list Ty.str f.pages,.int .i64 f.fuse,.bool f.dead,.int .i64 f.keep]))))
theorem fcpP(f:Fl):segR (Env.of Tryz.prog (sumOf [])) 1000 (fnOf Tryz.prog 116) .str (keepS 9 []) (codeS Tryz.prog 116) fcpP_p (startS Tryz.prog 116 [f.sv]) [] =fcpP_t f:=by kernel_rfl
theorem n_true{α:Type}{L:α→Prop}{b:Bool}{T F:Tree α}(hb:b=true)(h:T.holds L):(Tree.node b T F).holds L:=⟨fun _=>h,fun k=>by rw[hb]at k;cases k⟩
theorem k000:Known Tryz.prog (Env.of Tryz.prog (sumOf [])):=kW trivial
theorem sai_loop(l:List Int)(hl:l.length≤4611686018427387904):∀ (k i:Nat),i+k=l.length→
  RunsR Tryz.prog (fnOf Tryz.prog 70) (.bool true) (loopOf Tryz.prog 70 0) (slotsS 26 [(0,LI l),(1,LI l),(5,I64 i)]) []
 |k,i,hi=>by
  refine runsR_seg k000 (n:=1000) (hint:=.unit) (keep:=keepS 26 [0,1,5]) (p:=sai1_p) rfl ?_
  erw [sai1 l i]
  unfold sai1_t
  have t0:(i:Int).toNat=i:=by omega
  have w1:i64.wrap ((i:Int)+1)=((i+1:Nat):Int):=by rw[w64 (by omega) (by omega)];omega
  rw[t0,w1]
  refine n_dec (fun a=>?_) fun a=>rfl
  match k,hi with
  |0,hi=>omega
  |k+1,hi=>
   exact n_req (by simp;omega) (n_req (by simp;omega) (n_ne (fun c=>absurd rfl c) fun _=>⟨slotsS_len _ _,sai_loop l hl k (i+1) (by omega)⟩))
theorem sab_loop(l:List Bk)(hl:l.length≤4611686018427387904):∀ (k i:Nat),i+k=l.length→
  RunsR Tryz.prog (fnOf Tryz.prog 69) (.bool true) (loopOf Tryz.prog 69 0) (slotsS 26 [(0,LB l),(1,LB l),(5,I64 i)]) []
 |k,i,hi=>by
  refine runsR_seg k000 (n:=1000) (hint:=.unit) (keep:=keepS 26 [0,1,5]) (p:=sab1_p) rfl ?_
  erw [sab1 l i]
  unfold sab1_t
  have t0:(i:Int).toNat=i:=by omega
  have w1:i64.wrap ((i:Int)+1)=((i+1:Nat):Int):=by rw[w64 (by omega) (by omega)];omega
  rw[t0,w1]
  refine n_dec (fun a=>?_) fun a=>rfl
  match k,hi with
  |0,hi=>omega
  |k+1,hi=>
   exact n_req (by simp;omega) (n_req (by simp;omega) ⟨fun c=>(by simp at c),fun _=>⟨slotsS_len _ _,sab_loop l hl k (i+1) (by omega)⟩⟩)
theorem s_saI(l:List Int)(hl:l.length≤4611686018427387904):SCall Tryz.prog 70 [LI l,LI l] (.bool true):=by
 refine scallR_loops rfl rfl (by kernel_rfl) (runsR_seg k000 (n:=1000) (hint:=.unit) (keep:=keepS 26 [0,1,5]) (p:=sai0_p) (boxes:=[]) rfl ?_)
 have q:=sai0 l
 unfold startS codeS at q
 erw [q]
 unfold sai0_t
 exact n_ne (fun c=>absurd rfl c) fun _=>⟨slotsS_len _ _,sai_loop l hl l.length 0 (by omega)⟩
theorem s_saB(l:List Bk)(hl:l.length≤4611686018427387904):SCall Tryz.prog 69 [LB l,LB l] (.bool true):=by
 refine scallR_loops rfl rfl (by kernel_rfl) (runsR_seg k000 (n:=1000) (hint:=.unit) (keep:=keepS 26 [0,1,5]) (p:=sab0_p) (boxes:=[]) rfl ?_)
 have q:=sab0 l
 unfold startS codeS at q
 erw [q]
 unfold sab0_t
 exact n_ne (fun c=>absurd rfl c) fun _=>⟨slotsS_len _ _,sab_loop l hl l.length 0 (by omega)⟩
def fewP(f:Fl):Bool:=decide (f.pages.length≤1000)
def pagesB(l:List (List UInt8)):Bool:=l.all fun p=>decide (p.length=64)
def flB(f:Fl):Bool:=pagesB f.pages&& (decide (2≤f.pages.length)&&decide (f.pages.length≤256)&&inR f.fuse 0 1048576&&inR f.keep 0 64)
def flRest(f:Fl):Bool:=decide (2≤f.pages.length)&&decide (f.pages.length≤256)&&inR f.fuse 0 1048576&&inR f.keep 0 64
theorem flB_iff{f:Fl}:flB f=true↔(∀p∈f.pages,p.length=64)∧2≤f.pages.length∧f.pages.length≤256∧(0≤f.fuse∧f.fuse≤1048576)∧0≤f.keep∧f.keep≤64:=by
 simp[flB,pagesB,inR_iff,and_assoc]
theorem drop_getD{α:Type}{l:List α}{d:α}{i:Nat}(h:i<l.length):l.drop i=l.getD i d::l.drop (i+1):=by
 rw[List.drop_eq_getElem_cons h,List.getD_eq_getElem?_getD,List.getElem?_eq_getElem h];rfl
theorem vap_loop(f:Fl)(hl:f.pages.length≤1000):∀ (k i:Nat) (v:Bool),i+k=f.pages.length→v=((f.pages.drop i).all (fun p=>decide (p.length=64))&&flRest f)→
  RunsR Tryz.prog (fnOf Tryz.prog 102) (.bool v) (loopOf Tryz.prog 102 0) (slotsS 46 [(1,.ptr 0 0),(6,.list .str f.pages),(7,I64 f.pages.length),(8,I64 i)]) [some (.cells f.cells)]
 |k,i,v,hi,hv=>by
  refine runsR_seg k000 (n:=1000) (hint:=.unit) (keep:=keepS 46 [1,6,7,8]) (p:=vap1_p) rfl ?_
  erw [vap1 f i]
  unfold vap1_t
  have t0:(i:Int).toNat=i:=by omega
  have w1:i64.wrap ((i:Int)+1)=((i+1:Nat):Int):=by rw[w64 (by omega) (by omega)];omega
  rw[t0,w1]
  refine n_dec (fun a=>?_) fun a=>?_
  ·match k,hi with
   |0,hi=>omega
   |k+1,hi=>
    rw[drop_getD (d:=([] :List UInt8)) (by omega:i<f.pages.length),List.all_cons]at hv
    refine n_req (by simp;omega) (n_ne (fun c=>?_) fun c=>?_)
    ·have:¬(f.pages.getD i []).length=64:=fun k=>c (by rw[k];rfl)
     rw[decide_eq_false this]at hv
     subst hv;rfl
    ·have:(f.pages.getD i []).length=64:=by have:=c;omega
     rw[decide_eq_true this,Bool.true_and]at hv
     exact⟨slotsS_len _ _,vap_loop f hl k (i+1) v (by omega) hv⟩
  ·have z:f.pages.drop i=[] :=List.drop_eq_nil_of_le (by omega)
   rw[z]at hv
   have hv:v=flRest f:=hv
   have q:∀b:Bool,b=flRest f→SV.bool b=SV.bool v:=fun b e=>by rw[hv,e]
   refine n_dec (fun b1=>n_dec (fun b2=>n_dec (fun b3=>n_dec (fun b4=>n_dec (fun b5=>q _ ?_) fun b5=>q _ ?_) fun b4=>q _ ?_) fun b3=>q _ ?_) fun b2=>q _ ?_) fun b1=>q _ ?_
   all_goals
    rw[Bool.eq_iff_iff]
    simp only[flRest,Bool.and_eq_true,inR_iff,decide_eq_true_eq,Bool.false_eq_true,false_iff]
    omega
theorem var_loop(f:Fl)(hl:f.pages.length≤1000):∀ (k i:Nat) (v:Bool),i+k=f.pages.length→v=((f.pages.drop i).all (fun p=>decide (p.length=64))&&flRest f)→
  RunsR Tryz.prog (fnOf Tryz.prog 109) (.bool v) (loopOf Tryz.prog 109 0) (slotsS 46 [(1,.ptr 0 0),(6,.list .str f.pages),(7,I64 f.pages.length),(8,I64 i)]) [some (.cells f.cells)]
 |k,i,v,hi,hv=>by
  refine runsR_seg k000 (n:=1000) (hint:=.unit) (keep:=keepS 46 [1,6,7,8]) (p:=var1_p) rfl ?_
  erw [var1 f i]
  unfold var1_t
  have t0:(i:Int).toNat=i:=by omega
  have w1:i64.wrap ((i:Int)+1)=((i+1:Nat):Int):=by rw[w64 (by omega) (by omega)];omega
  rw[t0,w1]
  refine n_dec (fun a=>?_) fun a=>?_
  ·match k,hi with
   |0,hi=>omega
   |k+1,hi=>
    rw[drop_getD (d:=([] :List UInt8)) (by omega:i<f.pages.length),List.all_cons]at hv
    refine n_req (by simp;omega) (n_ne (fun c=>?_) fun c=>?_)
    ·have:¬(f.pages.getD i []).length=64:=fun k=>c (by rw[k];rfl)
     rw[decide_eq_false this]at hv
     subst hv;rfl
    ·have:(f.pages.getD i []).length=64:=by have:=c;omega
     rw[decide_eq_true this,Bool.true_and]at hv
     exact⟨slotsS_len _ _,var_loop f hl k (i+1) v (by omega) hv⟩
  ·have z:f.pages.drop i=[] :=List.drop_eq_nil_of_le (by omega)
   rw[z]at hv
   have hv:v=flRest f:=hv
   have q:∀b:Bool,b=flRest f→SV.bool b=SV.bool v:=fun b e=>by rw[hv,e]
   refine n_dec (fun b1=>n_dec (fun b2=>n_dec (fun b3=>n_dec (fun b4=>n_dec (fun b5=>q _ ?_) fun b5=>q _ ?_) fun b4=>q _ ?_) fun b3=>q _ ?_) fun b2=>q _ ?_) fun b1=>q _ ?_
   all_goals
    rw[Bool.eq_iff_iff]
    simp only[flRest,Bool.and_eq_true,inR_iff,decide_eq_true_eq,Bool.false_eq_true,false_iff]
    omega
theorem s_flB(f:Fl)(h:fewP f=true):SCall Tryz.prog 102 [f.sv] (.bool (flB f)):=by
 have hl:f.pages.length≤1000:=of_decide_eq_true h
 refine scallR_loops rfl rfl (by kernel_rfl) (runsR_seg k000 (n:=1000) (hint:=.unit) (keep:=keepS 46 [1,6,7,8]) (p:=vap0_p) (boxes:=[]) rfl ?_)
 have q:=vap0 f
 unfold startS codeS at q
 erw [q]
 unfold vap0_t
 exact⟨slotsS_len _ _,vap_loop f hl f.pages.length 0 _ (by omega) (by rw[List.drop_zero];simp only[flB,pagesB,flRest])⟩
theorem s_flBR(f:Fl)(h:fewP f=true):SCall Tryz.prog 109 [f.sv] (.bool (flB f)):=by
 have hl:f.pages.length≤1000:=of_decide_eq_true h
 refine scallR_loops rfl rfl (by kernel_rfl) (runsR_seg k000 (n:=1000) (hint:=.unit) (keep:=keepS 46 [1,6,7,8]) (p:=var0_p) (boxes:=[]) rfl ?_)
 have q:=var0 f
 unfold startS codeS at q
 erw [q]
 unfold var0_t
 exact⟨slotsS_len _ _,var_loop f hl f.pages.length 0 _ (by omega) (by rw[List.drop_zero];simp only[flB,pagesB,flRest])⟩
theorem s_flCopy(f:Fl)(h:fewP f=true):SCall Tryz.prog 130 [f.sv] f.sv:=by
 have hl:f.pages.length≤1000:=of_decide_eq_true h
 refine scallR_loops rfl rfl (by kernel_rfl) (runsR_seg k000 (n:=1000) (hint:=.str) (keep:=keepS 9 []) (p:=fcp_p) (boxes:=[]) rfl ?_)
 have q:=fcp f
 unfold startS codeS at q
 erw [q]
 unfold fcp_t
 refine⟨fun e=>?_,fun e=>n_req (decide_eq_true (by omega)) rfl⟩
 have e:f.pages=[] :=List.isEmpty_iff.1 e
 show SV.agg _=SV.agg f.cells
 unfold Fl.cells;rw[e];rfl
theorem s_flCopyP(f:Fl)(h:fewP f=true):SCall Tryz.prog 116 [f.sv] f.sv:=by
 have hl:f.pages.length≤1000:=of_decide_eq_true h
 refine scallR_loops rfl rfl (by kernel_rfl) (runsR_seg k000 (n:=1000) (hint:=.str) (keep:=keepS 9 []) (p:=fcpP_p) (boxes:=[]) rfl ?_)
 have q:=fcpP f
 unfold startS codeS at q
 erw [q]
 unfold fcpP_t
 refine⟨fun e=>?_,fun e=>n_req (decide_eq_true (by omega)) rfl⟩
 have e:f.pages=[] :=List.isEmpty_iff.1 e
 show SV.agg _=SV.agg f.cells
 unfold Fl.cells;rw[e];rfl
def fFlB:Fact:=factFl 102 fun f=>.req (fewP f) (.leaf (.bool (flB f)))
theorem o_flB:fFlB.ok Tryz.prog:=factFl_ok fun f h=>s_flB f h
def fFlBR:Fact:=factFl 109 fun f=>.req (fewP f) (.leaf (.bool (flB f)))
theorem o_flBR:fFlBR.ok Tryz.prog:=factFl_ok fun f h=>s_flBR f h
def fFlC:Fact:=factFl 130 fun f=>.req (fewP f) (.leaf f.sv)
theorem o_flC:fFlC.ok Tryz.prog:=factFl_ok fun f h=>s_flCopy f h
def fFlCP:Fact:=factFl 116 fun f=>.req (fewP f) (.leaf f.sv)
theorem o_flCP:fFlCP.ok Tryz.prog:=factFl_ok fun f h=>s_flCopyP f h
def hasB(f:Fl)(i:Int):Bool:=flB f&&inR i 0 (f.pages.length-1)
def factFlI(f:FuncId)(h:Fl→Int→Tree SV):Fact:=⟨f,fun args=>match args with
 |[.agg [.list .str p,.int .i64 a,.bool d,.int .i64 k],.int .i64 i] =>some (h ⟨p,a,d,k⟩ i)
 |_=>none⟩
theorem factFlI_ok{P:Program}{f:FuncId}{h:Fl→Int→Tree SV}(k:∀c i,(h c i).says (SCall P f [c.sv,I64 i])):(factFlI f h).ok P:=fun args t ht=>by
 simp only[factFlI]at ht
 split at ht
 ·injection ht with ht;subst ht;exact k ⟨_,_,_,_⟩ _
 ·cases ht
theorem s_has(f:Fl)(i:Int)(h:fewP f=true):SCall Tryz.prog 302 [f.sv,I64 i] (.bool (hasB f i)):=
 scall_v mix [fFlB,fFlC] ⟨o_flB,o_flC,trivial⟩ 1000 (.fork (.lit (.lit (.fork (.ln 4 (.lit .all)) (.ln 4 (.lit .all))))) (.ln 7 (.lit .all)))
  (t:=.req (fewP f) (.node (flB f)
 (.node (decide (i≥0))
  (.leaf (SV.bool (decide (i< (↑f.pages.length:Int)))))
  (.leaf (SV.bool false)))
 (.leaf (SV.bool false))))
  (by kernel_rfl) (by
   refine n_req h ?_
   unfold hasB
   refine n_bool (fun v=>?_) (fun v=>?_)<;>rw[v]
   ·refine n_dec (fun a=>?_) fun a=>?_
    ·show SV.bool _=SV.bool _
     congr 1
     rw[Bool.eq_iff_iff]
     simp only[Bool.true_and,inR_iff,decide_eq_true_eq];omega
    ·show SV.bool _=SV.bool _
     congr 1
     symm
     rw[Bool.true_and,Bool.eq_false_iff]
     intro k
     rw[inR_iff]at k;omega
   ·rfl) (by kernel_rfl) (by kernel_rfl)
def fHas:Fact:=factFlI 302 fun f i=>.req (fewP f) (.leaf (.bool (hasB f i)))
theorem o_has:fHas.ok Tryz.prog:=factFlI_ok fun f i h=>s_has f i h
def U16(n:Int):SV:=.int .u16 n
def ca0_p:Plan:=.all
noncomputable def ca0_t(s:List UInt8):Tree Stop:= .leaf (.at (loopOf Tryz.prog 300 0) 32 (slotsS 32 [(0,SV.str s),(3,SV.int IntKind.u16 65535),(7,.int .i64 (↑s.length:Int)),(8,.int .i64 0)]) [])
theorem ca0(s:List UInt8):segR (Env.of Tryz.prog (sumOf [])) 1000 (fnOf Tryz.prog 300) .unit (keepS 32 [0,3,7,8]) (codeS Tryz.prog 300) ca0_p (startS Tryz.prog 300 [.str s]) [] =ca0_t s:=by kernel_rfl
def ca1_p:Plan:=.fork (.all) (.all)
noncomputable def ca1_t(s:List UInt8)(r i:Int):Tree Stop:= .node (decide (i< (↑s.length:Int))) (.req (decide (0≤i)&&decide (i< (↑s.length:Int))) (.req true (.leaf (.at (loopOf Tryz.prog 300 1) 32 (slotsS 32 [(0,SV.str s),(3,SV.int IntKind.u16 (IntKind.u16.wrap (↑(BitVec.ofInt 16 r ^^^ BitVec.ofInt 16 (IntKind.u16.wrap (IntKind.u16.wrap (↑(s.getD i.toNat 0).toNat:Int)*256))).toNat:Int))),(7,.int .i64 (↑s.length:Int)),(8,.int .i64 i),(18,.int .i64 0)]) [])))) (.leaf (.done (.int .i64 (i64.wrap r))))
theorem ca1(s:List UInt8)(r i:Int):segR (Env.of Tryz.prog (sumOf [])) 1000 (fnOf Tryz.prog 300) .unit (keepS 32 [0,3,7,8,18]) (loopOf Tryz.prog 300 0) ca1_p (slotsS 32 [(0,.str s),(3,U16 r),(7,I64 s.length),(8,I64 i)]) [] =ca1_t s r i:=by kernel_rfl
def ca2_p:Plan:=.fork (.fork (.all) (.all)) (.all)
noncomputable def ca2_t(s:List UInt8)(r i k:Int):Tree Stop:= .node (decide (k<8)) (.req true (.node (IntKind.u16.wrap (↑(BitVec.ofInt 16 r &&&BitVec.ofInt 16 32768).toNat:Int) != 0) (.leaf (.at (loopOf Tryz.prog 300 1) 32 (slotsS 32 [(0,SV.str s),(3,SV.int IntKind.u16 (IntKind.u16.wrap (↑(BitVec.ofInt 16 (IntKind.u16.wrap (r*2)) ^^^ BitVec.ofInt 16 4129).toNat:Int))),(7,.int .i64 (↑s.length:Int)),(8,.int .i64 i),(18,.int .i64 (i64.wrap (k+1)))]) [])) (.leaf (.at (loopOf Tryz.prog 300 1) 32 (slotsS 32 [(0,SV.str s),(3,SV.int IntKind.u16 (IntKind.u16.wrap (r*2))),(7,.int .i64 (↑s.length:Int)),(8,.int .i64 i),(18,.int .i64 (i64.wrap (k+1)))]) [])))) (.leaf (.at (loopOf Tryz.prog 300 0) 32 (slotsS 32 [(0,SV.str s),(3,SV.int IntKind.u16 r),(7,.int .i64 (↑s.length:Int)),(8,.int .i64 (i64.wrap (i+1))),(18,.int .i64 k)]) []))
theorem ca2(s:List UInt8)(r i k:Int):segR (Env.of Tryz.prog (sumOf [])) 1000 (fnOf Tryz.prog 300) .unit (keepS 32 [0,3,7,8,18]) (loopOf Tryz.prog 300 1) ca2_p (slotsS 32 [(0,.str s),(3,U16 r),(7,I64 s.length),(8,I64 i),(18,I64 k)]) [] =ca2_t s r i k:=by kernel_rfl
def cb0_p:Plan:=.all
noncomputable def cb0_t(s:List UInt8):Tree Stop:= .leaf (.at (loopOf Tryz.prog 254 0) 26 (slotsS 26 [(0,SV.str s),(3,.int .i64 65535),(4,.int .i64 0)]) [])
theorem cb0(s:List UInt8):segR (Env.of Tryz.prog (sumOf [])) 1000 (fnOf Tryz.prog 254) .unit (keepS 26 [0,3,4]) (codeS Tryz.prog 254) cb0_p (startS Tryz.prog 254 [.str s]) [] =cb0_t s:=by kernel_rfl
def cb1_p:Plan:=.fork (.all) (.all)
noncomputable def cb1_t(s:List UInt8)(r i:Int):Tree Stop:= .node (decide (i< (↑s.length:Int))) (.req (decide (0≤i)&&decide (i< (↑s.length:Int))) (.leaf (.at (loopOf Tryz.prog 254 1) 26 (slotsS 26 [(0,SV.str s),(3,.int .i64 (i64.wrap (↑(BitVec.ofInt 64 r ^^^ BitVec.ofInt 64 (i64.wrap (i64.wrap (↑(s.getD i.toNat 0).toNat:Int)*256))).toNat:Int))),(4,.int .i64 i),(5,.int .i64 0)]) []))) (.leaf (.done (.int .i64 r)))
theorem cb1(s:List UInt8)(r i:Int):segR (Env.of Tryz.prog (sumOf [])) 1000 (fnOf Tryz.prog 254) .unit (keepS 26 [0,3,4,5]) (loopOf Tryz.prog 254 0) cb1_p (slotsS 26 [(0,.str s),(3,I64 r),(4,I64 i)]) [] =cb1_t s r i:=by kernel_rfl
def cb2_p:Plan:=.fork (.fork (.all) (.all)) (.all)
noncomputable def cb2_t(s:List UInt8)(r i k:Int):Tree Stop:= .node (decide (k<8)) (.node (decide (r≥32768)) (.leaf (.at (loopOf Tryz.prog 254 1) 26 (slotsS 26 [(0,SV.str s),(3,.int .i64 (i64.wrap (↑(BitVec.ofInt 64 (i64.wrap (i64.wrap (r-32768)*2)) ^^^ BitVec.ofInt 64 4129).toNat:Int))),(4,.int .i64 i),(5,.int .i64 (i64.wrap (k+1)))]) [])) (.leaf (.at (loopOf Tryz.prog 254 1) 26 (slotsS 26 [(0,SV.str s),(3,.int .i64 (i64.wrap (r*2))),(4,.int .i64 i),(5,.int .i64 (i64.wrap (k+1)))]) []))) (.leaf (.at (loopOf Tryz.prog 254 0) 26 (slotsS 26 [(0,SV.str s),(3,.int .i64 r),(4,.int .i64 (i64.wrap (i+1))),(5,.int .i64 k)]) []))
theorem cb2(s:List UInt8)(r i k:Int):segR (Env.of Tryz.prog (sumOf [])) 1000 (fnOf Tryz.prog 254) .unit (keepS 26 [0,3,4,5]) (loopOf Tryz.prog 254 1) cb2_p (slotsS 26 [(0,.str s),(3,I64 r),(4,I64 i),(5,I64 k)]) [] =cb2_t s r i k:=by kernel_rfl
def ca3_p:Plan:=.fork (.all) (.all)
noncomputable def ca3_t(s:List UInt8)(r i k:Int):Tree Stop:= .node (decide (i< (↑s.length:Int))) (.req (decide (0≤i)&&decide (i< (↑s.length:Int))) (.req true (.leaf (.at (loopOf Tryz.prog 300 1) 32 (slotsS 32 [(0,SV.str s),(3,SV.int IntKind.u16 (IntKind.u16.wrap (↑(BitVec.ofInt 16 r ^^^ BitVec.ofInt 16 (IntKind.u16.wrap (IntKind.u16.wrap (↑(s.getD i.toNat 0).toNat:Int)*256))).toNat:Int))),(7,.int .i64 (↑s.length:Int)),(8,.int .i64 i),(18,.int .i64 0)]) [])))) (.leaf (.done (.int .i64 (i64.wrap r))))
theorem ca3(s:List UInt8)(r i k:Int):segR (Env.of Tryz.prog (sumOf [])) 1000 (fnOf Tryz.prog 300) .unit (keepS 32 [0,3,7,8,18]) (loopOf Tryz.prog 300 0) ca3_p (slotsS 32 [(0,.str s),(3,U16 r),(7,I64 s.length),(8,I64 i),(18,I64 k)]) [] =ca3_t s r i k:=by kernel_rfl
def cb3_p:Plan:=.fork (.all) (.all)
noncomputable def cb3_t(s:List UInt8)(r i k:Int):Tree Stop:= .node (decide (i< (↑s.length:Int))) (.req (decide (0≤i)&&decide (i< (↑s.length:Int))) (.leaf (.at (loopOf Tryz.prog 254 1) 26 (slotsS 26 [(0,SV.str s),(3,.int .i64 (i64.wrap (↑(BitVec.ofInt 64 r ^^^ BitVec.ofInt 64 (i64.wrap (i64.wrap (↑(s.getD i.toNat 0).toNat:Int)*256))).toNat:Int))),(4,.int .i64 i),(5,.int .i64 0)]) []))) (.leaf (.done (.int .i64 r)))
theorem cb3(s:List UInt8)(r i k:Int):segR (Env.of Tryz.prog (sumOf [])) 1000 (fnOf Tryz.prog 254) .unit (keepS 26 [0,3,4,5]) (loopOf Tryz.prog 254 0) cb3_p (slotsS 26 [(0,.str s),(3,I64 r),(4,I64 i),(5,I64 k)]) [] =cb3_t s r i k:=by kernel_rfl
def crcBit(r:Nat):Nat:=if 32768≤r then((r-32768)*2) ^^^ 4129 else r*2
def crcBits:Nat→Nat→Nat
 |0,r=>r
 |k+1,r=>crcBits k (crcBit r)
def crcFrom:List UInt8→Nat→Nat
 |[],r=>r
 |b::l,r=>crcFrom l (crcBits 8 (r ^^^ b.toNat*256))
def crc(s:List UInt8):Nat:=crcFrom s 65535
theorem crcBit_lt{r:Nat}(h:r<65536):crcBit r<65536:=by
 unfold crcBit
 split
 ·exact Nat.xor_lt_two_pow (n:=16) (by omega) (by decide)
 ·omega
theorem crcBits_lt:∀ (k:Nat) {r:Nat},r<65536→crcBits k r<65536
 |0,_,h=>h
 |k+1,_,h=>crcBits_lt k (crcBit_lt h)
theorem crcIn_lt{r:Nat}(b:UInt8)(h:r<65536):r ^^^ b.toNat*256<65536:=
 Nat.xor_lt_two_pow (n:=16) h (by have:=b.toNat_lt;omega)
theorem crcFrom_lt:∀ (s:List UInt8) {r:Nat},r<65536→crcFrom s r<65536
 |[],_,h=>h
 |b::s,_,h=>crcFrom_lt s (crcBits_lt 8 (crcIn_lt b h))
theorem crc_lt(s:List UInt8):crc s<65536:=crcFrom_lt s (by decide)
theorem wu16{n:Int}(h:0≤n)(h':n<65536):IntKind.u16.wrap n=n:=by
 unfold IntKind.wrap
 have e:n % (2 ^ IntKind.u16.bits:Int)=n:=Int.emod_eq_of_lt h h'
 simp only[e]
 rw[if_neg (by simp[IntKind.signed])]
theorem xor16{a b:Nat}(ha:a<65536)(hb:b<65536):IntKind.u16.wrap (((BitVec.ofInt 16 (a:Int) ^^^ BitVec.ofInt 16 (b:Int)).toNat:Nat):Int)=((a ^^^ b:Nat):Int):=by
 have e:(BitVec.ofInt 16 (a:Int) ^^^ BitVec.ofInt 16 (b:Int)).toNat=a ^^^ b:=by
  rw[BitVec.ofInt_natCast,BitVec.ofInt_natCast,BitVec.toNat_xor,BitVec.toNat_ofNat,BitVec.toNat_ofNat,Nat.mod_eq_of_lt (by omega),Nat.mod_eq_of_lt (by omega)]
 rw[e]
 have:=Nat.xor_lt_two_pow (n:=16) ha hb
 exact wu16 (by omega) (by omega)
theorem xor64{a b:Nat}(ha:a<65536)(hb:b<65536):i64.wrap (((BitVec.ofInt 64 (a:Int) ^^^ BitVec.ofInt 64 (b:Int)).toNat:Nat):Int)=((a ^^^ b:Nat):Int):=by
 have e:(BitVec.ofInt 64 (a:Int) ^^^ BitVec.ofInt 64 (b:Int)).toNat=a ^^^ b:=by
  rw[BitVec.ofInt_natCast,BitVec.ofInt_natCast,BitVec.toNat_xor,BitVec.toNat_ofNat,BitVec.toNat_ofNat,Nat.mod_eq_of_lt (by omega),Nat.mod_eq_of_lt (by omega)]
 rw[e]
 have:=Nat.xor_lt_two_pow (n:=16) ha hb
 exact w64 (by omega) (by omega)
theorem high16:∀{a:Nat},a<65536→((IntKind.u16.wrap (((BitVec.ofInt 16 (a:Int) &&&BitVec.ofInt 16 32768).toNat:Nat):Int) != 0)=decide (32768≤a)):=by
 intro a ha
 have e:(BitVec.ofInt 16 (a:Int) &&&BitVec.ofInt 16 32768).toNat=a &&&32768:=by
  rw[BitVec.ofInt_natCast,show BitVec.ofInt 16 32768=BitVec.ofNat 16 32768 from rfl,BitVec.toNat_and,BitVec.toNat_ofNat,BitVec.toNat_ofNat,Nat.mod_eq_of_lt (by omega),Nat.mod_eq_of_lt (by omega)]
 rw[e]
 have e2:a &&&32768=if 32768≤a then 32768 else 0:=by
  apply Nat.eq_of_testBit_eq
  intro j
  rw[Nat.testBit_and,show(32768:Nat)=2 ^ 15 from rfl,Nat.testBit_two_pow]
  by_cases hj:15=j
  ·subst hj
   rw[Nat.testBit_eq_decide_div_mod_eq]
   split
   ·rename_i h
    rw[Nat.testBit_two_pow,decide_eq_true (show a / 2 ^ 15 % 2=1 by omega)];rfl
   ·rename_i h
    rw[decide_eq_false (show ¬a / 2 ^ 15 % 2=1 by omega),Nat.zero_testBit];rfl
  ·rw[decide_eq_false hj,Bool.and_false]
   split
   ·rw[Nat.testBit_two_pow,decide_eq_false hj]
   ·rw[Nat.zero_testBit]
 rw[e2]
 by_cases h:32768≤a
 ·rw[if_pos h,decide_eq_true h];decide
 ·rw[if_neg h,decide_eq_false h];decide
theorem ca_inner(s:List UInt8)(i:Nat)(hi:i<s.length)(hl:s.length≤1099511627776)(v:Int):∀ (j k r:Nat),k+j=8→r<65536→
  RunsR Tryz.prog (fnOf Tryz.prog 300) (I64 v) (loopOf Tryz.prog 300 0) (slotsS 32 [(0,.str s),(3,U16 (crcBits j r:Nat)),(7,I64 s.length),(8,I64 (i+1:Nat)),(18,I64 8)]) [] →
  RunsR Tryz.prog (fnOf Tryz.prog 300) (I64 v) (loopOf Tryz.prog 300 1) (slotsS 32 [(0,.str s),(3,U16 r),(7,I64 s.length),(8,I64 i),(18,I64 k)]) []
 |j,k,r,hk,hr,H=>by
  refine runsR_seg k000 (n:=1000) (hint:=.unit) (keep:=keepS 32 [0,3,7,8,18]) (p:=ca2_p) rfl ?_
  erw [ca2 s r i k]
  unfold ca2_t
  have wi:i64.wrap ((i:Int)+1)=((i+1:Nat):Int):=by rw[w64 (by omega) (by omega)];omega
  have wk:i64.wrap ((k:Int)+1)=((k+1:Nat):Int):=by rw[w64 (by omega) (by omega)];omega
  rw[wi,wk]
  match j,hk,H with
  |0,hk,H=>
   have e8:k=8:=by omega
   subst e8
   exact⟨fun a=>absurd (of_decide_eq_true a) (by decide),fun _=>⟨slotsS_len _ _,H⟩⟩
  |j+1,hk,H=>
   refine n_dec (fun a=>?_) fun a=>absurd (show((k:Nat):Int)<8 by omega) a
   have H':RunsR Tryz.prog (fnOf Tryz.prog 300) (I64 v) (loopOf Tryz.prog 300 0) (slotsS 32 [(0,.str s),(3,U16 (crcBits j (crcBit r):Nat)),(7,I64 s.length),(8,I64 (i+1:Nat)),(18,I64 8)]) [] :=H
   refine n_req rfl ?_
   rw[high16 hr]
   refine n_dec (fun b=>?_) fun b=>?_
   ·have e:crcBit r=((r-32768)*2) ^^^ 4129:=if_pos b
    have w:IntKind.u16.wrap ((r:Int)*2)=(((r-32768)*2:Nat):Int):=by
     unfold IntKind.wrap
     have e:((r:Int)*2) % (2 ^ IntKind.u16.bits:Int)=(((r-32768)*2:Nat):Int):=by
      show((r:Int)*2) % 65536=_
      omega
     simp only[e]
     rw[if_neg (by simp[IntKind.signed])]
    rw[w]
    refine⟨slotsS_len _ _,?_⟩
    have x:=xor16 (a:=(r-32768)*2) (b:=4129) (by omega) (by decide)
    have x:IntKind.u16.wrap (((BitVec.ofInt 16 (((r-32768)*2:Nat):Int) ^^^ BitVec.ofInt 16 4129).toNat:Nat):Int)=_:=x
    rw[x,←e]
    exact ca_inner s i hi hl v j (k+1) (crcBit r) (by omega) (crcBit_lt hr) H'
   ·have e:crcBit r=r*2:=if_neg b
    rw[wu16 (by omega) (by omega),show(r:Int)*2=((crcBit r:Nat):Int) by rw[e];omega]
    exact⟨slotsS_len _ _,ca_inner s i hi hl v j (k+1) (crcBit r) (by omega) (crcBit_lt hr) H'⟩
theorem ca_outer(s:List UInt8)(hl:s.length≤1099511627776):∀ (m i r:Nat) (v:Nat),i+m=s.length→r<65536→v=crcFrom (s.drop i) r→
  RunsR Tryz.prog (fnOf Tryz.prog 300) (I64 v) (loopOf Tryz.prog 300 0) (slotsS 32 [(0,.str s),(3,U16 r),(7,I64 s.length),(8,I64 i),(18,I64 8)]) []
 |m,i,r,v,hi,hr,hv=>by
  refine runsR_seg k000 (n:=1000) (hint:=.unit) (keep:=keepS 32 [0,3,7,8,18]) (p:=ca3_p) rfl ?_
  erw [ca3 s r i 8]
  unfold ca3_t
  have t0:(i:Int).toNat=i:=by omega
  rw[t0]
  refine n_dec (fun a=>?_) fun a=>?_
  ·match m,hi with
   |0,hi=>omega
   |m+1,hi=>
    have hb:=(s.getD i 0).toNat_lt
    rw[drop_getD (d:=(0:UInt8)) (by omega:i<s.length)]at hv
    have hv:v=crcFrom (s.drop (i+1)) (crcBits 8 (r ^^^ (s.getD i 0).toNat*256)):=hv
    have hx:=crcIn_lt (s.getD i 0) hr
    refine n_req (by simp;omega) (n_req rfl ?_)
    rw[wu16 (n:=((s.getD i 0).toNat:Int)) (by omega) (by omega),wu16 (n:=((s.getD i 0).toNat:Int)*256) (by omega) (by omega),show(((s.getD i 0).toNat:Nat):Int)*256=(((s.getD i 0).toNat*256:Nat):Int) by omega,xor16 hr (by omega)]
    exact⟨slotsS_len _ _,ca_inner s i (by omega) hl _ 8 0 _ rfl hx (ca_outer s hl m (i+1) _ v (by omega) (crcBits_lt 8 hx) hv)⟩
  ·have z:s.drop i=[] :=List.drop_eq_nil_of_le (by omega)
   rw[z]at hv
   have hv:v=r:=hv
   subst hv
   rw[w64 (by omega) (by omega)]
   exact rfl
theorem s_crc(s:List UInt8)(hl:s.length≤1099511627776):SCall Tryz.prog 300 [.str s] (I64 (crc s)):=by
 refine scallR_loops rfl rfl (by kernel_rfl) (runsR_seg k000 (n:=1000) (hint:=.unit) (keep:=keepS 32 [0,3,7,8]) (p:=ca0_p) (boxes:=[]) rfl ?_)
 have q:=ca0 s
 unfold startS codeS at q
 erw [q]
 unfold ca0_t
 refine⟨slotsS_len _ _,?_⟩
 refine runsR_seg k000 (n:=1000) (hint:=.unit) (keep:=keepS 32 [0,3,7,8,18]) (p:=ca1_p) rfl ?_
 erw [ca1 s 65535 0]
 unfold ca1_t
 refine n_dec (fun a=>?_) fun a=>?_
 ·have hb:=(s.getD 0 0).toNat_lt
  have hx:=crcIn_lt (s.getD 0 0) (show 65535<65536 by decide)
  refine n_req (by simp;omega) (n_req rfl ?_)
  rw[show(0:Int).toNat=0 from rfl,wu16 (n:=((s.getD 0 0).toNat:Int)) (by omega) (by omega),wu16 (n:=((s.getD 0 0).toNat:Int)*256) (by omega) (by omega),show(((s.getD 0 0).toNat:Nat):Int)*256=(((s.getD 0 0).toNat*256:Nat):Int) by omega]
  have x:=xor16 (a:=65535) (b:=(s.getD 0 0).toNat*256) (by decide) (by omega)
  have x:IntKind.u16.wrap (((BitVec.ofInt 16 65535 ^^^ BitVec.ofInt 16 (((s.getD 0 0).toNat*256:Nat):Int)).toNat:Nat):Int)=_:=x
  rw[x]
  refine⟨slotsS_len _ _,ca_inner s 0 (by omega) hl _ 8 0 _ rfl hx (ca_outer s hl (s.length-1) 1 _ _ (by omega) (crcBits_lt 8 hx) ?_)⟩
  have e:=drop_getD (d:=(0:UInt8)) (show 0<s.length by omega)
  rw[List.drop_zero]at e
  unfold crc
  conv=>lhs;rw[e]
  rfl
 ·have z:s=[] :=List.length_eq_zero_iff.1 (by omega)
  subst z;rfl
theorem cb_inner(s:List UInt8)(i:Nat)(hi:i<s.length)(hl:s.length≤1099511627776)(v:Int):∀ (j k r:Nat),k+j=8→r<65536→
  RunsR Tryz.prog (fnOf Tryz.prog 254) (I64 v) (loopOf Tryz.prog 254 0) (slotsS 26 [(0,.str s),(3,I64 (crcBits j r:Nat)),(4,I64 (i+1:Nat)),(5,I64 8)]) [] →
  RunsR Tryz.prog (fnOf Tryz.prog 254) (I64 v) (loopOf Tryz.prog 254 1) (slotsS 26 [(0,.str s),(3,I64 r),(4,I64 i),(5,I64 k)]) []
 |j,k,r,hk,hr,H=>by
  refine runsR_seg k000 (n:=1000) (hint:=.unit) (keep:=keepS 26 [0,3,4,5]) (p:=cb2_p) rfl ?_
  erw [cb2 s r i k]
  unfold cb2_t
  have wi:i64.wrap ((i:Int)+1)=((i+1:Nat):Int):=by rw[w64 (by omega) (by omega)];omega
  have wk:i64.wrap ((k:Int)+1)=((k+1:Nat):Int):=by rw[w64 (by omega) (by omega)];omega
  rw[wi,wk]
  match j,hk,H with
  |0,hk,H=>
   have e8:k=8:=by omega
   subst e8
   exact⟨fun a=>absurd (of_decide_eq_true a) (by decide),fun _=>⟨slotsS_len _ _,H⟩⟩
  |j+1,hk,H=>
   refine n_dec (fun a=>?_) fun a=>absurd (show((k:Nat):Int)<8 by omega) a
   have H':RunsR Tryz.prog (fnOf Tryz.prog 254) (I64 v) (loopOf Tryz.prog 254 0) (slotsS 26 [(0,.str s),(3,I64 (crcBits j (crcBit r):Nat)),(4,I64 (i+1:Nat)),(5,I64 8)]) [] :=H
   refine n_dec (fun b=>?_) fun b=>?_
   ·have e:crcBit r=((r-32768)*2) ^^^ 4129:=if_pos (by omega)
    rw[w64 (x:=(r:Int)-32768) (by omega) (by omega),w64 (x:=((r:Int)-32768)*2) (by omega) (by omega),show((r:Int)-32768)*2=(((r-32768)*2:Nat):Int) by omega]
    refine⟨slotsS_len _ _,?_⟩
    have x:=xor64 (a:=(r-32768)*2) (b:=4129) (by omega) (by decide)
    have x:i64.wrap (((BitVec.ofInt 64 (((r-32768)*2:Nat):Int) ^^^ BitVec.ofInt 64 4129).toNat:Nat):Int)=_:=x
    rw[x,←e]
    exact cb_inner s i hi hl v j (k+1) (crcBit r) (by omega) (crcBit_lt hr) H'
   ·have e:crcBit r=r*2:=if_neg (by omega)
    rw[w64 (by omega) (by omega),show(r:Int)*2=((crcBit r:Nat):Int) by rw[e];omega]
    exact⟨slotsS_len _ _,cb_inner s i hi hl v j (k+1) (crcBit r) (by omega) (crcBit_lt hr) H'⟩
theorem cb_outer(s:List UInt8)(hl:s.length≤1099511627776):∀ (m i r:Nat) (v:Nat),i+m=s.length→r<65536→v=crcFrom (s.drop i) r→
  RunsR Tryz.prog (fnOf Tryz.prog 254) (I64 v) (loopOf Tryz.prog 254 0) (slotsS 26 [(0,.str s),(3,I64 r),(4,I64 i),(5,I64 8)]) []
 |m,i,r,v,hi,hr,hv=>by
  refine runsR_seg k000 (n:=1000) (hint:=.unit) (keep:=keepS 26 [0,3,4,5]) (p:=cb3_p) rfl ?_
  erw [cb3 s r i 8]
  unfold cb3_t
  have t0:(i:Int).toNat=i:=by omega
  rw[t0]
  refine n_dec (fun a=>?_) fun a=>?_
  ·match m,hi with
   |0,hi=>omega
   |m+1,hi=>
    have hb:=(s.getD i 0).toNat_lt
    rw[drop_getD (d:=(0:UInt8)) (by omega:i<s.length)]at hv
    have hv:v=crcFrom (s.drop (i+1)) (crcBits 8 (r ^^^ (s.getD i 0).toNat*256)):=hv
    have hx:=crcIn_lt (s.getD i 0) hr
    refine n_req (by simp;omega) ?_
    rw[w64 (x:=((s.getD i 0).toNat:Int)) (by omega) (by omega),w64 (x:=((s.getD i 0).toNat:Int)*256) (by omega) (by omega),show(((s.getD i 0).toNat:Nat):Int)*256=(((s.getD i 0).toNat*256:Nat):Int) by omega,xor64 hr (by omega)]
    exact⟨slotsS_len _ _,cb_inner s i (by omega) hl _ 8 0 _ rfl hx (cb_outer s hl m (i+1) _ v (by omega) (crcBits_lt 8 hx) hv)⟩
  ·have z:s.drop i=[] :=List.drop_eq_nil_of_le (by omega)
   rw[z]at hv
   have hv:v=r:=hv
   subst hv
   exact rfl
theorem s_crcR(s:List UInt8)(hl:s.length≤1099511627776):SCall Tryz.prog 254 [.str s] (I64 (crc s)):=by
 refine scallR_loops rfl rfl (by kernel_rfl) (runsR_seg k000 (n:=1000) (hint:=.unit) (keep:=keepS 26 [0,3,4]) (p:=cb0_p) (boxes:=[]) rfl ?_)
 have q:=cb0 s
 unfold startS codeS at q
 erw [q]
 unfold cb0_t
 refine⟨slotsS_len _ _,?_⟩
 refine runsR_seg k000 (n:=1000) (hint:=.unit) (keep:=keepS 26 [0,3,4,5]) (p:=cb1_p) rfl ?_
 erw [cb1 s 65535 0]
 unfold cb1_t
 refine n_dec (fun a=>?_) fun a=>?_
 ·have hb:=(s.getD 0 0).toNat_lt
  have hx:=crcIn_lt (s.getD 0 0) (show 65535<65536 by decide)
  refine n_req (by simp;omega) ?_
  rw[show(0:Int).toNat=0 from rfl,w64 (x:=((s.getD 0 0).toNat:Int)) (by omega) (by omega),w64 (x:=((s.getD 0 0).toNat:Int)*256) (by omega) (by omega),show(((s.getD 0 0).toNat:Nat):Int)*256=(((s.getD 0 0).toNat*256:Nat):Int) by omega]
  have x:=xor64 (a:=65535) (b:=(s.getD 0 0).toNat*256) (by decide) (by omega)
  have x:i64.wrap (((BitVec.ofInt 64 65535 ^^^ BitVec.ofInt 64 (((s.getD 0 0).toNat*256:Nat):Int)).toNat:Nat):Int)=_:=x
  rw[x]
  refine⟨slotsS_len _ _,cb_inner s 0 (by omega) hl _ 8 0 _ rfl hx (cb_outer s hl (s.length-1) 1 _ _ (by omega) (crcBits_lt 8 hx) ?_)⟩
  have e:=drop_getD (d:=(0:UInt8)) (show 0<s.length by omega)
  rw[List.drop_zero]at e
  unfold crc
  conv=>lhs;rw[e]
  rfl
 ·have z:s=[] :=List.length_eq_zero_iff.1 (by omega)
  subst z;rfl
def nu0_p:Plan:=.all
noncomputable def nu0_t(s:List UInt8):Tree Stop:= .leaf (.at (loopOf Tryz.prog 335 0) 19 (slotsS 19 [(0,SV.str s),(3,.int .u64 0),(4,.int .i64 0)]) [])
theorem nu0(s:List UInt8):segR (Env.of Tryz.prog (sumOf [])) 1000 (fnOf Tryz.prog 335) .unit (keepS 19 [0,3,4]) (codeS Tryz.prog 335) nu0_p (startS Tryz.prog 335 [.str s]) [] =nu0_t s:=by kernel_rfl
def nu1_p:Plan:=.fork (.all) (.all)
noncomputable def nu1_t(s:List UInt8)(u i:Int):Tree Stop:= .node (decide (i< (↑s.length:Int))) (.req (decide (0≤i)&&decide (i< (↑s.length:Int))) (.leaf (.at (loopOf Tryz.prog 335 0) 19 (slotsS 19 [(0,SV.str s),(3,.int .u64 (u64.wrap (u64.wrap (u*256)+u64.wrap (↑(s.getD i.toNat 0).toNat:Int)))),(4,.int .i64 (i64.wrap (i+1)))]) []))) (.leaf (.done (.int .u64 u)))
theorem nu1(s:List UInt8)(u i:Int):segR (Env.of Tryz.prog (sumOf [])) 1000 (fnOf Tryz.prog 335) .unit (keepS 19 [0,3,4]) (loopOf Tryz.prog 335 0) nu1_p (slotsS 19 [(0,.str s),(3,.int .u64 u),(4,I64 i)]) [] =nu1_t s u i:=by kernel_rfl
def numW:Int→List UInt8→Int
 |u,[] =>u
 |u,b::l=>numW (u64.wrap (u64.wrap (u*256)+u64.wrap (b.toNat:Int))) l
def fNum:Fact:=⟨335,fun args=>match args with
 |[.str s] =>some (.req (decide ((s.length:Int)≤100000)) (.leaf (.int .u64 (numW 0 s))))
 |_=>none⟩
def wu1_p:Plan:=.ln 4 (.fork (.ln 5 (.lit .all)) (.ln 11 (.fork .all (.go (.lit (.go (.lit .all)))))))
noncomputable def wu1_t(n:Int):Tree Stop:= .node (decide (n<0)) (.leaf (.done (.tuple [SV.str [],.int .i64 3]))) (.req true (.node (!decide (u64.wrap n<256)) (.leaf (.done (.tuple [SV.str [],.int .i64 3]))) (.req true (.req (true) (.req (decide ((0+ [IntKind.u8.wrap ((u64.wrap n).fdiv 1)].length)*1≤140737488355328)) (.leaf (.done (.tuple [SV.str (List.map (fun n=>UInt8.ofNat (Int.toNat n)) [IntKind.u8.wrap ((u64.wrap n).fdiv 1)]),.int .i64 0]))))))))
theorem wu1(n:Int):segR (Env.of Tryz.prog (sumOf [])) 1000 (fnOf Tryz.prog 298) .unit (keepS 25 []) (codeS Tryz.prog 298) wu1_p (startS Tryz.prog 298 [I64 n,I64 1]) [] =wu1_t n:=by kernel_rfl
def wuR1_p:Plan:=.ln 4 (.fork (.ln 4 (.lit .all)) (.ln 11 (.fork .all (.go (.lit (.go (.lit .all)))))))
noncomputable def wuR1_t(n:Int):Tree Stop:= .node (decide (n<0)) (.leaf (.done (.tuple [SV.str [],.int .i64 3]))) (.req true (.node (decide (n≥256)) (.leaf (.done (.tuple [SV.str [],.int .i64 3]))) (.req true (.req (true) (.req true (.req (true) (.req true (.leaf (.done (.tuple [SV.str (List.map (fun n=>UInt8.ofNat (Int.toNat n)) ((List.replicate 1 0).set 0 (IntKind.u8.wrap ((u64.wrap n).tmod 256)))),.int .i64 0]))))))))))
theorem wuR1(n:Int):segR (Env.of Tryz.prog (sumOf [])) 1000 (fnOf Tryz.prog 279) .unit (keepS 27 []) (codeS Tryz.prog 279) wuR1_p (startS Tryz.prog 279 [I64 n,I64 1]) [] =wuR1_t n:=by kernel_rfl
def wu2_p:Plan:=.ln 4 (.fork (.ln 5 (.lit .all)) (.ln 11 (.fork .all (.go (.lit (.go (.lit (.go (.lit .all)))))))))
noncomputable def wu2_t(n:Int):Tree Stop:= .node (decide (n<0)) (.leaf (.done (.tuple [SV.str [],.int .i64 3]))) (.req true (.node (!decide (u64.wrap n<65536)) (.leaf (.done (.tuple [SV.str [],.int .i64 3]))) (.req true (.req (true) (.req (decide ((0+ [IntKind.u8.wrap ((u64.wrap n).fdiv 256)].length)*1≤140737488355328)) (.req true (.req (decide (([IntKind.u8.wrap ((u64.wrap n).fdiv 256)].length+ [IntKind.u8.wrap ((u64.wrap n).fdiv 1)].length)*1≤140737488355328)) (.leaf (.done (.tuple [SV.str (List.map (fun n=>UInt8.ofNat (Int.toNat n)) ([IntKind.u8.wrap ((u64.wrap n).fdiv 256)] ++[IntKind.u8.wrap ((u64.wrap n).fdiv 1)])),.int .i64 0]))))))))))
theorem wu2(n:Int):segR (Env.of Tryz.prog (sumOf [])) 1000 (fnOf Tryz.prog 298) .unit (keepS 25 []) (codeS Tryz.prog 298) wu2_p (startS Tryz.prog 298 [I64 n,I64 2]) [] =wu2_t n:=by kernel_rfl
def wuR2_p:Plan:=.ln 4 (.fork (.ln 4 (.lit .all)) (.ln 11 (.fork .all (.go (.lit (.go (.lit (.go (.lit .all)))))))))
noncomputable def wuR2_t(n:Int):Tree Stop:= .node (decide (n<0)) (.leaf (.done (.tuple [SV.str [],.int .i64 3]))) (.req true (.node (decide (n≥65536)) (.leaf (.done (.tuple [SV.str [],.int .i64 3]))) (.req true (.req (true) (.req true (.req (true) (.req true (.req (true) (.req (decide (0< (↑((List.replicate 2 0).set 1 (IntKind.u8.wrap ((u64.wrap n).tmod 256))).length:Int))) (.req (decide (0< ((List.replicate 2 0).set 1 (IntKind.u8.wrap ((u64.wrap n).tmod 256))).length)) (.req true (.leaf (.done (.tuple [SV.str (List.map (fun n=>UInt8.ofNat (Int.toNat n)) (((List.replicate 2 0).set 1 (IntKind.u8.wrap ((u64.wrap n).tmod 256))).set 0 (IntKind.u8.wrap ((u64.wrap ((u64.wrap n).tdiv 256)).tmod 256)))),.int .i64 0]))))))))))))))
theorem wuR2(n:Int):segR (Env.of Tryz.prog (sumOf [])) 1000 (fnOf Tryz.prog 279) .unit (keepS 27 []) (codeS Tryz.prog 279) wuR2_p (startS Tryz.prog 279 [I64 n,I64 2]) [] =wuR2_t n:=by kernel_rfl
def wu4_p:Plan:=.ln 4 (.fork (.ln 5 (.lit .all)) (.ln 11 (.fork .all (.go (.lit (.go (.lit (.go (.lit (.go (.lit (.go (.lit .all)))))))))))))
noncomputable def wu4_t(n:Int):Tree Stop:= .node (decide (n<0)) (.leaf (.done (.tuple [SV.str [],.int .i64 3]))) (.req true (.node (!decide (u64.wrap n<4294967296)) (.leaf (.done (.tuple [SV.str [],.int .i64 3]))) (.req true (.req (true) (.req (decide ((0+ [IntKind.u8.wrap ((u64.wrap n).fdiv 16777216)].length)*1≤140737488355328)) (.req true (.req (decide (([IntKind.u8.wrap ((u64.wrap n).fdiv 16777216)].length+ [IntKind.u8.wrap ((u64.wrap n).fdiv 65536)].length)*1≤140737488355328)) (.req true (.req (decide ((([IntKind.u8.wrap ((u64.wrap n).fdiv 16777216)] ++[IntKind.u8.wrap ((u64.wrap n).fdiv 65536)]).length+ [IntKind.u8.wrap ((u64.wrap n).fdiv 256)].length)*1≤140737488355328)) (.req true (.req (decide ((([IntKind.u8.wrap ((u64.wrap n).fdiv 16777216)] ++[IntKind.u8.wrap ((u64.wrap n).fdiv 65536)] ++[IntKind.u8.wrap ((u64.wrap n).fdiv 256)]).length+ [IntKind.u8.wrap ((u64.wrap n).fdiv 1)].length)*1≤140737488355328)) (.leaf (.done (.tuple [SV.str (List.map (fun n=>UInt8.ofNat (Int.toNat n)) ([IntKind.u8.wrap ((u64.wrap n).fdiv 16777216)] ++[IntKind.u8.wrap ((u64.wrap n).fdiv 65536)] ++[IntKind.u8.wrap ((u64.wrap n).fdiv 256)] ++[IntKind.u8.wrap ((u64.wrap n).fdiv 1)])),.int .i64 0]))))))))))))))
theorem wu4(n:Int):segR (Env.of Tryz.prog (sumOf [])) 1000 (fnOf Tryz.prog 298) .unit (keepS 25 []) (codeS Tryz.prog 298) wu4_p (startS Tryz.prog 298 [I64 n,I64 4]) [] =wu4_t n:=by kernel_rfl
def wuR4_p:Plan:=.ln 4 (.fork (.ln 4 (.lit .all)) (.ln 11 (.fork .all (.go (.lit (.go (.lit (.go (.lit (.go (.lit (.go (.lit .all)))))))))))))
noncomputable def wuR4_t(n:Int):Tree Stop:= .node (decide (n<0)) (.leaf (.done (.tuple [SV.str [],.int .i64 3]))) (.req true (.node (decide (n≥4294967296)) (.leaf (.done (.tuple [SV.str [],.int .i64 3]))) (.req true (.req (true) (.req true (.req (true) (.req true (.req (true) (.req (decide (2< (↑((List.replicate 4 0).set 3 (IntKind.u8.wrap ((u64.wrap n).tmod 256))).length:Int))) (.req (decide (2< ((List.replicate 4 0).set 3 (IntKind.u8.wrap ((u64.wrap n).tmod 256))).length)) (.req true (.req (true) (.req (decide (1< (↑(((List.replicate 4 0).set 3 (IntKind.u8.wrap ((u64.wrap n).tmod 256))).set 2 (IntKind.u8.wrap ((u64.wrap ((u64.wrap n).tdiv 256)).tmod 256))).length:Int))) (.req (decide (1< (((List.replicate 4 0).set 3 (IntKind.u8.wrap ((u64.wrap n).tmod 256))).set 2 (IntKind.u8.wrap ((u64.wrap ((u64.wrap n).tdiv 256)).tmod 256))).length)) (.req true (.req (true) (.req (decide (0< (↑((((List.replicate 4 0).set 3 (IntKind.u8.wrap ((u64.wrap n).tmod 256))).set 2 (IntKind.u8.wrap ((u64.wrap ((u64.wrap n).tdiv 256)).tmod 256))).set 1 (IntKind.u8.wrap ((u64.wrap ((u64.wrap ((u64.wrap n).tdiv 256)).tdiv 256)).tmod 256))).length:Int))) (.req (decide (0< ((((List.replicate 4 0).set 3 (IntKind.u8.wrap ((u64.wrap n).tmod 256))).set 2 (IntKind.u8.wrap ((u64.wrap ((u64.wrap n).tdiv 256)).tmod 256))).set 1 (IntKind.u8.wrap ((u64.wrap ((u64.wrap ((u64.wrap n).tdiv 256)).tdiv 256)).tmod 256))).length)) (.req true (.leaf (.done (.tuple [SV.str (List.map (fun n=>UInt8.ofNat (Int.toNat n)) (((((List.replicate 4 0).set 3 (IntKind.u8.wrap ((u64.wrap n).tmod 256))).set 2 (IntKind.u8.wrap ((u64.wrap ((u64.wrap n).tdiv 256)).tmod 256))).set 1 (IntKind.u8.wrap ((u64.wrap ((u64.wrap ((u64.wrap n).tdiv 256)).tdiv 256)).tmod 256))).set 0 (IntKind.u8.wrap ((u64.wrap ((u64.wrap ((u64.wrap ((u64.wrap n).tdiv 256)).tdiv 256)).tdiv 256)).tmod 256)))),.int .i64 0]))))))))))))))))))))))
theorem wuR4(n:Int):segR (Env.of Tryz.prog (sumOf [])) 1000 (fnOf Tryz.prog 279) .unit (keepS 27 []) (codeS Tryz.prog 279) wuR4_p (startS Tryz.prog 279 [I64 n,I64 4]) [] =wuR4_t n:=by kernel_rfl
def wu6_p:Plan:=.ln 4 (.fork (.ln 5 (.lit .all)) (.ln 11 (.fork .all (.go (.lit (.go (.lit (.go (.lit (.go (.lit (.go (.lit (.go (.lit (.go (.lit .all)))))))))))))))))
noncomputable def wu6_t(n:Int):Tree Stop:= .node (decide (n<0)) (.leaf (.done (.tuple [SV.str [],.int .i64 3]))) (.req true (.node (!decide (u64.wrap n<281474976710656)) (.leaf (.done (.tuple [SV.str [],.int .i64 3]))) (.req true (.req (true) (.req (decide ((0+ [IntKind.u8.wrap ((u64.wrap n).fdiv 1099511627776)].length)*1≤140737488355328)) (.req true (.req (decide (([IntKind.u8.wrap ((u64.wrap n).fdiv 1099511627776)].length+ [IntKind.u8.wrap ((u64.wrap n).fdiv 4294967296)].length)*1≤140737488355328)) (.req true (.req (decide ((([IntKind.u8.wrap ((u64.wrap n).fdiv 1099511627776)] ++[IntKind.u8.wrap ((u64.wrap n).fdiv 4294967296)]).length+ [IntKind.u8.wrap ((u64.wrap n).fdiv 16777216)].length)*1≤140737488355328)) (.req true (.req (decide ((([IntKind.u8.wrap ((u64.wrap n).fdiv 1099511627776)] ++[IntKind.u8.wrap ((u64.wrap n).fdiv 4294967296)] ++[IntKind.u8.wrap ((u64.wrap n).fdiv 16777216)]).length+ [IntKind.u8.wrap ((u64.wrap n).fdiv 65536)].length)*1≤140737488355328)) (.req true (.req (decide ((([IntKind.u8.wrap ((u64.wrap n).fdiv 1099511627776)] ++[IntKind.u8.wrap ((u64.wrap n).fdiv 4294967296)] ++[IntKind.u8.wrap ((u64.wrap n).fdiv 16777216)] ++[IntKind.u8.wrap ((u64.wrap n).fdiv 65536)]).length+ [IntKind.u8.wrap ((u64.wrap n).fdiv 256)].length)*1≤140737488355328)) (.req true (.req (decide ((([IntKind.u8.wrap ((u64.wrap n).fdiv 1099511627776)] ++[IntKind.u8.wrap ((u64.wrap n).fdiv 4294967296)] ++[IntKind.u8.wrap ((u64.wrap n).fdiv 16777216)] ++[IntKind.u8.wrap ((u64.wrap n).fdiv 65536)] ++[IntKind.u8.wrap ((u64.wrap n).fdiv 256)]).length+ [IntKind.u8.wrap ((u64.wrap n).fdiv 1)].length)*1≤140737488355328)) (.leaf (.done (.tuple [SV.str (List.map (fun n=>UInt8.ofNat (Int.toNat n)) ([IntKind.u8.wrap ((u64.wrap n).fdiv 1099511627776)] ++[IntKind.u8.wrap ((u64.wrap n).fdiv 4294967296)] ++[IntKind.u8.wrap ((u64.wrap n).fdiv 16777216)] ++[IntKind.u8.wrap ((u64.wrap n).fdiv 65536)] ++[IntKind.u8.wrap ((u64.wrap n).fdiv 256)] ++[IntKind.u8.wrap ((u64.wrap n).fdiv 1)])),.int .i64 0]))))))))))))))))))
theorem wu6(n:Int):segR (Env.of Tryz.prog (sumOf [])) 1000 (fnOf Tryz.prog 298) .unit (keepS 25 []) (codeS Tryz.prog 298) wu6_p (startS Tryz.prog 298 [I64 n,I64 6]) [] =wu6_t n:=by kernel_rfl
def wuR6_p:Plan:=.ln 4 (.fork (.ln 4 (.lit .all)) (.ln 11 (.fork .all (.go (.lit (.go (.lit (.go (.lit (.go (.lit (.go (.lit (.go (.lit (.go (.lit .all)))))))))))))))))
noncomputable def wuR6_t(n:Int):Tree Stop:= .node (decide (n<0)) (.leaf (.done (.tuple [SV.str [],.int .i64 3]))) (.req true (.node (decide (n≥281474976710656)) (.leaf (.done (.tuple [SV.str [],.int .i64 3]))) (.req true (.req (true) (.req true (.req (true) (.req true (.req (true) (.req (decide (4< (↑((List.replicate 6 0).set 5 (IntKind.u8.wrap ((u64.wrap n).tmod 256))).length:Int))) (.req (decide (4< ((List.replicate 6 0).set 5 (IntKind.u8.wrap ((u64.wrap n).tmod 256))).length)) (.req true (.req (true) (.req (decide (3< (↑(((List.replicate 6 0).set 5 (IntKind.u8.wrap ((u64.wrap n).tmod 256))).set 4 (IntKind.u8.wrap ((u64.wrap ((u64.wrap n).tdiv 256)).tmod 256))).length:Int))) (.req (decide (3< (((List.replicate 6 0).set 5 (IntKind.u8.wrap ((u64.wrap n).tmod 256))).set 4 (IntKind.u8.wrap ((u64.wrap ((u64.wrap n).tdiv 256)).tmod 256))).length)) (.req true (.req (true) (.req (decide (2< (↑((((List.replicate 6 0).set 5 (IntKind.u8.wrap ((u64.wrap n).tmod 256))).set 4 (IntKind.u8.wrap ((u64.wrap ((u64.wrap n).tdiv 256)).tmod 256))).set 3 (IntKind.u8.wrap ((u64.wrap ((u64.wrap ((u64.wrap n).tdiv 256)).tdiv 256)).tmod 256))).length:Int))) (.req (decide (2< ((((List.replicate 6 0).set 5 (IntKind.u8.wrap ((u64.wrap n).tmod 256))).set 4 (IntKind.u8.wrap ((u64.wrap ((u64.wrap n).tdiv 256)).tmod 256))).set 3 (IntKind.u8.wrap ((u64.wrap ((u64.wrap ((u64.wrap n).tdiv 256)).tdiv 256)).tmod 256))).length)) (.req true (.req (true) (.req (decide (1< (↑(((((List.replicate 6 0).set 5 (IntKind.u8.wrap ((u64.wrap n).tmod 256))).set 4 (IntKind.u8.wrap ((u64.wrap ((u64.wrap n).tdiv 256)).tmod 256))).set 3 (IntKind.u8.wrap ((u64.wrap ((u64.wrap ((u64.wrap n).tdiv 256)).tdiv 256)).tmod 256))).set 2 (IntKind.u8.wrap ((u64.wrap ((u64.wrap ((u64.wrap ((u64.wrap n).tdiv 256)).tdiv 256)).tdiv 256)).tmod 256))).length:Int))) (.req (decide (1< (((((List.replicate 6 0).set 5 (IntKind.u8.wrap ((u64.wrap n).tmod 256))).set 4 (IntKind.u8.wrap ((u64.wrap ((u64.wrap n).tdiv 256)).tmod 256))).set 3 (IntKind.u8.wrap ((u64.wrap ((u64.wrap ((u64.wrap n).tdiv 256)).tdiv 256)).tmod 256))).set 2 (IntKind.u8.wrap ((u64.wrap ((u64.wrap ((u64.wrap ((u64.wrap n).tdiv 256)).tdiv 256)).tdiv 256)).tmod 256))).length)) (.req true (.req (true) (.req (decide (0< (↑((((((List.replicate 6 0).set 5 (IntKind.u8.wrap ((u64.wrap n).tmod 256))).set 4 (IntKind.u8.wrap ((u64.wrap ((u64.wrap n).tdiv 256)).tmod 256))).set 3 (IntKind.u8.wrap ((u64.wrap ((u64.wrap ((u64.wrap n).tdiv 256)).tdiv 256)).tmod 256))).set 2 (IntKind.u8.wrap ((u64.wrap ((u64.wrap ((u64.wrap ((u64.wrap n).tdiv 256)).tdiv 256)).tdiv 256)).tmod 256))).set 1 (IntKind.u8.wrap ((u64.wrap ((u64.wrap ((u64.wrap ((u64.wrap ((u64.wrap n).tdiv 256)).tdiv 256)).tdiv 256)).tdiv 256)).tmod 256))).length:Int))) (.req (decide (0< ((((((List.replicate 6 0).set 5 (IntKind.u8.wrap ((u64.wrap n).tmod 256))).set 4 (IntKind.u8.wrap ((u64.wrap ((u64.wrap n).tdiv 256)).tmod 256))).set 3 (IntKind.u8.wrap ((u64.wrap ((u64.wrap ((u64.wrap n).tdiv 256)).tdiv 256)).tmod 256))).set 2 (IntKind.u8.wrap ((u64.wrap ((u64.wrap ((u64.wrap ((u64.wrap n).tdiv 256)).tdiv 256)).tdiv 256)).tmod 256))).set 1 (IntKind.u8.wrap ((u64.wrap ((u64.wrap ((u64.wrap ((u64.wrap ((u64.wrap n).tdiv 256)).tdiv 256)).tdiv 256)).tdiv 256)).tmod 256))).length)) (.req true (.leaf (.done (.tuple [SV.str (List.map (fun n=>UInt8.ofNat (Int.toNat n)) (((((((List.replicate 6 0).set 5 (IntKind.u8.wrap ((u64.wrap n).tmod 256))).set 4 (IntKind.u8.wrap ((u64.wrap ((u64.wrap n).tdiv 256)).tmod 256))).set 3 (IntKind.u8.wrap ((u64.wrap ((u64.wrap ((u64.wrap n).tdiv 256)).tdiv 256)).tmod 256))).set 2 (IntKind.u8.wrap ((u64.wrap ((u64.wrap ((u64.wrap ((u64.wrap n).tdiv 256)).tdiv 256)).tdiv 256)).tmod 256))).set 1 (IntKind.u8.wrap ((u64.wrap ((u64.wrap ((u64.wrap ((u64.wrap ((u64.wrap n).tdiv 256)).tdiv 256)).tdiv 256)).tdiv 256)).tmod 256))).set 0 (IntKind.u8.wrap ((u64.wrap ((u64.wrap ((u64.wrap ((u64.wrap ((u64.wrap ((u64.wrap n).tdiv 256)).tdiv 256)).tdiv 256)).tdiv 256)).tdiv 256)).tmod 256)))),.int .i64 0]))))))))))))))))))))))))))))))
theorem wuR6(n:Int):segR (Env.of Tryz.prog (sumOf [])) 1000 (fnOf Tryz.prog 279) .unit (keepS 27 []) (codeS Tryz.prog 279) wuR6_p (startS Tryz.prog 279 [I64 n,I64 6]) [] =wuR6_t n:=by kernel_rfl
def wi4_p:Plan:=.ln 9 (.fork (.ln 5 (.lit .all)) (.ln 5 (.fork .all (.go (.lit (.go (.lit (.go (.lit (.go (.lit (.go (.lit .all)))))))))))))
noncomputable def wi4_t(n:Int):Tree Stop:= .req (true) (.node (decide (n < -2147483648)) (.leaf (.done (.tuple [SV.str [],.int .i64 3]))) (.node (decide (n≥2147483648)) (.leaf (.done (.tuple [SV.str [],.int .i64 3]))) (.req true (.req (true) (.req (decide ((0+ [IntKind.u8.wrap ((u64.wrap n).fdiv 16777216)].length)*1≤140737488355328)) (.req true (.req (decide (([IntKind.u8.wrap ((u64.wrap n).fdiv 16777216)].length+ [IntKind.u8.wrap ((u64.wrap n).fdiv 65536)].length)*1≤140737488355328)) (.req true (.req (decide ((([IntKind.u8.wrap ((u64.wrap n).fdiv 16777216)] ++[IntKind.u8.wrap ((u64.wrap n).fdiv 65536)]).length+ [IntKind.u8.wrap ((u64.wrap n).fdiv 256)].length)*1≤140737488355328)) (.req true (.req (decide ((([IntKind.u8.wrap ((u64.wrap n).fdiv 16777216)] ++[IntKind.u8.wrap ((u64.wrap n).fdiv 65536)] ++[IntKind.u8.wrap ((u64.wrap n).fdiv 256)]).length+ [IntKind.u8.wrap ((u64.wrap n).fdiv 1)].length)*1≤140737488355328)) (.leaf (.done (.tuple [SV.str (List.map (fun n=>UInt8.ofNat (Int.toNat n)) ([IntKind.u8.wrap ((u64.wrap n).fdiv 16777216)] ++[IntKind.u8.wrap ((u64.wrap n).fdiv 65536)] ++[IntKind.u8.wrap ((u64.wrap n).fdiv 256)] ++[IntKind.u8.wrap ((u64.wrap n).fdiv 1)])),.int .i64 0]))))))))))))))
theorem wi4(n:Int):segR (Env.of Tryz.prog (sumOf [])) 1000 (fnOf Tryz.prog 299) .unit (keepS 32 []) (codeS Tryz.prog 299) wi4_p (startS Tryz.prog 299 [I64 n,I64 4]) [] =wi4_t n:=by kernel_rfl
def wiR4_p:Plan:=.ln 13 (.fork (.ln 9 (.lit .all)) (.ln 9 (.fork .all (.go (.lit (.go (.lit (.go (.lit (.go (.lit (.go (.lit .all)))))))))))))
noncomputable def wiR4_t(n:Int):Tree Stop:= .req (true) (.node (decide (n < -2147483648)) (.leaf (.done (.tuple [SV.str [],.int .i64 3]))) (.req true (.node (decide (n≥2147483648)) (.leaf (.done (.tuple [SV.str [],.int .i64 3]))) (.req true (.req (true) (.req true (.req (true) (.req true (.req (true) (.req (decide (2< (↑((List.replicate 4 0).set 3 (IntKind.u8.wrap ((u64.wrap n).tmod 256))).length:Int))) (.req (decide (2< ((List.replicate 4 0).set 3 (IntKind.u8.wrap ((u64.wrap n).tmod 256))).length)) (.req true (.req (true) (.req (decide (1< (↑(((List.replicate 4 0).set 3 (IntKind.u8.wrap ((u64.wrap n).tmod 256))).set 2 (IntKind.u8.wrap ((u64.wrap ((u64.wrap n).tdiv 256)).tmod 256))).length:Int))) (.req (decide (1< (((List.replicate 4 0).set 3 (IntKind.u8.wrap ((u64.wrap n).tmod 256))).set 2 (IntKind.u8.wrap ((u64.wrap ((u64.wrap n).tdiv 256)).tmod 256))).length)) (.req true (.req (true) (.req (decide (0< (↑((((List.replicate 4 0).set 3 (IntKind.u8.wrap ((u64.wrap n).tmod 256))).set 2 (IntKind.u8.wrap ((u64.wrap ((u64.wrap n).tdiv 256)).tmod 256))).set 1 (IntKind.u8.wrap ((u64.wrap ((u64.wrap ((u64.wrap n).tdiv 256)).tdiv 256)).tmod 256))).length:Int))) (.req (decide (0< ((((List.replicate 4 0).set 3 (IntKind.u8.wrap ((u64.wrap n).tmod 256))).set 2 (IntKind.u8.wrap ((u64.wrap ((u64.wrap n).tdiv 256)).tmod 256))).set 1 (IntKind.u8.wrap ((u64.wrap ((u64.wrap ((u64.wrap n).tdiv 256)).tdiv 256)).tmod 256))).length)) (.req true (.leaf (.done (.tuple [SV.str (List.map (fun n=>UInt8.ofNat (Int.toNat n)) (((((List.replicate 4 0).set 3 (IntKind.u8.wrap ((u64.wrap n).tmod 256))).set 2 (IntKind.u8.wrap ((u64.wrap ((u64.wrap n).tdiv 256)).tmod 256))).set 1 (IntKind.u8.wrap ((u64.wrap ((u64.wrap ((u64.wrap n).tdiv 256)).tdiv 256)).tmod 256))).set 0 (IntKind.u8.wrap ((u64.wrap ((u64.wrap ((u64.wrap ((u64.wrap n).tdiv 256)).tdiv 256)).tdiv 256)).tmod 256)))),.int .i64 0])))))))))))))))))))))))
theorem wiR4(n:Int):segR (Env.of Tryz.prog (sumOf [])) 1000 (fnOf Tryz.prog 280) .unit (keepS 34 []) (codeS Tryz.prog 280) wiR4_p (startS Tryz.prog 280 [I64 n,I64 4]) [] =wiR4_t n:=by kernel_rfl
def tkP1(s:List UInt8)(a:Int):Int:=u64.wrap (↑(BitVec.ofInt 64 0 |||BitVec.ofInt 64 (u64.wrap (↑(s.getD (i64.wrap (a+0)).toNat 0).toNat:Int))).toNat:Int)
def tkP4(s:List UInt8)(a:Int):Int:=u64.wrap (↑(BitVec.ofInt 64 (u64.wrap (u64.wrap (↑(BitVec.ofInt 64 (u64.wrap (u64.wrap (↑(BitVec.ofInt 64 (u64.wrap (u64.wrap (↑(BitVec.ofInt 64 0 |||BitVec.ofInt 64 (u64.wrap (↑(s.getD (i64.wrap (a+0)).toNat 0).toNat:Int))).toNat:Int)*256)) |||BitVec.ofInt 64 (u64.wrap (↑(s.getD (i64.wrap (a+1)).toNat 0).toNat:Int))).toNat:Int)*256)) |||BitVec.ofInt 64 (u64.wrap (↑(s.getD (i64.wrap (a+2)).toNat 0).toNat:Int))).toNat:Int)*256)) |||BitVec.ofInt 64 (u64.wrap (↑(s.getD (i64.wrap (a+3)).toNat 0).toNat:Int))).toNat:Int)
def tkP6(s:List UInt8)(a:Int):Int:=u64.wrap (↑(BitVec.ofInt 64 (u64.wrap (u64.wrap (↑(BitVec.ofInt 64 (u64.wrap (u64.wrap (↑(BitVec.ofInt 64 (u64.wrap (u64.wrap (↑(BitVec.ofInt 64 (u64.wrap (u64.wrap (↑(BitVec.ofInt 64 (u64.wrap (u64.wrap (↑(BitVec.ofInt 64 0 |||BitVec.ofInt 64 (u64.wrap (↑(s.getD (i64.wrap (a+0)).toNat 0).toNat:Int))).toNat:Int)*256)) |||BitVec.ofInt 64 (u64.wrap (↑(s.getD (i64.wrap (a+1)).toNat 0).toNat:Int))).toNat:Int)*256)) |||BitVec.ofInt 64 (u64.wrap (↑(s.getD (i64.wrap (a+2)).toNat 0).toNat:Int))).toNat:Int)*256)) |||BitVec.ofInt 64 (u64.wrap (↑(s.getD (i64.wrap (a+3)).toNat 0).toNat:Int))).toNat:Int)*256)) |||BitVec.ofInt 64 (u64.wrap (↑(s.getD (i64.wrap (a+4)).toNat 0).toNat:Int))).toNat:Int)*256)) |||BitVec.ofInt 64 (u64.wrap (↑(s.getD (i64.wrap (a+5)).toNat 0).toNat:Int))).toNat:Int)
def tw1_p:Plan:=.fork (.ln 9 (.lit .all)) (.ln 4 (.fork (.ln 4 (.lit .all)) (.ln 7 (.fork (.lit .all) (.go (.lit (.go (.lit (.lit (.fork .all .all))))))))))
noncomputable def tw1_t(s:List UInt8)(a:Int):Tree Stop:= .node (decide (a<0)) (.leaf (.done (.tuple [.int .i64 0,.int .i64 0,.int .i64 1]))) (.node (decide (a> (↑s.length:Int))) (.leaf (.done (.tuple [.int .i64 0,.int .i64 0,.int .i64 1]))) (.node (decide (i64.wrap ((↑s.length:Int)-a)<1)) (.leaf (.done (.tuple [.int .i64 0,.int .i64 0,.int .i64 6]))) (.req true (.req (decide (0≤i64.wrap (a+0))&&decide (i64.wrap (a+0)< (↑s.length:Int))) (.node (decide (tkP1 s a≥9223372036854775808)) (.leaf (.done (.tuple [.int .i64 0,.int .i64 0,.int .i64 3]))) (.leaf (.done (.tuple [.int .i64 (i64.wrap (tkP1 s a)),.int .i64 (i64.wrap (a+1)),.int .i64 0]))))))))
theorem tw1(s:List UInt8)(a:Int):segR (Env.of Tryz.prog (sumOf [])) 1000 (fnOf Tryz.prog 282) .unit (keepS 30 []) (codeS Tryz.prog 282) tw1_p (startS Tryz.prog 282 [.str s,I64 a,I64 1]) [] =tw1_t s a:=by kernel_rfl
def twR1_p:Plan:=.fork (.ln 9 (.lit .all)) (.ln 4 (.fork (.ln 4 (.lit .all)) (.ln 7 (.fork (.lit .all) (.lit (.fork .all .all))))))
noncomputable def twR1_t(s:List UInt8)(a:Int):Tree Stop:= .node (decide (a<0)) (.leaf (.done (.tuple [.int .i64 0,.int .i64 0,.int .i64 1]))) (.node (decide (a> (↑s.length:Int))) (.leaf (.done (.tuple [.int .i64 0,.int .i64 0,.int .i64 1]))) (.node (decide (i64.wrap ((↑s.length:Int)-a)<1)) (.leaf (.done (.tuple [.int .i64 0,.int .i64 0,.int .i64 6]))) (.req (decide (0≤i64.wrap (a+1))&&decide (i64.wrap (a+1)≤(↑s.length:Int))&&decide (0≤a)&&decide (a≤i64.wrap (a+1))) (.req (decide ((↑(List.drop a.toNat (List.take (i64.wrap (a+1)).toNat s)).length:Int)≤100000)) (.node (decide (numW 0 (List.drop a.toNat (List.take (i64.wrap (a+1)).toNat s))≥9223372036854775808)) (.leaf (.done (.tuple [.int .i64 0,.int .i64 0,.int .i64 3]))) (.leaf (.done (.tuple [.int .i64 (i64.wrap (numW 0 (List.drop a.toNat (List.take (i64.wrap (a+1)).toNat s)))),.int .i64 (i64.wrap (a+1)),.int .i64 0]))))))))
theorem twR1(s:List UInt8)(a:Int):segR (Env.of Tryz.prog (sumOf [fNum])) 1000 (fnOf Tryz.prog 321) .unit (keepS 31 []) (codeS Tryz.prog 321) twR1_p (startS Tryz.prog 321 [.str s,I64 a,I64 1]) [] =twR1_t s a:=by kernel_rfl
def tw4_p:Plan:=.fork (.ln 9 (.lit .all)) (.ln 4 (.fork (.ln 4 (.lit .all)) (.ln 7 (.fork (.lit .all) (.go (.lit (.go (.lit (.go (.lit (.go (.lit (.go (.lit (.lit (.fork .all .all))))))))))))))))
noncomputable def tw4_t(s:List UInt8)(a:Int):Tree Stop:= .node (decide (a<0)) (.leaf (.done (.tuple [.int .i64 0,.int .i64 0,.int .i64 1]))) (.node (decide (a> (↑s.length:Int))) (.leaf (.done (.tuple [.int .i64 0,.int .i64 0,.int .i64 1]))) (.node (decide (i64.wrap ((↑s.length:Int)-a)<4)) (.leaf (.done (.tuple [.int .i64 0,.int .i64 0,.int .i64 6]))) (.req true (.req (decide (0≤i64.wrap (a+0))&&decide (i64.wrap (a+0)< (↑s.length:Int))) (.req true (.req (decide (0≤i64.wrap (a+1))&&decide (i64.wrap (a+1)< (↑s.length:Int))) (.req true (.req (decide (0≤i64.wrap (a+2))&&decide (i64.wrap (a+2)< (↑s.length:Int))) (.req true (.req (decide (0≤i64.wrap (a+3))&&decide (i64.wrap (a+3)< (↑s.length:Int))) (.node (decide (tkP4 s a≥9223372036854775808)) (.leaf (.done (.tuple [.int .i64 0,.int .i64 0,.int .i64 3]))) (.leaf (.done (.tuple [.int .i64 (i64.wrap (tkP4 s a)),.int .i64 (i64.wrap (a+4)),.int .i64 0]))))))))))))))
theorem tw4(s:List UInt8)(a:Int):segR (Env.of Tryz.prog (sumOf [])) 1000 (fnOf Tryz.prog 282) .unit (keepS 30 []) (codeS Tryz.prog 282) tw4_p (startS Tryz.prog 282 [.str s,I64 a,I64 4]) [] =tw4_t s a:=by kernel_rfl
def twR4_p:Plan:=.fork (.ln 9 (.lit .all)) (.ln 4 (.fork (.ln 4 (.lit .all)) (.ln 7 (.fork (.lit .all) (.lit (.fork .all .all))))))
noncomputable def twR4_t(s:List UInt8)(a:Int):Tree Stop:= .node (decide (a<0)) (.leaf (.done (.tuple [.int .i64 0,.int .i64 0,.int .i64 1]))) (.node (decide (a> (↑s.length:Int))) (.leaf (.done (.tuple [.int .i64 0,.int .i64 0,.int .i64 1]))) (.node (decide (i64.wrap ((↑s.length:Int)-a)<4)) (.leaf (.done (.tuple [.int .i64 0,.int .i64 0,.int .i64 6]))) (.req (decide (0≤i64.wrap (a+4))&&decide (i64.wrap (a+4)≤(↑s.length:Int))&&decide (0≤a)&&decide (a≤i64.wrap (a+4))) (.req (decide ((↑(List.drop a.toNat (List.take (i64.wrap (a+4)).toNat s)).length:Int)≤100000)) (.node (decide (numW 0 (List.drop a.toNat (List.take (i64.wrap (a+4)).toNat s))≥9223372036854775808)) (.leaf (.done (.tuple [.int .i64 0,.int .i64 0,.int .i64 3]))) (.leaf (.done (.tuple [.int .i64 (i64.wrap (numW 0 (List.drop a.toNat (List.take (i64.wrap (a+4)).toNat s)))),.int .i64 (i64.wrap (a+4)),.int .i64 0]))))))))
theorem twR4(s:List UInt8)(a:Int):segR (Env.of Tryz.prog (sumOf [fNum])) 1000 (fnOf Tryz.prog 321) .unit (keepS 31 []) (codeS Tryz.prog 321) twR4_p (startS Tryz.prog 321 [.str s,I64 a,I64 4]) [] =twR4_t s a:=by kernel_rfl
def tw6_p:Plan:=.fork (.ln 9 (.lit .all)) (.ln 4 (.fork (.ln 4 (.lit .all)) (.ln 7 (.fork (.lit .all) (.go (.lit (.go (.lit (.go (.lit (.go (.lit (.go (.lit (.go (.lit (.go (.lit (.lit (.fork .all .all))))))))))))))))))))
noncomputable def tw6_t(s:List UInt8)(a:Int):Tree Stop:= .node (decide (a<0)) (.leaf (.done (.tuple [.int .i64 0,.int .i64 0,.int .i64 1]))) (.node (decide (a> (↑s.length:Int))) (.leaf (.done (.tuple [.int .i64 0,.int .i64 0,.int .i64 1]))) (.node (decide (i64.wrap ((↑s.length:Int)-a)<6)) (.leaf (.done (.tuple [.int .i64 0,.int .i64 0,.int .i64 6]))) (.req true (.req (decide (0≤i64.wrap (a+0))&&decide (i64.wrap (a+0)< (↑s.length:Int))) (.req true (.req (decide (0≤i64.wrap (a+1))&&decide (i64.wrap (a+1)< (↑s.length:Int))) (.req true (.req (decide (0≤i64.wrap (a+2))&&decide (i64.wrap (a+2)< (↑s.length:Int))) (.req true (.req (decide (0≤i64.wrap (a+3))&&decide (i64.wrap (a+3)< (↑s.length:Int))) (.req true (.req (decide (0≤i64.wrap (a+4))&&decide (i64.wrap (a+4)< (↑s.length:Int))) (.req true (.req (decide (0≤i64.wrap (a+5))&&decide (i64.wrap (a+5)< (↑s.length:Int))) (.node (decide (tkP6 s a≥9223372036854775808)) (.leaf (.done (.tuple [.int .i64 0,.int .i64 0,.int .i64 3]))) (.leaf (.done (.tuple [.int .i64 (i64.wrap (tkP6 s a)),.int .i64 (i64.wrap (a+6)),.int .i64 0]))))))))))))))))))
theorem tw6(s:List UInt8)(a:Int):segR (Env.of Tryz.prog (sumOf [])) 1000 (fnOf Tryz.prog 282) .unit (keepS 30 []) (codeS Tryz.prog 282) tw6_p (startS Tryz.prog 282 [.str s,I64 a,I64 6]) [] =tw6_t s a:=by kernel_rfl
def twR6_p:Plan:=.fork (.ln 9 (.lit .all)) (.ln 4 (.fork (.ln 4 (.lit .all)) (.ln 7 (.fork (.lit .all) (.lit (.fork .all .all))))))
noncomputable def twR6_t(s:List UInt8)(a:Int):Tree Stop:= .node (decide (a<0)) (.leaf (.done (.tuple [.int .i64 0,.int .i64 0,.int .i64 1]))) (.node (decide (a> (↑s.length:Int))) (.leaf (.done (.tuple [.int .i64 0,.int .i64 0,.int .i64 1]))) (.node (decide (i64.wrap ((↑s.length:Int)-a)<6)) (.leaf (.done (.tuple [.int .i64 0,.int .i64 0,.int .i64 6]))) (.req (decide (0≤i64.wrap (a+6))&&decide (i64.wrap (a+6)≤(↑s.length:Int))&&decide (0≤a)&&decide (a≤i64.wrap (a+6))) (.req (decide ((↑(List.drop a.toNat (List.take (i64.wrap (a+6)).toNat s)).length:Int)≤100000)) (.node (decide (numW 0 (List.drop a.toNat (List.take (i64.wrap (a+6)).toNat s))≥9223372036854775808)) (.leaf (.done (.tuple [.int .i64 0,.int .i64 0,.int .i64 3]))) (.leaf (.done (.tuple [.int .i64 (i64.wrap (numW 0 (List.drop a.toNat (List.take (i64.wrap (a+6)).toNat s)))),.int .i64 (i64.wrap (a+6)),.int .i64 0]))))))))
theorem twR6(s:List UInt8)(a:Int):segR (Env.of Tryz.prog (sumOf [fNum])) 1000 (fnOf Tryz.prog 321) .unit (keepS 31 []) (codeS Tryz.prog 321) twR6_p (startS Tryz.prog 321 [.str s,I64 a,I64 6]) [] =twR6_t s a:=by kernel_rfl
def ti4_p:Plan:=.fork (.ln 9 (.lit .all)) (.ln 4 (.fork (.ln 4 (.lit .all)) (.ln 7 (.fork (.lit .all) (.go (.lit (.go (.lit (.go (.lit (.go (.lit (.go (.lit (.lit .all)))))))))))))))
noncomputable def ti4_t(s:List UInt8)(a:Int):Tree Stop:= .node (decide (a<0)) (.leaf (.done (.tuple [.int .i64 0,.int .i64 0,.int .i64 1]))) (.node (decide (a> (↑s.length:Int))) (.leaf (.done (.tuple [.int .i64 0,.int .i64 0,.int .i64 1]))) (.node (decide (i64.wrap ((↑s.length:Int)-a)<4)) (.leaf (.done (.tuple [.int .i64 0,.int .i64 0,.int .i64 6]))) (.req true (.req (decide (0≤i64.wrap (a+0))&&decide (i64.wrap (a+0)< (↑s.length:Int))) (.req true (.req (decide (0≤i64.wrap (a+1))&&decide (i64.wrap (a+1)< (↑s.length:Int))) (.req true (.req (decide (0≤i64.wrap (a+2))&&decide (i64.wrap (a+2)< (↑s.length:Int))) (.req true (.req (decide (0≤i64.wrap (a+3))&&decide (i64.wrap (a+3)< (↑s.length:Int))) (.req true (.req (true) (.leaf (.done (.tuple [.int .i64 ((i64.wrap (u64.wrap (tkP4 s a*4294967296))).fdiv 4294967296),.int .i64 (i64.wrap (a+4)),.int .i64 0])))))))))))))))
theorem ti4(s:List UInt8)(a:Int):segR (Env.of Tryz.prog (sumOf [])) 1000 (fnOf Tryz.prog 284) .unit (keepS 34 []) (codeS Tryz.prog 284) ti4_p (startS Tryz.prog 284 [.str s,I64 a,I64 4]) [] =ti4_t s a:=by kernel_rfl
def tiR4_p:Plan:=.fork (.ln 9 (.lit .all)) (.ln 4 (.fork (.ln 4 (.lit .all)) (.ln 7 (.fork (.lit .all) (.ln 5 (.fork .all .all))))))
noncomputable def tiR4_t(s:List UInt8)(a:Int):Tree Stop:= .node (decide (a<0)) (.leaf (.done (.tuple [.int .i64 0,.int .i64 0,.int .i64 1]))) (.node (decide (a> (↑s.length:Int))) (.leaf (.done (.tuple [.int .i64 0,.int .i64 0,.int .i64 1]))) (.node (decide (i64.wrap ((↑s.length:Int)-a)<4)) (.leaf (.done (.tuple [.int .i64 0,.int .i64 0,.int .i64 6]))) (.req (decide (0≤i64.wrap (a+4))&&decide (i64.wrap (a+4)≤(↑s.length:Int))&&decide (0≤a)&&decide (a≤i64.wrap (a+4))) (.req (decide ((↑(List.drop a.toNat (List.take (i64.wrap (a+4)).toNat s)).length:Int)≤100000)) (.req (decide (0< (↑(List.drop a.toNat (List.take (i64.wrap (a+4)).toNat s)).length:Int))) (.node (decide ((↑((List.drop a.toNat (List.take (i64.wrap (a+4)).toNat s)).getD 0 0).toNat:Int)≥128)) (.req true (.leaf (.done (.tuple [.int .i64 (i64.wrap (i64.wrap (numW 0 (List.drop a.toNat (List.take (i64.wrap (a+4)).toNat s)))-4294967296)),.int .i64 (i64.wrap (a+4)),.int .i64 0])))) (.leaf (.done (.tuple [.int .i64 (i64.wrap (numW 0 (List.drop a.toNat (List.take (i64.wrap (a+4)).toNat s)))),.int .i64 (i64.wrap (a+4)),.int .i64 0])))))))))
theorem tiR4(s:List UInt8)(a:Int):segR (Env.of Tryz.prog (sumOf [fNum])) 1000 (fnOf Tryz.prog 322) .unit (keepS 46 []) (codeS Tryz.prog 322) tiR4_p (startS Tryz.prog 322 [.str s,I64 a,I64 4]) [] =tiR4_t s a:=by kernel_rfl
def padR_p:Plan:=.fork (.lit (.lit (.lit .all))) (.lit (.lit (.fork .all (.fork .all .all))))
noncomputable def padR_t(s:List UInt8)(n:Int):Tree Stop:= .node (decide (n<0)) (.leaf (.done (.tuple [SV.str [],.int .i64 1]))) (.node (decide (n>65536)) (.leaf (.done (.tuple [SV.str [],.int .i64 1]))) (.node (decide ((↑s.length:Int)>n)) (.leaf (.done (.tuple [SV.str [],.int .i64 2]))) (.req (decide (0≤i64.wrap (n-(↑s.length:Int)))&&i64.wrap (n-(↑s.length:Int))==i64.wrap (n-(↑s.length:Int))&&decide (1*i64.wrap (n-(↑s.length:Int))≤140737488355328)&&decide (i64.wrap (n-(↑s.length:Int))≤(9223372036854775807:Int))) (.req (decide (((s.length+(List.map (fun n=>UInt8.ofNat (Int.toNat n)) (List.replicate (i64.wrap (n-(↑s.length:Int))).toNat (0:Int))).length:Nat):Int)≤(9223372036854775807:Int))) (.leaf (.done (.tuple [SV.str (s++List.map (fun n=>UInt8.ofNat (Int.toNat n)) (List.replicate (i64.wrap (n-(↑s.length:Int))).toNat (0:Int))),.int .i64 0])))))))
theorem padR(s:List UInt8)(n:Int):segR (Env.of Tryz.prog (sumOf [])) 1000 (fnOf Tryz.prog 253) .unit (keepS 24 []) (codeS Tryz.prog 253) padR_p (startS Tryz.prog 253 [.str s,I64 n]) [] =padR_t s n:=by kernel_rfl
theorem u8_def(x:Int):IntKind.u8.wrap x=x % 256:=by
 have h2:IntKind.wrap .u8 x=if false&&decide (x % 256≥128)then x % 256-256 else x % 256:=rfl
 rw[h2];simp
theorem u64_df(x:Int):u64.wrap x=x % 18446744073709551616:=by
 have h2:IntKind.wrap .u64 x=if false&&decide (x % 18446744073709551616≥9223372036854775808)then x % 18446744073709551616-18446744073709551616 else x % 18446744073709551616:=rfl
 rw[h2];simp
theorem u64_id{x:Int}(h0:0≤x)(h1:x<18446744073709551616):u64.wrap x=x:=by rw[u64_df];omega
theorem fdN{x k:Int}(hk:0≤k):x.fdiv k=x / k:=Int.fdiv_eq_ediv_of_nonneg x hk
def beN(n:Int):Nat→List UInt8
 |0=>[]
 |w+1=>UInt8.ofNat (n / 256 ^ w % 256).toNat::beN n w
theorem beN_len(n:Int):∀w,(beN n w).length=w
 |0=>rfl
 |w+1=>congrArg (· +1) (beN_len n w)
theorem bq(n:Int){k:Int}(hk:0≤k)(h0:0≤n)(h1:n<18446744073709551616):IntKind.u8.wrap ((u64.wrap n).fdiv k)=n / k % 256:=by rw[u8_def,u64_id h0 h1,fdN hk]
theorem tmN{x:Int}(hx:0≤x):x.tmod 256=x % 256:=Int.tmod_eq_emod_of_nonneg hx
theorem tdN{x:Int}(hx:0≤x):x.tdiv 256=x / 256:=Int.tdiv_eq_ediv_of_nonneg hx
theorem wdN{x:Int}(h0:0≤x)(h1:x<18446744073709551616):u64.wrap (x.tdiv 256)=x / 256:=by rw[tdN h0,u64_df];omega
theorem w8N{x:Int}(h0:0≤x):IntKind.u8.wrap (x.tmod 256)=x % 256:=by rw[tmN h0,u8_def];omega
def tkN(s:List UInt8)(a:Nat):Nat→Int
 |0=>0
 |w+1=>tkN s a w*256+(s.getD (a+w) 0).toNat
def tk(s:List UInt8)(a w:Nat):Int:=match s with
 |[] =>tkN [] a w
 |b::l=>tkN (b::l) a w
theorem tk_eq(s:List UInt8)(a w:Nat):tk s a w=tkN s a w:=by cases s<;>rfl
theorem by_range(s:List UInt8)(i:Nat):(0:Int)≤((s.getD i 0).toNat:Int)∧((s.getD i 0).toNat:Int)<256:=by
 have:=(s.getD i 0).toNat_lt;omega
theorem or256{x b:Int}(h0:0≤x)(h1:x<72057594037927936)(b0:0≤b)(b1:b<256):u64.wrap (((BitVec.ofInt 64 (u64.wrap (x*256)) |||BitVec.ofInt 64 (u64.wrap b)).toNat:Nat):Int)=x*256+b:=by
 rw[u64_id (x:=x*256) (by omega) (by omega),u64_id b0 (by omega)]
 obtain⟨m,rfl⟩:=Int.eq_ofNat_of_zero_le h0
 obtain⟨k,rfl⟩:=Int.eq_ofNat_of_zero_le b0
 rw[BitVec.toNat_or,BitVec.toNat_ofInt,BitVec.toNat_ofInt]
 have e1:((m:Int)*256 % ((2:Nat) ^ 64:Nat)).toNat=m <<< 8:=by
  rw[Nat.shiftLeft_eq]
  have:((2 ^ 64:Nat):Int)=18446744073709551616:=rfl
  rw[this];omega
 have e2:((k:Int) % ((2:Nat) ^ 64:Nat)).toNat=k:=by
  have:((2 ^ 64:Nat):Int)=18446744073709551616:=rfl
  rw[this];omega
 rw[e1,e2,←Nat.shiftLeft_add_eq_or_of_lt (show k<2 ^ 8 by omega),Nat.shiftLeft_eq,u64_id (by omega) (by omega)]
 push_cast
 rfl
theorem orZ{b:Int}(b0:0≤b)(b1:b<256):u64.wrap (((BitVec.ofInt 64 0 |||BitVec.ofInt 64 (u64.wrap b)).toNat:Nat):Int)=b:=by
 have:=or256 (x:=0) (b:=b) (by omega) (by omega) b0 b1
 rw[show u64.wrap ((0:Int)*256)=0 from rfl]at this
 rw[this];omega
def sg(x:Int):Int:=if x<2147483648 then x else x-4294967296
theorem sg_shift{x:Int}(h0:0≤x)(h1:x<4294967296):(i64.wrap (u64.wrap (x*4294967296))).fdiv 4294967296=sg x:=by
 rw[fdN (by omega),u64_id (by omega) (by omega)]
 unfold sg
 split
 ·rw[w64 (by omega) (by omega)];omega
 ·have:i64.wrap (x*4294967296)=x*4294967296-18446744073709551616:=by
   unfold IntKind.wrap
   have e:(x*4294967296) % (2 ^ IntKind.i64.bits:Int)=x*4294967296:=Int.emod_eq_of_lt (by omega) (by show x*4294967296<18446744073709551616;omega)
   simp only[e]
   rw[if_pos (by simp[IntKind.signed,IntKind.bits];omega)]
   rfl
  rw[this];omega
theorem dropsN{s:List UInt8}{i:Nat}(hi:i<s.length):s.drop i=s.getD i 0::s.drop (i+1):=drop_getD hi
theorem nu_loop(s:List UInt8)(hs:s.length≤100000):∀ (n i:Nat) (u v:Int),i+n=s.length→v=numW u (s.drop i)→RunsR Tryz.prog (fnOf Tryz.prog 335) (.int .u64 v) (loopOf Tryz.prog 335 0) (slotsS 19 [(0,.str s),(3,.int .u64 u),(4,I64 i)]) []
 |n,i,u,v,hi,hv=>by
  refine runsR_seg k000 (n:=1000) (hint:=.unit) (keep:=keepS 19 [0,3,4]) (p:=nu1_p) rfl ?_
  erw [nu1 s u (i:Int)]
  unfold nu1_t
  have t0:(i:Int).toNat=i:=by omega
  have w1:i64.wrap ((i:Int)+1)=((i+1:Nat):Int):=by rw[w64 (by omega) (by omega)];omega
  rw[t0,w1]
  refine n_dec (fun a=>?_) fun a=>?_
  ·match n,hi with
   |0,hi=>omega
   |n+1,hi=>
    rw[dropsN (by omega:i<s.length)]at hv
    exact n_req (by simp;omega) ⟨slotsS_len _ _,nu_loop s hs n (i+1) _ v (by omega) hv⟩
  ·rw[List.drop_eq_nil_of_le (by omega)]at hv
   subst hv;rfl
theorem s_number(s:List UInt8)(hs:s.length≤100000):SCall Tryz.prog 335 [.str s] (.int .u64 (numW 0 s)):=by
 refine scallR_loops rfl rfl (by kernel_rfl) (runsR_seg k000 (n:=1000) (hint:=.unit) (keep:=keepS 19 [0,3,4]) (p:=nu0_p) (boxes:=[]) rfl ?_)
 have e:=nu0 s
 unfold startS codeS at e
 erw [e]
 exact⟨slotsS_len _ _,nu_loop s hs s.length 0 0 _ (by omega) rfl⟩
theorem o_num:fNum.ok Tryz.prog:=fun args t ht=>by
 simp only[fNum]at ht
 split at ht
 ·injection ht with ht;subst ht
  intro h
  exact s_number _ (by have:=of_decide_eq_true h;omega)
 ·cases ht
theorem kNum:Known Tryz.prog (Env.of Tryz.prog (sumOf [fNum])):=kW (l:=[fNum]) ⟨o_num,trivial⟩
theorem s_wu1(n:Int)(h0:0≤n)(h1:n<256):SCall Tryz.prog 298 [I64 n,I64 1] (.tuple [.str (beN n 1),I64 0]):=by
 refine scallR_loops rfl rfl (by kernel_rfl) (runsR_seg k000 (n:=1000) (hint:=.unit) (keep:=keepS 25 []) (p:=wu1_p) (boxes:=[]) rfl ?_)
 have e:=wu1 n
 unfold startS codeS at e
 erw [e]
 unfold wu1_t
 rw[bq n (k:=1) (by decide) h0 (by omega)]
 rw[u64_id h0 (by omega)]
 repeat' first
  |exact rfl
  |refine n_req rfl ?_
  |refine n_dec (fun h=>absurd h (by omega)) (fun _=>?_)
  |refine n_not (fun h=>absurd (of_decide_eq_false h) (by omega)) (fun _=>?_)
theorem s_wuR1(n:Int)(h0:0≤n)(h1:n<256):SCall Tryz.prog 279 [I64 n,I64 1] (.tuple [.str (beN n 1),I64 0]):=by
 refine scallR_loops rfl rfl (by kernel_rfl) (runsR_seg k000 (n:=1000) (hint:=.unit) (keep:=keepS 27 []) (p:=wuR1_p) (boxes:=[]) rfl ?_)
 have e:=wuR1 n
 unfold startS codeS at e
 erw [e]
 unfold wuR1_t
 rw[u64_id h0 (by omega)]
 have m0:IntKind.u8.wrap ((n).tmod 256)=n / 1 % 256:=by rw[w8N (by omega)];try omega
 rw[m0]
 repeat' first
  |exact rfl
  |refine n_req rfl ?_
  |refine n_dec (fun h=>absurd h (by omega)) (fun _=>?_)
  |refine n_not (fun h=>absurd (of_decide_eq_false h) (by omega)) (fun _=>?_)
theorem s_wu2(n:Int)(h0:0≤n)(h1:n<65536):SCall Tryz.prog 298 [I64 n,I64 2] (.tuple [.str (beN n 2),I64 0]):=by
 refine scallR_loops rfl rfl (by kernel_rfl) (runsR_seg k000 (n:=1000) (hint:=.unit) (keep:=keepS 25 []) (p:=wu2_p) (boxes:=[]) rfl ?_)
 have e:=wu2 n
 unfold startS codeS at e
 erw [e]
 unfold wu2_t
 rw[bq n (k:=256) (by decide) h0 (by omega),bq n (k:=1) (by decide) h0 (by omega)]
 rw[u64_id h0 (by omega)]
 repeat' first
  |exact rfl
  |refine n_req rfl ?_
  |refine n_dec (fun h=>absurd h (by omega)) (fun _=>?_)
  |refine n_not (fun h=>absurd (of_decide_eq_false h) (by omega)) (fun _=>?_)
theorem s_wuR2(n:Int)(h0:0≤n)(h1:n<65536):SCall Tryz.prog 279 [I64 n,I64 2] (.tuple [.str (beN n 2),I64 0]):=by
 refine scallR_loops rfl rfl (by kernel_rfl) (runsR_seg k000 (n:=1000) (hint:=.unit) (keep:=keepS 27 []) (p:=wuR2_p) (boxes:=[]) rfl ?_)
 have e:=wuR2 n
 unfold startS codeS at e
 erw [e]
 unfold wuR2_t
 rw[u64_id h0 (by omega)]
 have m0:IntKind.u8.wrap ((n).tmod 256)=n / 1 % 256:=by rw[w8N (by omega)];try omega
 rw[m0]
 have d1:u64.wrap ((n).tdiv 256)=n / 256:=by rw[wdN (by omega) (by omega)];try omega
 rw[d1]
 have m1:IntKind.u8.wrap ((n / 256).tmod 256)=n / 256 % 256:=by rw[w8N (by omega)];try omega
 rw[m1]
 repeat' first
  |exact rfl
  |refine n_req rfl ?_
  |refine n_dec (fun h=>absurd h (by omega)) (fun _=>?_)
  |refine n_not (fun h=>absurd (of_decide_eq_false h) (by omega)) (fun _=>?_)
theorem s_wu4(n:Int)(h0:0≤n)(h1:n<4294967296):SCall Tryz.prog 298 [I64 n,I64 4] (.tuple [.str (beN n 4),I64 0]):=by
 refine scallR_loops rfl rfl (by kernel_rfl) (runsR_seg k000 (n:=1000) (hint:=.unit) (keep:=keepS 25 []) (p:=wu4_p) (boxes:=[]) rfl ?_)
 have e:=wu4 n
 unfold startS codeS at e
 erw [e]
 unfold wu4_t
 rw[bq n (k:=16777216) (by decide) h0 (by omega),bq n (k:=65536) (by decide) h0 (by omega),bq n (k:=256) (by decide) h0 (by omega),bq n (k:=1) (by decide) h0 (by omega)]
 rw[u64_id h0 (by omega)]
 repeat' first
  |exact rfl
  |refine n_req rfl ?_
  |refine n_dec (fun h=>absurd h (by omega)) (fun _=>?_)
  |refine n_not (fun h=>absurd (of_decide_eq_false h) (by omega)) (fun _=>?_)
theorem s_wuR4(n:Int)(h0:0≤n)(h1:n<4294967296):SCall Tryz.prog 279 [I64 n,I64 4] (.tuple [.str (beN n 4),I64 0]):=by
 refine scallR_loops rfl rfl (by kernel_rfl) (runsR_seg k000 (n:=1000) (hint:=.unit) (keep:=keepS 27 []) (p:=wuR4_p) (boxes:=[]) rfl ?_)
 have e:=wuR4 n
 unfold startS codeS at e
 erw [e]
 unfold wuR4_t
 rw[u64_id h0 (by omega)]
 have m0:IntKind.u8.wrap ((n).tmod 256)=n / 1 % 256:=by rw[w8N (by omega)];try omega
 rw[m0]
 have d1:u64.wrap ((n).tdiv 256)=n / 256:=by rw[wdN (by omega) (by omega)];try omega
 rw[d1]
 have m1:IntKind.u8.wrap ((n / 256).tmod 256)=n / 256 % 256:=by rw[w8N (by omega)];try omega
 rw[m1]
 have d2:u64.wrap ((n / 256).tdiv 256)=n / 65536:=by rw[wdN (by omega) (by omega)];try omega
 rw[d2]
 have m2:IntKind.u8.wrap ((n / 65536).tmod 256)=n / 65536 % 256:=by rw[w8N (by omega)];try omega
 rw[m2]
 have d3:u64.wrap ((n / 65536).tdiv 256)=n / 16777216:=by rw[wdN (by omega) (by omega)];try omega
 rw[d3]
 have m3:IntKind.u8.wrap ((n / 16777216).tmod 256)=n / 16777216 % 256:=by rw[w8N (by omega)];try omega
 rw[m3]
 repeat' first
  |exact rfl
  |refine n_req rfl ?_
  |refine n_dec (fun h=>absurd h (by omega)) (fun _=>?_)
  |refine n_not (fun h=>absurd (of_decide_eq_false h) (by omega)) (fun _=>?_)
theorem s_wu6(n:Int)(h0:0≤n)(h1:n<281474976710656):SCall Tryz.prog 298 [I64 n,I64 6] (.tuple [.str (beN n 6),I64 0]):=by
 refine scallR_loops rfl rfl (by kernel_rfl) (runsR_seg k000 (n:=1000) (hint:=.unit) (keep:=keepS 25 []) (p:=wu6_p) (boxes:=[]) rfl ?_)
 have e:=wu6 n
 unfold startS codeS at e
 erw [e]
 unfold wu6_t
 rw[bq n (k:=1099511627776) (by decide) h0 (by omega),bq n (k:=4294967296) (by decide) h0 (by omega),bq n (k:=16777216) (by decide) h0 (by omega),bq n (k:=65536) (by decide) h0 (by omega),bq n (k:=256) (by decide) h0 (by omega),bq n (k:=1) (by decide) h0 (by omega)]
 rw[u64_id h0 (by omega)]
 repeat' first
  |exact rfl
  |refine n_req rfl ?_
  |refine n_dec (fun h=>absurd h (by omega)) (fun _=>?_)
  |refine n_not (fun h=>absurd (of_decide_eq_false h) (by omega)) (fun _=>?_)
theorem s_wuR6(n:Int)(h0:0≤n)(h1:n<281474976710656):SCall Tryz.prog 279 [I64 n,I64 6] (.tuple [.str (beN n 6),I64 0]):=by
 refine scallR_loops rfl rfl (by kernel_rfl) (runsR_seg k000 (n:=1000) (hint:=.unit) (keep:=keepS 27 []) (p:=wuR6_p) (boxes:=[]) rfl ?_)
 have e:=wuR6 n
 unfold startS codeS at e
 erw [e]
 unfold wuR6_t
 rw[u64_id h0 (by omega)]
 have m0:IntKind.u8.wrap ((n).tmod 256)=n / 1 % 256:=by rw[w8N (by omega)];try omega
 rw[m0]
 have d1:u64.wrap ((n).tdiv 256)=n / 256:=by rw[wdN (by omega) (by omega)];try omega
 rw[d1]
 have m1:IntKind.u8.wrap ((n / 256).tmod 256)=n / 256 % 256:=by rw[w8N (by omega)];try omega
 rw[m1]
 have d2:u64.wrap ((n / 256).tdiv 256)=n / 65536:=by rw[wdN (by omega) (by omega)];try omega
 rw[d2]
 have m2:IntKind.u8.wrap ((n / 65536).tmod 256)=n / 65536 % 256:=by rw[w8N (by omega)];try omega
 rw[m2]
 have d3:u64.wrap ((n / 65536).tdiv 256)=n / 16777216:=by rw[wdN (by omega) (by omega)];try omega
 rw[d3]
 have m3:IntKind.u8.wrap ((n / 16777216).tmod 256)=n / 16777216 % 256:=by rw[w8N (by omega)];try omega
 rw[m3]
 have d4:u64.wrap ((n / 16777216).tdiv 256)=n / 4294967296:=by rw[wdN (by omega) (by omega)];try omega
 rw[d4]
 have m4:IntKind.u8.wrap ((n / 4294967296).tmod 256)=n / 4294967296 % 256:=by rw[w8N (by omega)];try omega
 rw[m4]
 have d5:u64.wrap ((n / 4294967296).tdiv 256)=n / 1099511627776:=by rw[wdN (by omega) (by omega)];try omega
 rw[d5]
 have m5:IntKind.u8.wrap ((n / 1099511627776).tmod 256)=n / 1099511627776 % 256:=by rw[w8N (by omega)];try omega
 rw[m5]
 repeat' first
  |exact rfl
  |refine n_req rfl ?_
  |refine n_dec (fun h=>absurd h (by omega)) (fun _=>?_)
  |refine n_not (fun h=>absurd (of_decide_eq_false h) (by omega)) (fun _=>?_)
end Go.Proofs.YtnkaepnblikcdaaGreat
set_option maxHeartbeats 4000000
namespace Go.Proofs.YtnkaepnblikcdaaGreat
open Go.Sx
theorem ixB{i n:Nat}(h:i<n):(decide (0≤((i:Nat):Int))&&decide (((i:Nat):Int)< ((n:Nat):Int)))=true:=by simp;omega
theorem i64x{x:Int}(h0: -9000000000000000000≤x)(h1:x≤9000000000000000000):i64.wrap x=x:=w64 (by omega) (by omega)
theorem s_wi4(n:Int)(h0: -2147483648≤n)(h1:n<2147483648):SCall Tryz.prog 299 [I64 n,I64 4] (.tuple [.str (beN n 4),I64 0]):=by
 refine scallR_loops rfl rfl (by kernel_rfl) (runsR_seg k000 (n:=1000) (hint:=.unit) (keep:=keepS 32 []) (p:=wi4_p) (boxes:=[]) rfl ?_)
 have e:=wi4 n
 unfold startS codeS at e
 erw [e]
 unfold wi4_t
 have q3:IntKind.u8.wrap ((u64.wrap n).fdiv 16777216)=n / 16777216 % 256:=by rw[u8_def,u64_df,fdN (by omega)];omega
 have q2:IntKind.u8.wrap ((u64.wrap n).fdiv 65536)=n / 65536 % 256:=by rw[u8_def,u64_df,fdN (by omega)];omega
 have q1:IntKind.u8.wrap ((u64.wrap n).fdiv 256)=n / 256 % 256:=by rw[u8_def,u64_df,fdN (by omega)];omega
 have q0:IntKind.u8.wrap ((u64.wrap n).fdiv 1)=n / 1 % 256:=by rw[u8_def,u64_df,fdN (by omega)];omega
 rw[q3,q2,q1,q0]
 repeat' first
  |exact rfl
  |refine n_req rfl ?_
  |refine n_dec (fun h=>absurd h (by omega)) (fun _=>?_)
  |refine n_not (fun h=>absurd (of_decide_eq_false h) (by omega)) (fun _=>?_)
theorem s_wiR4(n:Int)(h0: -2147483648≤n)(h1:n<2147483648):SCall Tryz.prog 280 [I64 n,I64 4] (.tuple [.str (beN n 4),I64 0]):=by
 refine scallR_loops rfl rfl (by kernel_rfl) (runsR_seg k000 (n:=1000) (hint:=.unit) (keep:=keepS 34 []) (p:=wiR4_p) (boxes:=[]) rfl ?_)
 have e:=wiR4 n
 unfold startS codeS at e
 erw [e]
 unfold wiR4_t
 have hr:0≤u64.wrap n∧u64.wrap n<18446744073709551616:=by rw[u64_df];omega
 have hm:u64.wrap n=n % 18446744073709551616:=u64_df n
 generalize u64.wrap n=m at hr hm ⊢
 have d1:u64.wrap (m.tdiv 256)=m / 256:=by rw[wdN (by omega) (by omega)]
 have d2:u64.wrap ((m / 256).tdiv 256)=m / 65536:=by rw[wdN (by omega) (by omega)];omega
 have d3:u64.wrap ((m / 65536).tdiv 256)=m / 16777216:=by rw[wdN (by omega) (by omega)];omega
 have m0:IntKind.u8.wrap (m.tmod 256)=n / 1 % 256:=by rw[w8N (by omega)];omega
 have m1:IntKind.u8.wrap ((m / 256).tmod 256)=n / 256 % 256:=by rw[w8N (by omega)];omega
 have m2:IntKind.u8.wrap ((m / 65536).tmod 256)=n / 65536 % 256:=by rw[w8N (by omega)];omega
 have m3:IntKind.u8.wrap ((m / 16777216).tmod 256)=n / 16777216 % 256:=by rw[w8N (by omega)];omega
 rw[d1,d2,d3,m0,m1,m2,m3]
 repeat' first
  |exact rfl
  |refine n_req rfl ?_
  |refine n_dec (fun h=>absurd h (by omega)) (fun _=>?_)
  |refine n_not (fun h=>absurd (of_decide_eq_false h) (by omega)) (fun _=>?_)
theorem tkN_lt1(s:List UInt8)(a:Nat):0≤tkN s a 1∧tkN s a 1<256:=by
 have q0:=by_range s a
 simp only[tkN,Nat.add_zero]
 omega
theorem dk1{s:List UInt8}{a:Nat}(h:a+1≤s.length):List.drop a (List.take (a+1) s)=[s.getD a 0] :=by
 rw[List.drop_take,show a+1-a=1 by omega]
 rw[dropsN (show a<s.length by omega)]
 rfl
theorem nk1{s:List UInt8}{a:Nat}(h:a+1≤s.length):numW 0 (List.drop a (List.take (a+1) s))=tkN s a 1:=by
 have q0:=by_range s a
 rw[dk1 h]
 simp only[numW,u64_df,tkN,Nat.add_zero]
 omega
theorem tkN_lt4(s:List UInt8)(a:Nat):0≤tkN s a 4∧tkN s a 4<4294967296:=by
 have q0:=by_range s a
 have q1:=by_range s (a+1)
 have q2:=by_range s (a+2)
 have q3:=by_range s (a+3)
 simp only[tkN,Nat.add_zero]
 omega
theorem dk4{s:List UInt8}{a:Nat}(h:a+4≤s.length):List.drop a (List.take (a+4) s)=[s.getD a 0,s.getD (a+1) 0,s.getD (a+2) 0,s.getD (a+3) 0] :=by
 rw[List.drop_take,show a+4-a=4 by omega]
 rw[dropsN (show a<s.length by omega),dropsN (show a+1<s.length by omega),dropsN (show a+1+1<s.length by omega),dropsN (show a+1+1+1<s.length by omega)]
 rfl
theorem nk4{s:List UInt8}{a:Nat}(h:a+4≤s.length):numW 0 (List.drop a (List.take (a+4) s))=tkN s a 4:=by
 have q0:=by_range s a
 have q1:=by_range s (a+1)
 have q2:=by_range s (a+2)
 have q3:=by_range s (a+3)
 rw[dk4 h]
 simp only[numW,u64_df,tkN,Nat.add_zero]
 omega
theorem tkN_lt6(s:List UInt8)(a:Nat):0≤tkN s a 6∧tkN s a 6<281474976710656:=by
 have q0:=by_range s a
 have q1:=by_range s (a+1)
 have q2:=by_range s (a+2)
 have q3:=by_range s (a+3)
 have q4:=by_range s (a+4)
 have q5:=by_range s (a+5)
 simp only[tkN,Nat.add_zero]
 omega
theorem dk6{s:List UInt8}{a:Nat}(h:a+6≤s.length):List.drop a (List.take (a+6) s)=[s.getD a 0,s.getD (a+1) 0,s.getD (a+2) 0,s.getD (a+3) 0,s.getD (a+4) 0,s.getD (a+5) 0] :=by
 rw[List.drop_take,show a+6-a=6 by omega]
 rw[dropsN (show a<s.length by omega),dropsN (show a+1<s.length by omega),dropsN (show a+1+1<s.length by omega),dropsN (show a+1+1+1<s.length by omega),dropsN (show a+1+1+1+1<s.length by omega),dropsN (show a+1+1+1+1+1<s.length by omega)]
 rfl
theorem nk6{s:List UInt8}{a:Nat}(h:a+6≤s.length):numW 0 (List.drop a (List.take (a+6) s))=tkN s a 6:=by
 have q0:=by_range s a
 have q1:=by_range s (a+1)
 have q2:=by_range s (a+2)
 have q3:=by_range s (a+3)
 have q4:=by_range s (a+4)
 have q5:=by_range s (a+5)
 rw[dk6 h]
 simp only[numW,u64_df,tkN,Nat.add_zero]
 omega
theorem tkP1_eq(s:List UInt8)(a:Nat)(h:a≤100000):tkP1 s (a:Int)=tkN s a 1:=by
 have q0:=by_range s (a+0)
 have k0:(i64.wrap ((a:Int)+0)).toNat=a+0:=by rw[i64x (by omega) (by omega)];omega
 unfold tkP1
 rw[k0]
 rw[orZ q0.1 q0.2]
 have p0:tkN s a 1=((s.getD (a+0) 0).toNat:Int):=by simp only[tkN,Int.zero_mul,Int.zero_add]
 have l0:0≤tkN s a 1∧tkN s a 1<256:=by rw[p0];exact q0
 rw[←p0]
theorem tkP4_eq(s:List UInt8)(a:Nat)(h:a≤100000):tkP4 s (a:Int)=tkN s a 4:=by
 have q0:=by_range s (a+0)
 have k0:(i64.wrap ((a:Int)+0)).toNat=a+0:=by rw[i64x (by omega) (by omega)];omega
 have q1:=by_range s (a+1)
 have k1:(i64.wrap ((a:Int)+1)).toNat=a+1:=by rw[i64x (by omega) (by omega)];omega
 have q2:=by_range s (a+2)
 have k2:(i64.wrap ((a:Int)+2)).toNat=a+2:=by rw[i64x (by omega) (by omega)];omega
 have q3:=by_range s (a+3)
 have k3:(i64.wrap ((a:Int)+3)).toNat=a+3:=by rw[i64x (by omega) (by omega)];omega
 unfold tkP4
 rw[k0,k1,k2,k3]
 rw[orZ q0.1 q0.2]
 have p0:tkN s a 1=((s.getD (a+0) 0).toNat:Int):=by simp only[tkN,Int.zero_mul,Int.zero_add]
 have l0:0≤tkN s a 1∧tkN s a 1<256:=by rw[p0];exact q0
 rw[←p0]
 rw[or256 (x:=tkN s a 1) (b:=((s.getD (a+1) 0).toNat:Int)) (by omega) (by omega) q1.1 q1.2]
 have p1:tkN s a 2=tkN s a 1*256+((s.getD (a+1) 0).toNat:Int):=rfl
 have l1:0≤tkN s a 2∧tkN s a 2<65536:=by omega
 rw[←p1]
 rw[or256 (x:=tkN s a 2) (b:=((s.getD (a+2) 0).toNat:Int)) (by omega) (by omega) q2.1 q2.2]
 have p2:tkN s a 3=tkN s a 2*256+((s.getD (a+2) 0).toNat:Int):=rfl
 have l2:0≤tkN s a 3∧tkN s a 3<16777216:=by omega
 rw[←p2]
 rw[or256 (x:=tkN s a 3) (b:=((s.getD (a+3) 0).toNat:Int)) (by omega) (by omega) q3.1 q3.2]
 have p3:tkN s a 4=tkN s a 3*256+((s.getD (a+3) 0).toNat:Int):=rfl
 have l3:0≤tkN s a 4∧tkN s a 4<4294967296:=by omega
 rw[←p3]
theorem tkP6_eq(s:List UInt8)(a:Nat)(h:a≤100000):tkP6 s (a:Int)=tkN s a 6:=by
 have q0:=by_range s (a+0)
 have k0:(i64.wrap ((a:Int)+0)).toNat=a+0:=by rw[i64x (by omega) (by omega)];omega
 have q1:=by_range s (a+1)
 have k1:(i64.wrap ((a:Int)+1)).toNat=a+1:=by rw[i64x (by omega) (by omega)];omega
 have q2:=by_range s (a+2)
 have k2:(i64.wrap ((a:Int)+2)).toNat=a+2:=by rw[i64x (by omega) (by omega)];omega
 have q3:=by_range s (a+3)
 have k3:(i64.wrap ((a:Int)+3)).toNat=a+3:=by rw[i64x (by omega) (by omega)];omega
 have q4:=by_range s (a+4)
 have k4:(i64.wrap ((a:Int)+4)).toNat=a+4:=by rw[i64x (by omega) (by omega)];omega
 have q5:=by_range s (a+5)
 have k5:(i64.wrap ((a:Int)+5)).toNat=a+5:=by rw[i64x (by omega) (by omega)];omega
 unfold tkP6
 rw[k0,k1,k2,k3,k4,k5]
 rw[orZ q0.1 q0.2]
 have p0:tkN s a 1=((s.getD (a+0) 0).toNat:Int):=by simp only[tkN,Int.zero_mul,Int.zero_add]
 have l0:0≤tkN s a 1∧tkN s a 1<256:=by rw[p0];exact q0
 rw[←p0]
 rw[or256 (x:=tkN s a 1) (b:=((s.getD (a+1) 0).toNat:Int)) (by omega) (by omega) q1.1 q1.2]
 have p1:tkN s a 2=tkN s a 1*256+((s.getD (a+1) 0).toNat:Int):=rfl
 have l1:0≤tkN s a 2∧tkN s a 2<65536:=by omega
 rw[←p1]
 rw[or256 (x:=tkN s a 2) (b:=((s.getD (a+2) 0).toNat:Int)) (by omega) (by omega) q2.1 q2.2]
 have p2:tkN s a 3=tkN s a 2*256+((s.getD (a+2) 0).toNat:Int):=rfl
 have l2:0≤tkN s a 3∧tkN s a 3<16777216:=by omega
 rw[←p2]
 rw[or256 (x:=tkN s a 3) (b:=((s.getD (a+3) 0).toNat:Int)) (by omega) (by omega) q3.1 q3.2]
 have p3:tkN s a 4=tkN s a 3*256+((s.getD (a+3) 0).toNat:Int):=rfl
 have l3:0≤tkN s a 4∧tkN s a 4<4294967296:=by omega
 rw[←p3]
 rw[or256 (x:=tkN s a 4) (b:=((s.getD (a+4) 0).toNat:Int)) (by omega) (by omega) q4.1 q4.2]
 have p4:tkN s a 5=tkN s a 4*256+((s.getD (a+4) 0).toNat:Int):=rfl
 have l4:0≤tkN s a 5∧tkN s a 5<1099511627776:=by omega
 rw[←p4]
 rw[or256 (x:=tkN s a 5) (b:=((s.getD (a+5) 0).toNat:Int)) (by omega) (by omega) q5.1 q5.2]
 have p5:tkN s a 6=tkN s a 5*256+((s.getD (a+5) 0).toNat:Int):=rfl
 have l5:0≤tkN s a 6∧tkN s a 6<281474976710656:=by omega
 rw[←p5]
theorem s_tw1(s:List UInt8)(a:Nat)(h:a+1≤s.length)(hs:s.length≤100000):SCall Tryz.prog 282 [.str s,I64 (a:Int),I64 1] (.tuple [I64 (tk s a 1),I64 ((a+1:Nat):Int),I64 0]):=by
 refine scallR_loops rfl rfl (by kernel_rfl) (runsR_seg k000 (n:=1000) (hint:=.unit) (keep:=keepS 30 []) (p:=tw1_p) (boxes:=[]) rfl ?_)
 have e:=tw1 s (a:Int)
 unfold startS codeS at e
 erw [e]
 unfold tw1_t
 have n0:((a:Int)).toNat=a:=by omega
 have jw:i64.wrap ((a:Int)+1)=((a+1:Nat):Int):=by rw[i64x (by omega) (by omega)];omega
 have jl:i64.wrap ((s.length:Int)-(a:Int))=(s.length:Int)-(a:Int):=i64x (by omega) (by omega)
 have tl:=tkN_lt1 s a
 rw[tk_eq]
 have j0:i64.wrap ((a:Int)+0)=((a+0:Nat):Int):=by rw[i64x (by omega) (by omega)];omega
 have k0:((a+0:Nat):Int).toNat=a+0:=by omega
 have q0:=by_range s (a+0)
 rw[tkP1_eq s a (by omega)]
 rw[j0,jw,jl]
 rw[i64x (x:=tkN s a 1) (by omega) (by omega)]
 exact n_dec (fun h=>absurd h (by omega)) fun _=>n_dec (fun h=>absurd h (by omega)) fun _=>n_dec (fun h=>absurd h (by omega)) fun _=>n_req rfl (n_req (ixB (by omega)) (n_dec (fun h=>absurd h (by omega)) fun _=>rfl))
theorem s_twR1(s:List UInt8)(a:Nat)(h:a+1≤s.length)(hs:s.length≤100000):SCall Tryz.prog 321 [.str s,I64 (a:Int),I64 1] (.tuple [I64 (tk s a 1),I64 ((a+1:Nat):Int),I64 0]):=by
 refine scallR_loops rfl rfl (by kernel_rfl) (runsR_seg kNum (n:=1000) (hint:=.unit) (keep:=keepS 31 []) (p:=twR1_p) (boxes:=[]) rfl ?_)
 have e:=twR1 s (a:Int)
 unfold startS codeS at e
 erw [e]
 unfold twR1_t
 have n0:((a:Int)).toNat=a:=by omega
 have jw:i64.wrap ((a:Int)+1)=((a+1:Nat):Int):=by rw[i64x (by omega) (by omega)];omega
 have jl:i64.wrap ((s.length:Int)-(a:Int))=(s.length:Int)-(a:Int):=i64x (by omega) (by omega)
 have tl:=tkN_lt1 s a
 rw[tk_eq]
 rw[jw,jl,n0,show((a+1:Nat):Int).toNat=a+1 by omega,nk1 h]
 rw[i64x (x:=tkN s a 1) (by omega) (by omega)]
 exact n_dec (fun h=>absurd h (by omega)) fun _=>n_dec (fun h=>absurd h (by omega)) fun _=>n_dec (fun h=>absurd h (by omega)) fun _=>n_req (by simp<;>omega) (n_req (decide_eq_true (by rw[dk1 h];simp)) (n_dec (fun h=>absurd h (by omega)) fun _=>rfl))
theorem s_tw6(s:List UInt8)(a:Nat)(h:a+6≤s.length)(hs:s.length≤100000):SCall Tryz.prog 282 [.str s,I64 (a:Int),I64 6] (.tuple [I64 (tk s a 6),I64 ((a+6:Nat):Int),I64 0]):=by
 refine scallR_loops rfl rfl (by kernel_rfl) (runsR_seg k000 (n:=1000) (hint:=.unit) (keep:=keepS 30 []) (p:=tw6_p) (boxes:=[]) rfl ?_)
 have e:=tw6 s (a:Int)
 unfold startS codeS at e
 erw [e]
 unfold tw6_t
 have n0:((a:Int)).toNat=a:=by omega
 have jw:i64.wrap ((a:Int)+6)=((a+6:Nat):Int):=by rw[i64x (by omega) (by omega)];omega
 have jl:i64.wrap ((s.length:Int)-(a:Int))=(s.length:Int)-(a:Int):=i64x (by omega) (by omega)
 have tl:=tkN_lt6 s a
 rw[tk_eq]
 have j0:i64.wrap ((a:Int)+0)=((a+0:Nat):Int):=by rw[i64x (by omega) (by omega)];omega
 have k0:((a+0:Nat):Int).toNat=a+0:=by omega
 have q0:=by_range s (a+0)
 have j1:i64.wrap ((a:Int)+1)=((a+1:Nat):Int):=by rw[i64x (by omega) (by omega)];omega
 have k1:((a+1:Nat):Int).toNat=a+1:=by omega
 have q1:=by_range s (a+1)
 have j2:i64.wrap ((a:Int)+2)=((a+2:Nat):Int):=by rw[i64x (by omega) (by omega)];omega
 have k2:((a+2:Nat):Int).toNat=a+2:=by omega
 have q2:=by_range s (a+2)
 have j3:i64.wrap ((a:Int)+3)=((a+3:Nat):Int):=by rw[i64x (by omega) (by omega)];omega
 have k3:((a+3:Nat):Int).toNat=a+3:=by omega
 have q3:=by_range s (a+3)
 have j4:i64.wrap ((a:Int)+4)=((a+4:Nat):Int):=by rw[i64x (by omega) (by omega)];omega
 have k4:((a+4:Nat):Int).toNat=a+4:=by omega
 have q4:=by_range s (a+4)
 have j5:i64.wrap ((a:Int)+5)=((a+5:Nat):Int):=by rw[i64x (by omega) (by omega)];omega
 have k5:((a+5:Nat):Int).toNat=a+5:=by omega
 have q5:=by_range s (a+5)
 rw[tkP6_eq s a (by omega)]
 rw[j0,j1,j2,j3,j4,j5,jw,jl]
 rw[i64x (x:=tkN s a 6) (by omega) (by omega)]
 exact n_dec (fun h=>absurd h (by omega)) fun _=>n_dec (fun h=>absurd h (by omega)) fun _=>n_dec (fun h=>absurd h (by omega)) fun _=>n_req rfl (n_req (ixB (by omega)) (n_req rfl (n_req (ixB (by omega)) (n_req rfl (n_req (ixB (by omega)) (n_req rfl (n_req (ixB (by omega)) (n_req rfl (n_req (ixB (by omega)) (n_req rfl (n_req (ixB (by omega)) (n_dec (fun h=>absurd h (by omega)) fun _=>rfl))))))))))))
theorem s_twR6(s:List UInt8)(a:Nat)(h:a+6≤s.length)(hs:s.length≤100000):SCall Tryz.prog 321 [.str s,I64 (a:Int),I64 6] (.tuple [I64 (tk s a 6),I64 ((a+6:Nat):Int),I64 0]):=by
 refine scallR_loops rfl rfl (by kernel_rfl) (runsR_seg kNum (n:=1000) (hint:=.unit) (keep:=keepS 31 []) (p:=twR6_p) (boxes:=[]) rfl ?_)
 have e:=twR6 s (a:Int)
 unfold startS codeS at e
 erw [e]
 unfold twR6_t
 have n0:((a:Int)).toNat=a:=by omega
 have jw:i64.wrap ((a:Int)+6)=((a+6:Nat):Int):=by rw[i64x (by omega) (by omega)];omega
 have jl:i64.wrap ((s.length:Int)-(a:Int))=(s.length:Int)-(a:Int):=i64x (by omega) (by omega)
 have tl:=tkN_lt6 s a
 rw[tk_eq]
 rw[jw,jl,n0,show((a+6:Nat):Int).toNat=a+6 by omega,nk6 h]
 rw[i64x (x:=tkN s a 6) (by omega) (by omega)]
 exact n_dec (fun h=>absurd h (by omega)) fun _=>n_dec (fun h=>absurd h (by omega)) fun _=>n_dec (fun h=>absurd h (by omega)) fun _=>n_req (by simp<;>omega) (n_req (decide_eq_true (by rw[dk6 h];simp)) (n_dec (fun h=>absurd h (by omega)) fun _=>rfl))
theorem s_tw4(s:List UInt8)(a:Nat)(h:a+4≤s.length)(hs:s.length≤100000):SCall Tryz.prog 282 [.str s,I64 (a:Int),I64 4] (.tuple [I64 (tk s a 4),I64 ((a+4:Nat):Int),I64 0]):=by
 refine scallR_loops rfl rfl (by kernel_rfl) (runsR_seg k000 (n:=1000) (hint:=.unit) (keep:=keepS 30 []) (p:=tw4_p) (boxes:=[]) rfl ?_)
 have e:=tw4 s (a:Int)
 unfold startS codeS at e
 erw [e]
 unfold tw4_t
 have n0:((a:Int)).toNat=a:=by omega
 have jw:i64.wrap ((a:Int)+4)=((a+4:Nat):Int):=by rw[i64x (by omega) (by omega)];omega
 have jl:i64.wrap ((s.length:Int)-(a:Int))=(s.length:Int)-(a:Int):=i64x (by omega) (by omega)
 have tl:=tkN_lt4 s a
 rw[tk_eq]
 have j0:i64.wrap ((a:Int)+0)=((a+0:Nat):Int):=by rw[i64x (by omega) (by omega)];omega
 have k0:((a+0:Nat):Int).toNat=a+0:=by omega
 have q0:=by_range s (a+0)
 have j1:i64.wrap ((a:Int)+1)=((a+1:Nat):Int):=by rw[i64x (by omega) (by omega)];omega
 have k1:((a+1:Nat):Int).toNat=a+1:=by omega
 have q1:=by_range s (a+1)
 have j2:i64.wrap ((a:Int)+2)=((a+2:Nat):Int):=by rw[i64x (by omega) (by omega)];omega
 have k2:((a+2:Nat):Int).toNat=a+2:=by omega
 have q2:=by_range s (a+2)
 have j3:i64.wrap ((a:Int)+3)=((a+3:Nat):Int):=by rw[i64x (by omega) (by omega)];omega
 have k3:((a+3:Nat):Int).toNat=a+3:=by omega
 have q3:=by_range s (a+3)
 rw[tkP4_eq s a (by omega)]
 rw[j0,j1,j2,j3,jw,jl]
 rw[i64x (x:=tkN s a 4) (by omega) (by omega)]
 exact n_dec (fun h=>absurd h (by omega)) fun _=>n_dec (fun h=>absurd h (by omega)) fun _=>n_dec (fun h=>absurd h (by omega)) fun _=>n_req rfl (n_req (ixB (by omega)) (n_req rfl (n_req (ixB (by omega)) (n_req rfl (n_req (ixB (by omega)) (n_req rfl (n_req (ixB (by omega)) (n_dec (fun h=>absurd h (by omega)) fun _=>rfl))))))))
theorem s_twR4(s:List UInt8)(a:Nat)(h:a+4≤s.length)(hs:s.length≤100000):SCall Tryz.prog 321 [.str s,I64 (a:Int),I64 4] (.tuple [I64 (tk s a 4),I64 ((a+4:Nat):Int),I64 0]):=by
 refine scallR_loops rfl rfl (by kernel_rfl) (runsR_seg kNum (n:=1000) (hint:=.unit) (keep:=keepS 31 []) (p:=twR4_p) (boxes:=[]) rfl ?_)
 have e:=twR4 s (a:Int)
 unfold startS codeS at e
 erw [e]
 unfold twR4_t
 have n0:((a:Int)).toNat=a:=by omega
 have jw:i64.wrap ((a:Int)+4)=((a+4:Nat):Int):=by rw[i64x (by omega) (by omega)];omega
 have jl:i64.wrap ((s.length:Int)-(a:Int))=(s.length:Int)-(a:Int):=i64x (by omega) (by omega)
 have tl:=tkN_lt4 s a
 rw[tk_eq]
 rw[jw,jl,n0,show((a+4:Nat):Int).toNat=a+4 by omega,nk4 h]
 rw[i64x (x:=tkN s a 4) (by omega) (by omega)]
 exact n_dec (fun h=>absurd h (by omega)) fun _=>n_dec (fun h=>absurd h (by omega)) fun _=>n_dec (fun h=>absurd h (by omega)) fun _=>n_req (by simp<;>omega) (n_req (decide_eq_true (by rw[dk4 h];simp)) (n_dec (fun h=>absurd h (by omega)) fun _=>rfl))
theorem s_ti4(s:List UInt8)(a:Nat)(h:a+4≤s.length)(hs:s.length≤100000):SCall Tryz.prog 284 [.str s,I64 (a:Int),I64 4] (.tuple [I64 (sg (tk s a 4)),I64 ((a+4:Nat):Int),I64 0]):=by
 refine scallR_loops rfl rfl (by kernel_rfl) (runsR_seg k000 (n:=1000) (hint:=.unit) (keep:=keepS 34 []) (p:=ti4_p) (boxes:=[]) rfl ?_)
 have e:=ti4 s (a:Int)
 unfold startS codeS at e
 erw [e]
 unfold ti4_t
 have n0:((a:Int)).toNat=a:=by omega
 have jw:i64.wrap ((a:Int)+4)=((a+4:Nat):Int):=by rw[i64x (by omega) (by omega)];omega
 have jl:i64.wrap ((s.length:Int)-(a:Int))=(s.length:Int)-(a:Int):=i64x (by omega) (by omega)
 have tl:=tkN_lt4 s a
 rw[tk_eq]
 have j0:i64.wrap ((a:Int)+0)=((a+0:Nat):Int):=by rw[i64x (by omega) (by omega)];omega
 have k0:((a+0:Nat):Int).toNat=a+0:=by omega
 have q0:=by_range s (a+0)
 have j1:i64.wrap ((a:Int)+1)=((a+1:Nat):Int):=by rw[i64x (by omega) (by omega)];omega
 have k1:((a+1:Nat):Int).toNat=a+1:=by omega
 have q1:=by_range s (a+1)
 have j2:i64.wrap ((a:Int)+2)=((a+2:Nat):Int):=by rw[i64x (by omega) (by omega)];omega
 have k2:((a+2:Nat):Int).toNat=a+2:=by omega
 have q2:=by_range s (a+2)
 have j3:i64.wrap ((a:Int)+3)=((a+3:Nat):Int):=by rw[i64x (by omega) (by omega)];omega
 have k3:((a+3:Nat):Int).toNat=a+3:=by omega
 have q3:=by_range s (a+3)
 rw[tkP4_eq s a (by omega)]
 rw[j0,j1,j2,j3,jw,jl]
 rw[sg_shift tl.1 tl.2]
 exact n_dec (fun h=>absurd h (by omega)) fun _=>n_dec (fun h=>absurd h (by omega)) fun _=>n_dec (fun h=>absurd h (by omega)) fun _=>n_req rfl (n_req (ixB (by omega)) (n_req rfl (n_req (ixB (by omega)) (n_req rfl (n_req (ixB (by omega)) (n_req rfl (n_req (ixB (by omega)) (n_req rfl (n_req rfl rfl)))))))))
theorem s_tiR4(s:List UInt8)(a:Nat)(h:a+4≤s.length)(hs:s.length≤100000):SCall Tryz.prog 322 [.str s,I64 (a:Int),I64 4] (.tuple [I64 (sg (tk s a 4)),I64 ((a+4:Nat):Int),I64 0]):=by
 refine scallR_loops rfl rfl (by kernel_rfl) (runsR_seg kNum (n:=1000) (hint:=.unit) (keep:=keepS 46 []) (p:=tiR4_p) (boxes:=[]) rfl ?_)
 have e:=tiR4 s (a:Int)
 unfold startS codeS at e
 erw [e]
 unfold tiR4_t
 have n0:((a:Int)).toNat=a:=by omega
 have jw:i64.wrap ((a:Int)+4)=((a+4:Nat):Int):=by rw[i64x (by omega) (by omega)];omega
 have jl:i64.wrap ((s.length:Int)-(a:Int))=(s.length:Int)-(a:Int):=i64x (by omega) (by omega)
 have tl:=tkN_lt4 s a
 rw[tk_eq]
 rw[jw,jl,n0,show((a+4:Nat):Int).toNat=a+4 by omega,nk4 h]
 rw[dk4 h,i64x (x:=tkN s a 4) (by omega) (by omega),i64x (x:=tkN s a 4-4294967296) (by omega) (by omega)]
 have q0:=by_range s a
 have q1:=by_range s (a+1)
 have q2:=by_range s (a+2)
 have q3:=by_range s (a+3)
 have hb:((s.getD a 0).toNat:Int)≥128↔¬tkN s a 4<2147483648:=by simp only[tkN,Nat.add_zero];omega
 refine n_dec (fun h=>absurd h (by omega)) (fun _=>n_dec (fun h=>absurd h (by omega)) (fun _=>n_dec (fun h=>absurd h (by omega)) (fun _=>?_)))
 refine n_req (by simp<;>omega) (n_req (decide_eq_true (by simp<;>omega)) (n_req (by simp) (n_dec (fun h=>?_) fun h=>?_)))
 ·have h:¬tkN s a 4<2147483648:=hb.1 h
  refine n_req rfl ?_
  rw[show sg (tkN s a 4)=tkN s a 4-4294967296 from if_neg h];rfl
 ·have h:tkN s a 4<2147483648:=by
   rcases Int.lt_or_le (tkN s a 4) 2147483648 with h'|h'
   ·exact h'
   ·exact absurd (hb.2 (by omega)) h
  rw[show sg (tkN s a 4)=tkN s a 4 from if_pos h];rfl
structure Rc where
 kind:Int
 seq:Int
 line:Int
 done:Int
 src:V4
 dst:V4
def Rc.cells(r:Rc):List SV:=[I64 r.kind,I64 r.seq,I64 r.line,I64 r.done,I64 r.src.1,I64 r.src.2.1,I64 r.src.2.2.1,I64 r.src.2.2.2,I64 r.dst.1,I64 r.dst.2.1,I64 r.dst.2.2.1,I64 r.dst.2.2.2]
def Rc.sv(r:Rc):SV:=.agg r.cells
def in32(c:V4):Bool:=inR c.1 (-2147483648) 2147483647&& (inR c.2.1 (-2147483648) 2147483647&& (inR c.2.2.1 (-2147483648) 2147483647&&inR c.2.2.2 (-2147483648) 2147483647))
def rcB(r:Rc):Bool:=inR r.kind 1 3&& (inR r.seq 1 1099511627776&& (inR r.line 0 1099511627776&& (inR r.done 0 16777216&& (in32 r.src&&in32 r.dst))))
theorem rcB_iff{r:Rc}:rcB r=true↔(1≤r.kind∧r.kind≤3)∧(1≤r.seq∧r.seq≤1099511627776)∧(0≤r.line∧r.line≤1099511627776)∧(0≤r.done∧r.done≤16777216)∧((-2147483648≤r.src.1∧r.src.1≤2147483647)∧(-2147483648≤r.src.2.1∧r.src.2.1≤2147483647)∧(-2147483648≤r.src.2.2.1∧r.src.2.2.1≤2147483647)∧-2147483648≤r.src.2.2.2∧r.src.2.2.2≤2147483647)∧(-2147483648≤r.dst.1∧r.dst.1≤2147483647)∧(-2147483648≤r.dst.2.1∧r.dst.2.1≤2147483647)∧(-2147483648≤r.dst.2.2.1∧r.dst.2.2.1≤2147483647)∧-2147483648≤r.dst.2.2.2∧r.dst.2.2.2≤2147483647:=by
 simp only[rcB,in32,Bool.and_eq_true,inR_iff]
theorem s_rcB(r:Rc):SCall Tryz.prog 296 [r.sv] (.bool (rcB r)):=
 scall_v mix [] trivial 1000 (.fork (.ln 27 (.lit .all)) (.ln 3 (.fork (.ln 23 (.lit .all)) (.ln 3 (.fork (.ln 19 (.lit .all)) (.ln 3 (.fork (.ln 15 (.lit .all)) (.ln 3 (.fork (.ln 11 (.lit .all)) (.ln 3 (.fork (.ln 7 (.lit .all)) (.ln 3 (.fork (.ln 3 (.lit .all)) (.ln 3 (.fork .all (.go (.lit (.go (.lit (.fork (.lit (.lit (.lit .all))) (.lit (.lit (.fork .all (.go (.lit (.fork (.lit (.lit (.lit .all))) (.lit (.lit (.fork .all (.go (.lit (.fork (.lit (.lit (.lit .all))) (.lit (.lit (.fork .all (.go (.lit (.fork (.lit (.lit (.lit .all))) (.lit (.lit (.fork .all (.go (.lit (.go (.lit (.go (.lit (.fork (.lit (.lit (.lit .all))) (.lit (.lit (.fork .all (.go (.lit (.fork (.lit (.lit (.lit .all))) (.lit (.lit (.fork .all (.go (.lit (.fork (.lit (.lit (.lit .all))) (.lit (.lit (.fork .all (.go (.lit (.fork (.lit (.lit (.lit .all))) (.lit (.lit (.fork .all (.go (.lit (.go (.lit .all)))))))))))))))))))))))))))))))))))))))))))))))))))))))))))))))))))))))))
  (t:=let y0:Tree SV:=.leaf (.bool false);.node (decide (r.kind<1)) y0 (.node (decide (r.kind>3)) y0 (.node (decide (r.seq<1)) y0 (.node (decide (r.seq>1099511627776)) y0 (.node (decide (r.line<0)) y0 (.node (decide (r.line>1099511627776)) y0 (.node (decide (r.done<0)) y0 (.node (decide (r.done>16777216)) y0 (.req true (.req (true) (.node (decide (r.src.1 < -2147483648)) y0 (.node (decide (r.src.1≥2147483648)) y0 (.req true (.node (decide (r.src.2.1 < -2147483648)) y0 (.node (decide (r.src.2.1≥2147483648)) y0 (.req true (.node (decide (r.src.2.2.1 < -2147483648)) y0 (.node (decide (r.src.2.2.1≥2147483648)) y0 (.req true (.node (decide (r.src.2.2.2 < -2147483648)) y0 (.node (decide (r.src.2.2.2≥2147483648)) y0 (.req true (.req (true) (.node (decide (r.dst.1 < -2147483648)) y0 (.node (decide (r.dst.1≥2147483648)) y0 (.req true (.node (decide (r.dst.2.1 < -2147483648)) y0 (.node (decide (r.dst.2.1≥2147483648)) y0 (.req true (.node (decide (r.dst.2.2.1 < -2147483648)) y0 (.node (decide (r.dst.2.2.1≥2147483648)) y0 (.req true (.node (decide (r.dst.2.2.2 < -2147483648)) y0 (.node (decide (r.dst.2.2.2≥2147483648)) y0 (.leaf (.bool true))))))))))))))))))))))))))))))))))))
  (by kernel_rfl) (by
   have q:∀b:Bool,(b=true↔rcB r=true)→SV.bool b=SV.bool (rcB r):=fun b h=>by rw[Bool.eq_iff_iff.2 h]
   repeat' first|refine n_dec (fun _=>?_) (fun _=>?_)|refine n_req rfl ?_|refine q _ ?_
   all_goals(rw[rcB_iff];simp only[decide_eq_true_eq,Bool.false_eq_true,false_iff,true_iff];omega)) (by kernel_rfl) (by kernel_rfl)
theorem s_rcBR(r:Rc):SCall Tryz.prog 250 [r.sv] (.bool (rcB r)):=
 scall_v mix [] trivial 1000 (.fork (.ln 3 (.fork (.ln 3 (.fork (.ln 3 (.fork (.ln 3 (.fork (.ln 3 (.fork (.ln 3 (.fork (.ln 3 (.fork (.lit (.lit (.go (.lit (.fork (.ln 9 (.lit .all)) (.ln 4 (.fork (.ln 4 (.lit .all)) (.go (.lit (.fork (.ln 9 (.lit .all)) (.ln 4 (.fork (.ln 4 (.lit .all)) (.go (.lit (.fork (.ln 9 (.lit .all)) (.ln 4 (.fork (.ln 4 (.lit .all)) (.go (.lit (.fork (.ln 9 (.lit .all)) (.ln 4 (.fork (.ln 4 (.lit .all)) (.go (.ln 5 (.go (.lit (.fork (.ln 5 (.lit .all)) (.ln 4 (.fork (.lit .all) (.go (.lit (.fork (.ln 5 (.lit .all)) (.ln 4 (.fork (.lit .all) (.go (.lit (.fork (.ln 5 (.lit .all)) (.ln 4 (.fork (.lit .all) (.go (.lit (.fork (.ln 5 (.lit .all)) (.ln 4 (.fork (.lit .all) (.go (.lit (.lit .all))))))))))))))))))))))))))))))))))))))))))))))) (.ln 6 (.lit .all)))) (.ln 10 (.lit .all)))) (.ln 14 (.lit .all)))) (.ln 18 (.lit .all)))) (.ln 22 (.lit .all)))) (.ln 26 (.lit .all)))) (.ln 30 (.lit .all)))) (.ln 34 (.lit .all)))
  (t:=let y0:Tree SV:=.leaf (.bool false);.node (decide (r.kind≥1)) (.node (decide (r.kind≤3)) (.node (decide (r.seq≥1)) (.node (decide (r.seq≤1099511627776)) (.node (decide (r.line≥0)) (.node (decide (r.line≤1099511627776)) (.node (decide (r.done≥0)) (.node (decide (r.done≤16777216)) (.req true (.node (decide (r.src.1 < -2147483648)) y0 (.req true (.node (decide (r.src.1≥2147483648)) y0 (.req true (.node (decide (r.src.2.1 < -2147483648)) y0 (.req true (.node (decide (r.src.2.1≥2147483648)) y0 (.req true (.node (decide (r.src.2.2.1 < -2147483648)) y0 (.req true (.node (decide (r.src.2.2.1≥2147483648)) y0 (.req true (.node (decide (r.src.2.2.2 < -2147483648)) y0 (.req true (.node (decide (r.src.2.2.2≥2147483648)) y0 (.req true (.node (decide (r.dst.1 < -2147483648)) y0 (.req true (.node (decide (r.dst.1≥2147483648)) y0 (.req true (.node (decide (r.dst.2.1 < -2147483648)) y0 (.req true (.node (decide (r.dst.2.1≥2147483648)) y0 (.req true (.node (decide (r.dst.2.2.1 < -2147483648)) y0 (.req true (.node (decide (r.dst.2.2.1≥2147483648)) y0 (.req true (.node (decide (r.dst.2.2.2 < -2147483648)) y0 (.req true (.node (decide (r.dst.2.2.2≥2147483648)) y0 (.leaf (.bool true)))))))))))))))))))))))))))))))))) y0) y0) y0) y0) y0) y0) y0) y0)
  (by kernel_rfl) (by
   have q:∀b:Bool,(b=true↔rcB r=true)→SV.bool b=SV.bool (rcB r):=fun b h=>by rw[Bool.eq_iff_iff.2 h]
   repeat' first|refine n_dec (fun _=>?_) (fun _=>?_)|refine n_req rfl ?_|refine q _ ?_
   all_goals(rw[rcB_iff];simp only[decide_eq_true_eq,Bool.false_eq_true,false_iff,true_iff];omega)) (by kernel_rfl) (by kernel_rfl)
def fCrcF(f:FuncId):Fact:=factS f fun s=>.req (decide (s.length≤100000)) (.leaf (I64 (crc s)))
def fCrc:Fact:=fCrcF 300
theorem o_crc:fCrc.ok Tryz.prog:=factS_ok fun s h=>s_crc s (by have:=of_decide_eq_true h;omega)
def fCrcR:Fact:=fCrcF 254
theorem o_crcR:fCrcR.ok Tryz.prog:=factS_ok fun s h=>s_crcR s (by have:=of_decide_eq_true h;omega)
def factRc(f:FuncId)(h:Rc→Tree SV):Fact:=⟨f,fun args=>match args with
 |[.agg [.int .i64 a,.int .i64 b,.int .i64 c,.int .i64 d,.int .i64 p0,.int .i64 p1,.int .i64 p2,.int .i64 p3,.int .i64 q0,.int .i64 q1,.int .i64 q2,.int .i64 q3]] =>some (h ⟨a,b,c,d,(p0,p1,p2,p3),(q0,q1,q2,q3)⟩)
 |_=>none⟩
theorem factRc_ok{P:Program}{f:FuncId}{h:Rc→Tree SV}(k:∀c,(h c).says (SCall P f [c.sv])):(factRc f h).ok P:=fun args t ht=>by
 simp only[factRc]at ht
 split at ht
 ·injection ht with ht;subst ht;exact k ⟨_,_,_,_,(_,_,_,_),(_,_,_,_)⟩
 ·cases ht
def fRcB:Fact:=factRc 296 fun r=>.leaf (.bool (rcB r))
theorem o_rcB:fRcB.ok Tryz.prog:=factRc_ok s_rcB
def fRcBR:Fact:=factRc 250 fun r=>.leaf (.bool (rcB r))
theorem o_rcBR:fRcBR.ok Tryz.prog:=factRc_ok s_rcBR
def fUiF(f:FuncId):Fact:=⟨f,fun args=>match args with
 |[.int .i64 n,.int .i64 k] =>match k==6 with
  |true=>some (.req (inR n 0 281474976710655) (.leaf (.tuple [.str (beN n 6),I64 0])))
  |false=>match k==1 with
   |true=>some (.req (inR n 0 255) (.leaf (.tuple [.str (beN n 1),I64 0])))
   |false=>match k==4 with
    |true=>some (.req (inR n 0 4294967295) (.leaf (.tuple [.str (beN n 4),I64 0])))
    |false=>match k==2 with
     |true=>some (.req (inR n 0 65535) (.leaf (.tuple [.str (beN n 2),I64 0])))
     |false=>none
 |_=>none⟩
def fIiF(f:FuncId):Fact:=⟨f,fun args=>match args with
 |[.int .i64 n,.int .i64 k] =>match k==4 with
  |true=>some (.req (inR n (-2147483648) 2147483647) (.leaf (.tuple [.str (beN n 4),I64 0])))
  |false=>none
 |_=>none⟩
def fTuF(f:FuncId):Fact:=⟨f,fun args=>match args with
 |[.str s,.int .i64 a,.int .i64 k] =>match k==6 with
  |true=>some (.req (decide (0≤a)&& (decide (a+6≤(s.length:Int))&&decide (s.length≤100000))) (.leaf (.tuple [I64 (tk s a.toNat 6),I64 (a+6),I64 0])))
  |false=>match k==1 with
   |true=>some (.req (decide (0≤a)&& (decide (a+1≤(s.length:Int))&&decide (s.length≤100000))) (.leaf (.tuple [I64 (tk s a.toNat 1),I64 (a+1),I64 0])))
   |false=>match k==4 with
    |true=>some (.req (decide (0≤a)&& (decide (a+4≤(s.length:Int))&&decide (s.length≤100000))) (.leaf (.tuple [I64 (tk s a.toNat 4),I64 (a+4),I64 0])))
    |false=>none
 |_=>none⟩
def fTiF(f:FuncId):Fact:=⟨f,fun args=>match args with
 |[.str s,.int .i64 a,.int .i64 k] =>match k==4 with
  |true=>some (.req (decide (0≤a)&& (decide (a+4≤(s.length:Int))&&decide (s.length≤100000))) (.leaf (.tuple [I64 (sg (tk s a.toNat 4)),I64 (a+4),I64 0])))
  |false=>none
 |_=>none⟩
theorem fUiF_ok{f:FuncId}(h6:∀n,0≤n→n<281474976710656→SCall Tryz.prog f [I64 n,I64 6] (.tuple [.str (beN n 6),I64 0]))(h1:∀n,0≤n→n<256→SCall Tryz.prog f [I64 n,I64 1] (.tuple [.str (beN n 1),I64 0]))(h4:∀n,0≤n→n<4294967296→SCall Tryz.prog f [I64 n,I64 4] (.tuple [.str (beN n 4),I64 0]))(h2:∀n,0≤n→n<65536→SCall Tryz.prog f [I64 n,I64 2] (.tuple [.str (beN n 2),I64 0])):(fUiF f).ok Tryz.prog:=fun args t ht=>by
 simp only[fUiF]at ht
 split at ht
 ·rename_i n k
  by_cases e6:k=6
  ·subst e6
   simp at ht;subst ht
   intro h
   exact h6 _ (inR_iff.1 h).1 (by have:=(inR_iff.1 h).2;omega)
  ·skip
   by_cases e1:k=1
   ·subst e1
    simp at ht;subst ht
    intro h
    exact h1 _ (inR_iff.1 h).1 (by have:=(inR_iff.1 h).2;omega)
   ·skip
    by_cases e4:k=4
    ·subst e4
     simp at ht;subst ht
     intro h
     exact h4 _ (inR_iff.1 h).1 (by have:=(inR_iff.1 h).2;omega)
    ·skip
     by_cases e2:k=2
     ·subst e2
      simp at ht;subst ht
      intro h
      exact h2 _ (inR_iff.1 h).1 (by have:=(inR_iff.1 h).2;omega)
     ·simp[show(k==6)=false from beq_eq_false_iff_ne.2 e6,show(k==1)=false from beq_eq_false_iff_ne.2 e1,show(k==4)=false from beq_eq_false_iff_ne.2 e4,show(k==2)=false from beq_eq_false_iff_ne.2 e2]at ht
 ·cases ht
theorem fIiF_ok{f:FuncId}(h4:∀n,-2147483648≤n→n<2147483648→SCall Tryz.prog f [I64 n,I64 4] (.tuple [.str (beN n 4),I64 0])):(fIiF f).ok Tryz.prog:=fun args t ht=>by
 simp only[fIiF]at ht
 split at ht
 ·rename_i n k
  by_cases e4:k=4
  ·subst e4
   simp at ht;subst ht
   intro h
   exact h4 _ (inR_iff.1 h).1 (by have:=(inR_iff.1 h).2;omega)
  ·simp[show(k==4)=false from beq_eq_false_iff_ne.2 e4]at ht
 ·cases ht
theorem fTuF_ok{f:FuncId}(h6:∀ (s:List UInt8) (a:Nat),a+6≤s.length→s.length≤100000→SCall Tryz.prog f [.str s,I64 (a:Int),I64 6] (.tuple [I64 (tk s a 6),I64 ((a+6:Nat):Int),I64 0]))(h1:∀ (s:List UInt8) (a:Nat),a+1≤s.length→s.length≤100000→SCall Tryz.prog f [.str s,I64 (a:Int),I64 1] (.tuple [I64 (tk s a 1),I64 ((a+1:Nat):Int),I64 0]))(h4:∀ (s:List UInt8) (a:Nat),a+4≤s.length→s.length≤100000→SCall Tryz.prog f [.str s,I64 (a:Int),I64 4] (.tuple [I64 (tk s a 4),I64 ((a+4:Nat):Int),I64 0])):(fTuF f).ok Tryz.prog:=fun args t ht=>by
 simp only[fTuF]at ht
 split at ht
 ·rename_i s a k
  by_cases e6:k=6
  ·subst e6
   simp at ht;subst ht
   intro h
   simp only[Bool.and_eq_true,decide_eq_true_eq]at h
   obtain⟨m,rfl⟩:=Int.eq_ofNat_of_zero_le h.1
   have q:=h6 s m (by omega) h.2.2
   exact q
  ·skip
   by_cases e1:k=1
   ·subst e1
    simp at ht;subst ht
    intro h
    simp only[Bool.and_eq_true,decide_eq_true_eq]at h
    obtain⟨m,rfl⟩:=Int.eq_ofNat_of_zero_le h.1
    have q:=h1 s m (by omega) h.2.2
    exact q
   ·skip
    by_cases e4:k=4
    ·subst e4
     simp at ht;subst ht
     intro h
     simp only[Bool.and_eq_true,decide_eq_true_eq]at h
     obtain⟨m,rfl⟩:=Int.eq_ofNat_of_zero_le h.1
     have q:=h4 s m (by omega) h.2.2
     exact q
    ·simp[show(k==6)=false from beq_eq_false_iff_ne.2 e6,show(k==1)=false from beq_eq_false_iff_ne.2 e1,show(k==4)=false from beq_eq_false_iff_ne.2 e4]at ht
 ·cases ht
theorem fTiF_ok{f:FuncId}(h4:∀ (s:List UInt8) (a:Nat),a+4≤s.length→s.length≤100000→SCall Tryz.prog f [.str s,I64 (a:Int),I64 4] (.tuple [I64 (sg (tk s a 4)),I64 ((a+4:Nat):Int),I64 0])):(fTiF f).ok Tryz.prog:=fun args t ht=>by
 simp only[fTiF]at ht
 split at ht
 ·rename_i s a k
  by_cases e4:k=4
  ·subst e4
   simp at ht;subst ht
   intro h
   simp only[Bool.and_eq_true,decide_eq_true_eq]at h
   obtain⟨m,rfl⟩:=Int.eq_ofNat_of_zero_le h.1
   have q:=h4 s m (by omega) h.2.2
   exact q
  ·simp[show(k==4)=false from beq_eq_false_iff_ne.2 e4]at ht
 ·cases ht
def fUi:Fact:=fUiF 298
theorem o_ui:fUi.ok Tryz.prog:=fUiF_ok s_wu6 s_wu1 s_wu4 s_wu2
def fIi:Fact:=fIiF 299
theorem o_ii:fIi.ok Tryz.prog:=fIiF_ok s_wi4
def fTu:Fact:=fTuF 282
theorem o_tu:fTu.ok Tryz.prog:=fTuF_ok s_tw6 s_tw1 s_tw4
def fTi:Fact:=fTiF 284
theorem o_ti:fTi.ok Tryz.prog:=fTiF_ok s_ti4
def fUiR:Fact:=fUiF 279
theorem o_uiR:fUiR.ok Tryz.prog:=fUiF_ok s_wuR6 s_wuR1 s_wuR4 s_wuR2
def fIiR:Fact:=fIiF 280
theorem o_iiR:fIiR.ok Tryz.prog:=fIiF_ok s_wiR4
def fTuR:Fact:=fTuF 321
theorem o_tuR:fTuR.ok Tryz.prog:=fTuF_ok s_twR6 s_twR1 s_twR4
def fTiR:Fact:=fTiF 322
theorem o_tiR:fTiR.ok Tryz.prog:=fTiF_ok s_tiR4
def padS(s:List UInt8)(n:Int):List UInt8:=s++List.replicate (n-s.length).toNat 0
theorem s_padR(s:List UInt8)(n:Int)(h:(s.length:Int)≤n)(hn:n≤65536):SCall Tryz.prog 253 [.str s,I64 n] (.tuple [.str (padS s n),I64 0]):=by
 refine scallR_loops rfl rfl (by kernel_rfl) (runsR_seg k000 (n:=1000) (hint:=.unit) (keep:=keepS 24 []) (p:=padR_p) (boxes:=[]) rfl ?_)
 have e:=padR s n
 unfold startS codeS at e
 erw [e]
 unfold padR_t
 have j:i64.wrap (n-(s.length:Int))=n-(s.length:Int):=w64 (by omega) (by omega)
 have z:(List.map (fun n=>UInt8.ofNat (Int.toNat n)) (List.replicate (n-(s.length:Int)).toNat (0:Int)))=List.replicate (n-(s.length:Int)).toNat 0:=by
  rw[List.map_replicate];rfl
 rw[j,z]
 refine n_dec (fun h=>absurd h (by omega)) fun _=>n_dec (fun h=>absurd h (by omega)) fun _=>n_dec (fun h=>absurd h (by omega)) fun _=>n_req ?_ (n_req (decide_eq_true ?_) rfl)
 ·simp;omega
 ·rw[List.length_replicate];omega
def encS(r:Rc):List UInt8:=beN r.seq 6++beN r.kind 1++beN r.line 6++beN r.done 4++(beN r.src.1 4++beN r.src.2.1 4++beN r.src.2.2.1 4++beN r.src.2.2.2 4)++(beN r.dst.1 4++beN r.dst.2.1 4++beN r.dst.2.2.1 4++beN r.dst.2.2.2 4)
def enc(r:Rc):List UInt8:=padS (encS r++beN (crc (encS r)) 2) 58++beN r.seq 6
theorem encS_len(r:Rc):(encS r).length=49:=by simp only[encS,List.length_append,beN_len]
theorem enc_len(r:Rc):(enc r).length=64:=by
 simp only[enc,padS,List.length_append,beN_len,encS_len,List.length_replicate];omega
def fPadR:Fact:=⟨253,fun args=>match args with
 |[.str s,.int .i64 n] =>some (.req (decide ((s.length:Int)≤n)&&decide (n≤65536)) (.leaf (.tuple [.str (padS s n),I64 0])))
 |_=>none⟩
theorem o_padR:fPadR.ok Tryz.prog:=fun args t ht=>by
 simp only[fPadR]at ht
 split at ht
 ·injection ht with ht;subst ht
  intro h
  simp only[Bool.and_eq_true,decide_eq_true_eq]at h
  exact s_padR _ _ h.1 h.2
 ·cases ht
theorem s_unR6(n:Int)(h:inR n 0 281474976710655=true):SCall Tryz.prog 251 [I64 n,I64 6] (.str (beN n 6)):=
 scall_v mix [fUiR] ⟨o_uiR,trivial⟩ 1000 (.all)
  (t:=.req (inR n 0 281474976710655) (.leaf (SV.str (beN n 6))))
  (by kernel_rfl) (by exact n_req h rfl) (by kernel_rfl) (by kernel_rfl)
theorem s_unR1(n:Int)(h:inR n 0 255=true):SCall Tryz.prog 251 [I64 n,I64 1] (.str (beN n 1)):=
 scall_v mix [fUiR] ⟨o_uiR,trivial⟩ 1000 (.all)
  (t:=.req (inR n 0 255) (.leaf (SV.str (beN n 1))))
  (by kernel_rfl) (by exact n_req h rfl) (by kernel_rfl) (by kernel_rfl)
theorem s_unR4(n:Int)(h:inR n 0 4294967295=true):SCall Tryz.prog 251 [I64 n,I64 4] (.str (beN n 4)):=
 scall_v mix [fUiR] ⟨o_uiR,trivial⟩ 1000 (.all)
  (t:=.req (inR n 0 4294967295) (.leaf (SV.str (beN n 4))))
  (by kernel_rfl) (by exact n_req h rfl) (by kernel_rfl) (by kernel_rfl)
theorem s_unR2(n:Int)(h:inR n 0 65535=true):SCall Tryz.prog 251 [I64 n,I64 2] (.str (beN n 2)):=
 scall_v mix [fUiR] ⟨o_uiR,trivial⟩ 1000 (.all)
  (t:=.req (inR n 0 65535) (.leaf (SV.str (beN n 2))))
  (by kernel_rfl) (by exact n_req h rfl) (by kernel_rfl) (by kernel_rfl)
theorem s_posn(c:V4)(h:in32 c=true):SCall Tryz.prog 252 [V4.sv c] (.str (beN c.1 4++beN c.2.1 4++beN c.2.2.1 4++beN c.2.2.2 4)):=
 scall_v mix [fIiR] ⟨o_iiR,trivial⟩ 1000 (.go (.lit (.go (.lit (.go (.lit (.go (.lit (.go (.lit (.all)))))))))))
  (t:=.req (true) (.req (inR c.1 (-2147483648) 2147483647) (.req (decide (((0+(beN c.1 4).length:Nat):Int)≤(9223372036854775807:Int))) (.req true (.req (inR c.2.1 (-2147483648) 2147483647) (.req (decide ((((beN c.1 4).length+(beN c.2.1 4).length:Nat):Int)≤(9223372036854775807:Int))) (.req true (.req (inR c.2.2.1 (-2147483648) 2147483647) (.req (decide ((((beN c.1 4++beN c.2.1 4).length+(beN c.2.2.1 4).length:Nat):Int)≤(9223372036854775807:Int))) (.req true (.req (inR c.2.2.2 (-2147483648) 2147483647) (.req (decide ((((beN c.1 4++beN c.2.1 4++beN c.2.2.1 4).length+(beN c.2.2.2 4).length:Nat):Int)≤(9223372036854775807:Int))) (.leaf (SV.str (beN c.1 4++beN c.2.1 4++beN c.2.2.1 4++beN c.2.2.2 4)))))))))))))))
  (by kernel_rfl) (by
   simp only[in32,Bool.and_eq_true]at h
   exact n_req rfl (n_req h.1 (n_req (decide_eq_true (by simp[beN_len])) (n_req rfl (n_req h.2.1 (n_req (decide_eq_true (by simp[beN_len])) (n_req rfl (n_req h.2.2.1 (n_req (decide_eq_true (by simp[beN_len])) (n_req rfl (n_req h.2.2.2 (n_req (decide_eq_true (by simp[beN_len])) rfl)))))))))))) (by kernel_rfl) (by kernel_rfl)
def fUnR:Fact:=⟨251,fun args=>match args with
 |[.int .i64 n,.int .i64 k] =>match k==6 with|true=>some (.req (inR n 0 281474976710655) (.leaf (.str (beN n 6))))|false=>match k==1 with|true=>some (.req (inR n 0 255) (.leaf (.str (beN n 1))))|false=>match k==4 with|true=>some (.req (inR n 0 4294967295) (.leaf (.str (beN n 4))))|false=>match k==2 with|true=>some (.req (inR n 0 65535) (.leaf (.str (beN n 2))))|false=>none
 |_=>none⟩
def fPsnR:Fact:=factV 252 fun c=>.req (in32 c) (.leaf (.str (beN c.1 4++beN c.2.1 4++beN c.2.2.1 4++beN c.2.2.2 4)))
theorem o_psnR:fPsnR.ok Tryz.prog:=factV_ok s_posn
theorem o_unR:fUnR.ok Tryz.prog:=fun args t ht=>by
 simp only[fUnR]at ht
 split at ht
 ·rename_i n k
  by_cases e6:k=6
  ·subst e6;simp at ht;subst ht;exact s_unR6 _
  ·by_cases e1:k=1
   ·subst e1;simp at ht;subst ht;exact s_unR1 _
   ·by_cases e4:k=4
    ·subst e4;simp at ht;subst ht;exact s_unR4 _
    ·by_cases e2:k=2
     ·subst e2;simp at ht;subst ht;exact s_unR2 _
     ·simp[show(k==6)=false from beq_eq_false_iff_ne.2 e6,show(k==1)=false from beq_eq_false_iff_ne.2 e1,show(k==4)=false from beq_eq_false_iff_ne.2 e4,show(k==2)=false from beq_eq_false_iff_ne.2 e2]at ht
 ·cases ht
def encV(r:Rc):SV:=match rcB r with
 |true=>.tuple [.str (enc r),I64 0]
 |false=>.tuple [.str [],I64 1]
theorem encV_data(r:Rc):(encV r).data=true:=by unfold encV;split<;>rfl
theorem s_encR(r:Rc):SCall Tryz.prog 189 [r.sv] (encV r):=
 scall_v mix [fRcBR,fUnR,fPsnR,fCrcR,fPadR] ⟨o_rcBR,o_unR,o_psnR,o_crcR,o_padR,trivial⟩ 1000 (.fork (.all) (.all))
  (t:=.node (!rcB r) (.leaf (.tuple [SV.str [],.int .i64 1])) (.req (inR r.seq 0 281474976710655) (.req (inR r.kind 0 255) (.req (decide ((((beN r.seq 6).length+(beN r.kind 1).length:Nat):Int)≤(9223372036854775807:Int))) (.req (inR r.line 0 281474976710655) (.req (decide ((((beN r.seq 6++beN r.kind 1).length+(beN r.line 6).length:Nat):Int)≤(9223372036854775807:Int))) (.req (inR r.done 0 4294967295) (.req (decide ((((beN r.seq 6++beN r.kind 1++beN r.line 6).length+(beN r.done 4).length:Nat):Int)≤(9223372036854775807:Int))) (.req (in32 r.src) (.req (decide ((((beN r.seq 6++beN r.kind 1++beN r.line 6++beN r.done 4).length+(beN r.src.1 4++beN r.src.2.1 4++beN r.src.2.2.1 4++beN r.src.2.2.2 4).length:Nat):Int)≤(9223372036854775807:Int))) (.req (in32 r.dst) (.req (decide ((((beN r.seq 6++beN r.kind 1++beN r.line 6++beN r.done 4++(beN r.src.1 4++beN r.src.2.1 4++beN r.src.2.2.1 4++beN r.src.2.2.2 4)).length+(beN r.dst.1 4++beN r.dst.2.1 4++beN r.dst.2.2.1 4++beN r.dst.2.2.2 4).length:Nat):Int)≤(9223372036854775807:Int))) (.req (decide ((encS r).length≤100000)) (.req (inR ((crc (encS r):Nat):Int) 0 65535) (.req (decide ((((encS r).length+(beN ((crc (encS r):Nat):Int) 2).length:Nat):Int)≤(9223372036854775807:Int))) (.req (decide ((↑(encS r++beN ((crc (encS r):Nat):Int) 2).length:Int)≤58)&&true) (.req (inR r.seq 0 281474976710655) (.req (decide ((((padS (encS r++beN ((crc (encS r):Nat):Int) 2) 58).length+(beN r.seq 6).length:Nat):Int)≤(9223372036854775807:Int))) (.leaf (.tuple [SV.str (padS (encS r++beN ((crc (encS r):Nat):Int) 2) 58++beN r.seq 6),.int .i64 0]))))))))))))))))))))
  (by kernel_rfl) (by
   unfold encV
   refine n_not (fun v=>by rw[v];rfl) fun v=>?_
   rw[v]
   have q:=rcB_iff.1 v
   have v':=v
   simp only[rcB,Bool.and_eq_true]at v'
   have c:=crc_lt (encS r)
   have l:=encS_len r
   have e:2=(beN ((crc (encS r):Nat):Int) 2).length:=(beN_len _ 2).symm
   refine n_req (inR_iff.2 ⟨by omega,by omega⟩) ?_
   refine n_req (inR_iff.2 ⟨by omega,by omega⟩) ?_
   refine n_req (decide_eq_true (by simp only[List.length_append,beN_len,encS_len,padS,List.length_replicate];omega)) ?_
   refine n_req (inR_iff.2 ⟨by omega,by omega⟩) ?_
   refine n_req (decide_eq_true (by simp only[List.length_append,beN_len,encS_len,padS,List.length_replicate];omega)) ?_
   refine n_req (inR_iff.2 ⟨by omega,by omega⟩) ?_
   refine n_req (decide_eq_true (by simp only[List.length_append,beN_len,encS_len,padS,List.length_replicate];omega)) ?_
   refine n_req v'.2.2.2.2.1 ?_
   refine n_req (decide_eq_true (by simp only[List.length_append,beN_len,encS_len,padS,List.length_replicate];omega)) ?_
   refine n_req v'.2.2.2.2.2 ?_
   refine n_req (decide_eq_true (by simp only[List.length_append,beN_len,encS_len,padS,List.length_replicate];omega)) ?_
   refine n_req (decide_eq_true (by simp only[List.length_append,beN_len,encS_len,padS,List.length_replicate];omega)) ?_
   refine n_req (inR_iff.2 ⟨by omega,by omega⟩) ?_
   refine n_req (decide_eq_true (by simp only[List.length_append,beN_len,encS_len,padS,List.length_replicate];omega)) ?_
   refine n_req (by simp only[List.length_append,beN_len,encS_len,Bool.and_true,decide_eq_true_eq];omega) ?_
   refine n_req (inR_iff.2 ⟨by omega,by omega⟩) ?_
   refine n_req (decide_eq_true (by simp only[List.length_append,beN_len,encS_len,padS,List.length_replicate];omega)) ?_
   exact rfl) (by kernel_rfl) (by exact encV_data r)
theorem s_nb6(s:List UInt8)(a:Int)(h:(decide (0≤a)&& (decide (a+6≤(s.length:Int))&&decide (s.length≤100000)))=true):SCall Tryz.prog 292 [.str s,I64 a,I64 6] (I64 (tk s a.toNat 6)):=
 scall_v mix [fTuR] ⟨o_tuR,trivial⟩ 1000 (.all)
  (t:=.req (decide (0≤a)&& (decide (a+6≤(↑s.length:Int))&&decide (s.length≤100000))) (.leaf (SV.int IntKind.i64 (tk s a.toNat 6))))
  (by kernel_rfl) (by exact n_req h rfl) (by kernel_rfl) (by kernel_rfl)
theorem s_nb1(s:List UInt8)(a:Int)(h:(decide (0≤a)&& (decide (a+1≤(s.length:Int))&&decide (s.length≤100000)))=true):SCall Tryz.prog 292 [.str s,I64 a,I64 1] (I64 (tk s a.toNat 1)):=
 scall_v mix [fTuR] ⟨o_tuR,trivial⟩ 1000 (.all)
  (t:=.req (decide (0≤a)&& (decide (a+1≤(↑s.length:Int))&&decide (s.length≤100000))) (.leaf (SV.int IntKind.i64 (tk s a.toNat 1))))
  (by kernel_rfl) (by exact n_req h rfl) (by kernel_rfl) (by kernel_rfl)
theorem s_nb4(s:List UInt8)(a:Int)(h:(decide (0≤a)&& (decide (a+4≤(s.length:Int))&&decide (s.length≤100000)))=true):SCall Tryz.prog 292 [.str s,I64 a,I64 4] (I64 (tk s a.toNat 4)):=
 scall_v mix [fTuR] ⟨o_tuR,trivial⟩ 1000 (.all)
  (t:=.req (decide (0≤a)&& (decide (a+4≤(↑s.length:Int))&&decide (s.length≤100000))) (.leaf (SV.int IntKind.i64 (tk s a.toNat 4))))
  (by kernel_rfl) (by exact n_req h rfl) (by kernel_rfl) (by kernel_rfl)
theorem s_four(s:List UInt8)(a:Int)(h0:0≤a)(h1:a+16≤s.length)(h2:s.length≤100000):SCall Tryz.prog 293 [.str s,I64 a] (.agg [I64 (sg (tk s a.toNat 4)),I64 (sg (tk s (a+4).toNat 4)),I64 (sg (tk s (a+8).toNat 4)),I64 (sg (tk s (a+12).toNat 4))]):=
 scall_v mix [fTiR] ⟨o_tiR,trivial⟩ 1000 (.go (.lit (.go (.lit (.go (.lit (.go (.lit (.go (.lit (.all)))))))))))
  (t:=.req (decide (0≤i64.wrap (a+0))&& (decide (i64.wrap (a+0)+4≤(↑s.length:Int))&&decide (s.length≤100000))) (.req true (.req (decide (0≤i64.wrap (a+4))&& (decide (i64.wrap (a+4)+4≤(↑s.length:Int))&&decide (s.length≤100000))) (.req true (.req (decide (0≤i64.wrap (a+8))&& (decide (i64.wrap (a+8)+4≤(↑s.length:Int))&&decide (s.length≤100000))) (.req true (.req (decide (0≤i64.wrap (a+12))&& (decide (i64.wrap (a+12)+4≤(↑s.length:Int))&&decide (s.length≤100000))) (.req true (.leaf (.agg [.int .i64 (sg (tk s (i64.wrap (a+0)).toNat 4)),.int .i64 (sg (tk s (i64.wrap (a+4)).toNat 4)),.int .i64 (sg (tk s (i64.wrap (a+8)).toNat 4)),.int .i64 (sg (tk s (i64.wrap (a+12)).toNat 4))]))))))))))
  (by kernel_rfl) (by
   rw[i64x (x:=a+0) (by omega) (by omega),i64x (x:=a+4) (by omega) (by omega),i64x (x:=a+8) (by omega) (by omega),i64x (x:=a+12) (by omega) (by omega),Int.add_zero]
   have q:∀x:Int,0≤x→x+4≤s.length→(decide (0≤x)&& (decide (x+4≤(s.length:Int))&&decide (s.length≤100000)))=true:=fun x h k=>by simp;omega
   exact n_req (q _ (by omega) (by omega)) (n_req rfl (n_req (q _ (by omega) (by omega)) (n_req rfl (n_req (q _ (by omega) (by omega)) (n_req rfl (n_req (q _ (by omega) (by omega)) (n_req rfl rfl)))))))) (by kernel_rfl) (by kernel_rfl)
def fNbR:Fact:=⟨292,fun args=>match args with
 |[.str s,.int .i64 a,.int .i64 k] =>match k==6 with|true=>some (.req (decide (0≤a)&& (decide (a+6≤(s.length:Int))&&decide (s.length≤100000))) (.leaf (I64 (tk s a.toNat 6))))|false=>match k==1 with|true=>some (.req (decide (0≤a)&& (decide (a+1≤(s.length:Int))&&decide (s.length≤100000))) (.leaf (I64 (tk s a.toNat 1))))|false=>match k==4 with|true=>some (.req (decide (0≤a)&& (decide (a+4≤(s.length:Int))&&decide (s.length≤100000))) (.leaf (I64 (tk s a.toNat 4))))|false=>none
 |_=>none⟩
def fFourR:Fact:=⟨293,fun args=>match args with
 |[.str s,.int .i64 a] =>some (.req (decide (0≤a)&& (decide (a+16≤(s.length:Int))&&decide (s.length≤100000))) (.leaf (.agg [I64 (sg (tk s a.toNat 4)),I64 (sg (tk s (a+4).toNat 4)),I64 (sg (tk s (a+8).toNat 4)),I64 (sg (tk s (a+12).toNat 4))])))
 |_=>none⟩
def fEncR:Fact:=factRc 189 fun r=>.node (rcB r) (.leaf (.tuple [.str (enc r),I64 0])) (.leaf (.tuple [.str [],I64 1]))
theorem o_fourR:fFourR.ok Tryz.prog:=fun args t ht=>by
 simp only[fFourR]at ht
 split at ht
 ·injection ht with ht;subst ht
  intro h
  simp only[Bool.and_eq_true,decide_eq_true_eq]at h
  exact s_four _ _ h.1 h.2.1 h.2.2
 ·cases ht
theorem o_encR:fEncR.ok Tryz.prog:=factRc_ok fun r=>by
 have q:=s_encR r
 unfold encV at q
 exact⟨fun v=>by rw[v]at q;exact q,fun v=>by rw[v]at q;exact q⟩
theorem o_nbR:fNbR.ok Tryz.prog:=fun args t ht=>by
 simp only[fNbR]at ht
 split at ht
 ·rename_i s a k
  by_cases e6:k=6
  ·subst e6;simp at ht;subst ht;intro h;exact s_nb6 _ _ (by simpa using h)
  ·by_cases e1:k=1
   ·subst e1;simp at ht;subst ht;intro h;exact s_nb1 _ _ (by simpa using h)
   ·by_cases e4:k=4
    ·subst e4;simp at ht;subst ht;intro h;exact s_nb4 _ _ (by simpa using h)
    ·simp[show(k==6)=false from beq_eq_false_iff_ne.2 e6,show(k==1)=false from beq_eq_false_iff_ne.2 e1,show(k==4)=false from beq_eq_false_iff_ne.2 e4]at ht
 ·cases ht
end Go.Proofs.YtnkaepnblikcdaaGreat
