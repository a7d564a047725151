/-
  Evaluator, contracts, plain law.
-/
import Derived.Test.YtnkaepnblikcdaaGreatVP5
import Derived.Test.YtnkaepnblikcdaaGreatVP4
set_option maxRecDepth 100000
set_option linter.unusedVariables false
set_option linter.defProp false
set_option linter.unusedSimpArgs false
open Go.IntKind (i64 u64 u8)
namespace Go.Proofs.YtnkaepnblikcdaaGreat
open Go.Sx
def xa4(l:List Bk)(g:Nat->Int):(jo l g).length=l.length:=by simp[jo]
variable{i:Nat}
def Kw{l:List Bk}{g:Nat->Int}(h:i<l.length):(jo l g).getD i aM=F5 (l.getD i aM) (g i) (g (i+1)):=by
 unfold jo;rw[cK,AB,EP h];rfl
def jc6(b:Bk)(x y:Int):n7 (F5 b x y)=n7 b:=rfl
section
variable {g:Fw} {c:V4} {len line:Int}
def uW:(p8 g c len line).queue.length=g.queue.length+1:=by
 show(jo _ _).length=_;rw[xa4,rf]
def VI(h:g.lines.length=g.queue.length):(p8 g c len line).lines.length=(p8 g c len line).queue.length:=by
 rw[uW];show(g.lines++[line]).length=_;simp[h]
def zj3(h:dm g c len=true):∀b∈(p8 g c len line).queue,n7 b=true:=λb hb=>by
 obtain⟨i,hi,e⟩:=R6 (d:=aM) hb
 have gD:i< (t6 g c len).length:=by rw[uW]at hi;rw[rf];exact hi
 have e2:=Kw (g:=gL (t6 g c len) (ij g.ma (t6 g c len)) (m9 g)) gD;rw[<-e];show n7 ((jo _ _).getD i aM)=true;rw[e2,jc6];exact vE (p:=λb=>n7 b=true) (Iz h).snd gD
def VJ(o:dt g c len=true):m9 (p8 g c len line)=m9 g:=by
 have k:=(uV.1 o).2;have hl:(p8 g c len line).queue.length=g.queue.length+1:=uW
 by_cases hm:g.aT=true
 .unfold m9
  rw[show(p8 g c len line).aT=g.aT from rfl,ay hm,ay hm];rfl
 .have e1:m9 (p8 g c len line)=((p8 g c len line).queue.getD 0 aM).2.2.1:=by
   unfold m9;rw[show(p8 g c len line).aT=g.aT from rfl,au hm,au (by omega)]
  rw[e1];show((jo _ _).getD 0 aM).2.2.1=_;rw[Kw (by rw[rf];omega)];exact k
def VD{d:V4}{D9:Int}(h:dm g c len=true)(o:dt g c len=true)(hd:iB g.ma d=true)(hl:dN D9=true)(hq:g.queue.length<=900):dm (p8 g c len line) d D9=true:=by
 have p:=qv.1 h;exact qv.2 ⟨hd,hl,p.2.2.1,zj3 h,VI p.2.2.2.2.1,by rw[uW];omega,by rw[VJ o];exact p.2.2.2.2.2.2⟩
end
def As(g:Fw)(d:V4):Int:=if gX g d=true then 0 else 2
def vU(g:Fw)(d:V4):Fw:=if gX g d=true then {n8 g d with loc:=C3 g.ma g.ret} else g
def uF(g:Fw)(c d:V4):Int:=if gX g c=true then As (n8 g c) d else 2
def yh(g:Fw)(c d:V4):Fw:=if gX g c=true then vU (n8 g c) d else g
def XA(d:V4):(d.1==0&& (d.2.1==0&& (d.2.2.1==0&& (d.2.2.2==0&&true))))=!bO d:=by
 unfold bO;rw[U2,Bool.not_not]
def Me:cV pP (Env.cq pP (j9 [vC,xF,zG]) (d9 []) (f0 [bF.toP jJ]) (b9 [jJ]) (j6 []) (j6 []) (j6 []) (j6 [])):=
 hB (l:=[vC,xF,zG]) (k:=[]) (j:=[bF.toP jJ]) (i:=[jJ]) [] [] [] [] ⟨P0,PI,YK,trivial⟩ v8 (gx.all (p:=kq.ok pP) (l:=[bF.toP jJ]) ⟨bF.toP_ok Jz,trivial⟩) (gx.all (p:=bF.ok pP) (l:=[jJ]) ⟨Jz,trivial⟩)
section
variable {g:Fw} {c d:V4}
def ja(h:bO c=true):n8 g c=p8 g c 0 0:=ay h
def jy(h:bO c=false):n8 g c=g:=au (by rw[h];exact fS)
def uU(h:bO c=false):gX g c=true:=by unfold gX;rw[h];rfl
def nP(h:bO c=true):gX g c=dt g c 0:=by unfold gX;rw[h];rfl
def zu3:(n8 g c).ma=g.ma:=by unfold n8;split<;>rfl
def zu6:(n8 g c).ret=g.ret:=by unfold n8;split<;>rfl
def qP8(h:g.ma.ok=true/\u7 g.ret=true):qw pP (x9 pP 148) [] 1 (.ret (J 0) [some (.cells ({g with loc:=C3 g.ma g.ret}:Fw).cells)]) (x8 pP 148 0) (x7 148 [(0,.ptr 0 0),(115,.agg (V4.cells c++V4.cells d)),(116,J 2)]) [some (.cells g.cells)] :=by
 refine nV Me (n:=1000) (keep:=x6 148 [0,115,116]) (p:=qP7) (bA _) ?_;erw [hm3 g c d];exact⟨by rw[h.1,h.2];rfl,rfl⟩
def qP6(h:g.ma.ok=true/\u7 g.ret=true)(hd:bO d=true->dm g d 0=true):qw pP (x9 pP 148) [] 1 (.ret (J (As g d)) [some (.cells (vU g d).cells)]) (x8 pP 148 0) (x7 148 [(0,.ptr 0 0),(115,.agg (V4.cells c++V4.cells d)),(116,J 1)]) [some (.cells g.cells)] :=by
 refine nV Me (n:=1000) (keep:=x6 148 [0,115,116]) (p:=qP5) (bA _) ?_;erw [kZ g c d];rw[XA]
 cases hz:bO d
 .have o:=uU (g:=g) hz
  have e1:As g d=0:=ay o
  have e2:vU g d={g with loc:=C3 g.ma g.ret}:=by unfold vU;rw[ay o,jy hz]
  rw[e1,e2];exact⟨rfl,λ_=>⟨o5 _ _,qP8 h⟩,λk=>by cases k⟩
 .have o:=nP (g:=g) hz
  refine⟨rfl,λk=>(by cases k),λ_=>⟨hd hz,λa=>⟨o5 _ _,?_⟩,λa=>?_⟩⟩
  .have e1:As g d=0:=ay (by rw[o,a])
   have e2:vU g d={p8 g d 0 0 with loc:=C3 g.ma g.ret}:=by unfold vU;rw[ay (by rw[o,a]),ja hz]
   rw[e1,e2];exact qP8 (g:=p8 g d 0 0) h
  .have e1:As g d=2:=au (by rw[o,a];exact fS)
   have e2:vU g d=g:=au (by rw[o,a];exact fS);rw[e1,e2];rfl
def qP4(h:g.ma.ok=true/\u7 g.ret=true)(hc:bO c=true->dm g c 0=true)(hd:gX g c=true->bO d=true->dm (n8 g c) d 0=true):qw pP (x9 pP 148) [] 1 (.ret (J (uF g c d)) [some (.cells (yh g c d).cells)]) (x8 pP 148 0) (x7 148 [(0,.ptr 0 0),(115,.agg (V4.cells c++V4.cells d)),(116,J 0)]) [some (.cells g.cells)] :=by
 refine nV Me (n:=1000) (keep:=x6 148 [0,115,116]) (p:=qP3) (bA _) ?_;erw [M6 g c d];rw[XA]
 cases hz:bO c
 .have o:=uU (g:=g) hz
  have e1:uF g c d=As g d:=by unfold uF;rw[ay o,jy hz]
  have e2:yh g c d=vU g d:=by unfold yh;rw[ay o,jy hz]
  have hd:=hd o;rw[jy hz]at hd;rw[e1,e2];exact⟨rfl,λ_=>⟨o5 _ _,qP6 h hd⟩,λk=>by cases k⟩
 .have o:=nP (g:=g) hz
  refine⟨rfl,λk=>(by cases k),λ_=>⟨hc hz,λa=>⟨o5 _ _,?_⟩,λa=>?_⟩⟩
  .have oo:gX g c=true:=by rw[o,a]
   have e1:uF g c d=As (p8 g c 0 0) d:=by unfold uF;rw[ay oo,ja hz]
   have e2:yh g c d=vU (p8 g c 0 0) d:=by unfold yh;rw[ay oo,ja hz]
   have hd:=hd oo;rw[ja hz]at hd;rw[e1,e2];exact qP6 (g:=p8 g c 0 0) h hd
  .have e1:uF g c d=2:=au (by rw[o,a];exact fS)
   have e2:yh g c d=g:=au (by rw[o,a];exact fS);rw[e1,e2];rfl
end
def oL(f:Fw)(line:Int):Fw:=if eF f=false then f else if ¬f.mode=1 then f else if qH f line=false then dX f line else yh (dX f line) (gj f line) (kB f line)
variable{m:Ma}
def J5{c:V4}(hm:m.ok=true)(hn:u7 c=true)(hz:bO c=true):iB m c=true:=mj.2 ⟨hm,by unfold bM;rw[hn,hz];rfl⟩
section
variable {f:Fw} {line:Int}
def zN(v:VF f):u7 (oK f line)=true:=by
 unfold oK
 split;.exact v.pos
 .exact v.ret
def Lz(v:VF f):u7 (gj f line)=true:=by
 have r:=fO.1 (zN (line:=line) v);exact fO.2 (by unfold gj;dsimp only;omega)
def qS1(v:VF f):u7 (kB f line)=true:=by
 have r:=fO.1 (zN (line:=line) v);exact fO.2 (by unfold kB;dsimp only;omega)
def Gs(v:VF f)(hi:eF f=true){c:V4}(hn:u7 c=true)(hz:bO c=true):dm (dX f line) c 0=true:=by
 obtain⟨i1,i2,i3⟩:=zM.1 hi;have n:=v.gK
 have en:m9 (dX f line)=0:=by
  unfold m9;rw[au (show ¬(dX f line).aT=true by show ¬f.aT=true;rw[i1];exact fS),ay (show(dX f line).queue.length=0 from i2)]
 exact qv.2 ⟨J5 v.ma hn hz,by decide,pJ.2 (show -9223372036854775808<=f.bH/\f.bH<=9223372036854775807 by omega),v.sound,v.lens,(show f.queue.length<=1000 by omega),by omega,by omega⟩
def RL(v:VF f)(hi:eF f=true)(o:gX (dX f line) (gj f line)=true)(hz:bO (kB f line)=true):dm (n8 (dX f line) (gj f line)) (kB f line) 0=true:=by
 obtain⟨i1,i2,i3⟩:=zM.1 hi
 cases hc:bO (gj f line)with
 |false=>rw[jy hc];exact Gs v hi (qS1 v) hz
 |true=>
  rw[ja hc];rw[nP hc]at o;exact VD (Gs v hi (Lz v) hc) o (J5 v.ma (qS1 v) hz) (by decide) (show f.queue.length<=900 by omega)
def DR(v:VF f)(hi:eF f=true)(hm:f.mode=1)(hb:qH f line=true){g:Fw}{c d:V4}(hg:dX f line=g)(hc:gj f line=c)(hd:kB f line=d):
  qw pP (x9 pP 148) [] 1 (.ret (J (gm f line)) [some (.cells (oL f line).cells)]) (x8 pP 148 0) (x7 148 [(0,.ptr 0 0),(115,.agg (V4.cells c++V4.cells d)),(116,J 0)]) [some (.cells g.cells)] :=by
 have n1:¬eF f=false:=by rw[hi];decide
 have n2:¬¬f.mode=1:=λk=>k hm
 have n3:¬qH f line=false:=by rw[hb];decide
 have eO:oL f line=yh (dX f line) (gj f line) (kB f line):=by unfold oL;rw[au n1,au n2,au n3]
 have eA:gm f line=uF (dX f line) (gj f line) (kB f line):=by
  unfold gm vD uF As;rw[au n1,au n2,au n3]
  cases gX (dX f line) (gj f line)<;>cases gX (n8 (dX f line) (gj f line)) (kB f line)<;>rfl
 rw[eO,eA];subst hg hc hd
 exact qP4 ⟨v.ma,zN v⟩ (λhz=>Gs v hi (Lz v) hz) λo hz=>RL v hi o hz
def qQ4(hi:eF f=true)(hm:f.mode=1)(hb:qH f line=false):gm f line=0/\oL f line=dX f line:=by
 have n1:¬eF f=false:=by rw[hi];decide
 have n2:¬¬f.mode=1:=λk=>k hm
 unfold gm vD oL;rw[au n1,au n2,ay hb,au n1,au n2,ay hb];exact⟨rfl,rfl⟩
def xO:qH f line=true↔(line=0/\f.bf=true)\/f.back=true:=by simp only[qH,ia,aH,cI]
variable{r:V4}
def tZ{e:Int}(hr:oK f line=r)(he:qG f=e):dX f line={f with ret:=r,back:=false,pos:=(0,0,0,f.pos.2.2.2),bf:=true,loc:=(0,0,0),e:=e}:=by subst hr he;rfl
def DQ(hr:oK f line=r):gj f line=(0,0,r.2.2.1,0):=by subst hr;rfl
def DP(hr:oK f line=r):kB f line=(r.1,r.2.1,0,0):=by subst hr;rfl
set_option maxHeartbeats 4000000 in
def xJ5(c:Gc.C)(h:u9 f=true):iS pP 148 [J line,c.sv] f (J (gm f line),oL f line):=by
 have v:=d7 h;refine Gh (cs:=(oL f line).cells) (by kernel_rfl) rfl rfl rfl (j7.refl _) (nV Me (n:=1000) (keep:=x6 148 [0,115,116]) (p:=qP2) (bA _) ?_);have q:=vT f line c;unfold v6 v7 at q;erw [q]
 cases hi:eF f
 .have eA:gm f line=18:=ay hi
  have eO:oL f line=f:=ay hi;rw[eA,eO];exact⟨λ_=>rfl,λk=>by cases k⟩
 refine⟨λk=>(by cases k),λ_=>⟨λk=>?_,λk=>?_⟩⟩
 .have k:=px.1 k
  have n1:¬eF f=false:=by rw[hi];decide
  have eA:gm f line=14:=by unfold gm;rw[au n1,ay k]
  have eO:oL f line=f:=by unfold oL;rw[au n1,ay k]
  rw[eA,eO];rfl
 have hm:f.mode=1:=ot.1 k
 have eE:∀b,e7 f.ma f.pos.2.2.2=b->qG f=(if b=true then dY f.ma.e f.pos.2.2.2 else 0):=λb hb=>by unfold qG;rw[hb]
 have xE:¬(line=0/\f.bf=true)->oK f line=f.ret:=λn=>au n
 have Bg:line=0/\f.bf=true->oK f line=f.pos:=λn=>ay n
 have bNo:¬(line=0/\f.bf=true)->f.back=false->qH f line=false:=λn b=>by
  rw[eB,dz,xO];rintro (k|k);.exact n k
  .rw[b]at k;cases k
 -- with the nozzle to be led back, and atK
 have fin:∀e,qG f=e->¬(line=0/\f.bf=true)->f.back=false->Fin.ret (SV.int i64 0) [some (aR.cells (Fw.cells {f with bf:=true,pos:=(0,0,0,f.pos.2.2.2),loc:=(0,0,0),e:=e}))] =.ret (J (gm f line)) [some (.cells (oL f line).cells)] :=λe he n b=>by
  obtain⟨eA,eO⟩:=qQ4 hi hm (bNo n b);rw[eA,eO,tZ (xE n) he,<-b];rfl
 refine⟨λl=>⟨λo=>⟨rfl,rfl,rfl,λu=>⟨rfl,rfl,rfl,o5 _ _,?_⟩,λu=>⟨rfl,rfl,rfl,o5 _ _,?_⟩⟩,λo=>⟨rfl,rfl,rfl,λu=>⟨λb=>?_,λb=>⟨rfl,rfl,rfl,o5 _ _,?_⟩⟩,λu=>⟨λb=>?_,λb=>⟨rfl,rfl,rfl,o5 _ _,?_⟩⟩⟩⟩,λl=>⟨rfl,rfl,rfl,λu=>⟨λb=>?_,λb=>⟨rfl,rfl,rfl,o5 _ _,?_⟩⟩,λu=>⟨λb=>?_,λb=>⟨rfl,rfl,rfl,o5 _ _,?_⟩⟩⟩⟩
 .have r:=Bg ⟨cI.1 l,o⟩
  exact DR v hi hm (xO.2 (.inl ⟨cI.1 l,o⟩)) (tZ r (eE _ u)) (DQ r) (DP r)
 .have r:=Bg ⟨cI.1 l,o⟩
  exact DR v hi hm (xO.2 (.inl ⟨cI.1 l,o⟩)) (tZ r (eE _ u)) (DQ r) (DP r)
 .exact fin _ (eE _ u) (λn=>by rw[o]at n;cases n.2) (by simpa using b)
 .have r:=xE (λn=>by rw[o]at n;cases n.2)
  exact DR v hi hm (xO.2 (.inr (by simpa using b))) (tZ r (eE _ u)) (DQ r) (DP r)
 .exact fin _ (eE _ u) (λn=>by rw[o]at n;cases n.2) (by simpa using b)
 .have r:=xE (λn=>by rw[o]at n;cases n.2)
  exact DR v hi hm (xO.2 (.inr (by simpa using b))) (tZ r (eE _ u)) (DQ r) (DP r)
 .exact fin _ (eE _ u) (λn=>dM.1 l n.1) (by simpa using b)
 .have r:=xE (λn=>dM.1 l n.1)
  exact DR v hi hm (xO.2 (.inr (by simpa using b))) (tZ r (eE _ u)) (DQ r) (DP r)
 .exact fin _ (eE _ u) (λn=>dM.1 l n.1) (by simpa using b)
 .have r:=xE (λn=>dM.1 l n.1)
  exact DR v hi hm (xO.2 (.inr (by simpa using b))) (tZ r (eE _ u)) (DQ r) (DP r)
end
noncomputable def ur:iY:=vO 148 λf rest=>match rest with
 |[.int .i64 line,.agg [.int .i64 a0,.int .i64 a1,.int .i64 a2,.int .i64 a3,.int .i64 a4,.int .i64 a5,.int .i64 a6,.int .i64 a7]] =>some (.aj (u9 f) (.ai (J (gm f line),oL f line)))
 |_=>none
def Yw:ur.ok pP:=Ad λf rest t ht=>by
 split at ht<;>cases ht;exact λh=>xJ5 ⟨_,_,_,_,_,_,_,_⟩ h
def Ej(f:Fw)(line:Int):Bool:=f4 f&&az line 0 1099511627776
variable{f:Fw}{line:Int}
def ji5:Ej f line=true↔f4 f=true/\0<=line/\line<=1099511627776:=by simp only[Ej,aH,v5]
def q74(h:line=0):pW f line=f:=ay h
def q76(h:¬line=0):pW f line={f with line:=line}:=au h
def ja5(h:f4 f=true)(hl:0<=line/\line<=1099511627776):f4 {f with line:=line}=true:=by
 have s:=oh.1 h;exact oh.2 ⟨s.1,s.2.1,s.2.2.1,hl,s.2.2.2.2⟩
def lG(f:Fw):Fw:=if ¬f.mode=3 then f else if xl f.g0 f.r0=false then f else if xl f.g1 f.r1=false then {f with g0:=mA f.g0 f.r0} else jQ f
def qC(f:Fw)(c:Gc.C):Int:=if c.code=1024 then(if f.mode=2 then 0 else 14)else(if f.mode=1 then 0 else 14)
def xf(f:Fw)(c:Gc.C):Fw:=if c.code=1024 then(if f.mode=2 then {f with mode:=1} else f)else(if f.mode=1 then {f with mode:=2} else f)
def wM(f:Fw):Int:=if eF f=true then 0 else 18
def Cv(f:Fw)(c:Gc.C):Fw:=if eF f=true then {f with bt:=c.s} else f
def qY(c:Gc.C):Bool:=c.code==1140||c.code==1190
def uk(c:Gc.C):Bool:=c.code==1109||c.code==1190
def xQ(f:Fw)(c:Gc.C):Int:=if qY c=true then(if mS f.c1 c.s=true then 0 else 1)else(if mS f.c0 c.s=true then 0 else 1)
def ub(f:Fw)(c:Gc.C):Fw:=if qY c=true then {f with c1:=f.c1.fM c.s} else {f with c0:=f.c0.fM c.s}
def ua(f:Fw)(c:Gc.C):Int:=if uk c=true then(if qY c=true then rC f.waits 2 else rC f.waits 1)else f.waits
def DS(f:Fw)(c:Gc.C):Fw:=if xQ f c=0 then {ub f c with waits:=ua f c} else f
def x06:ax:=let z0:ax:=.go (.ar (.go (.ar (.go pA))));.ah z0 z0
noncomputable def QV(f:Fw)(line:Int)(c:Gc.C):ak eW:=let y0:={f with g0:=f.g0.stop,g1:=f.g1.stop,line:=line}; .ag (line>0) (rT (rT (rT (rT (.aj (f4 y0) (.ai (.fin (.ret (.int .i64 0) [some (.cells (Fw.cells { (ek y0)with mode:=3}))])))))))) (rT (rT (rT (rT (.aj (f4 ({f with g0:=f.g0.stop,g1:=f.g1.stop})) (.ai (.fin (.ret (.int .i64 0) [some (.cells (Fw.cells { (ek ({f with g0:=f.g0.stop,g1:=f.g1.stop}))with mode:=3}))]))))))))
def x05(f:Fw)(line:Int)(c:Gc.C):fU (Env.cq pP (j9 [Rh]) (d9 []) (f0 [bF.toP qZ]) (b9 [qZ]) (j6 []) (j6 []) (j6 []) (j6 [])) 1000 (x9 pP 143) 1 (x6 39 []) (v7 pP 143) x06 (v6 pP 143 [.ptr 0 0,J line,c.sv]) [some (.cells f.cells)] =QV f line c:=by kernel_rfl
def x04(f:Fw)(line:Int)(c:Gc.C)(h:Ej f line=true):iS pP 143 [J line,c.sv] f (J 0,ui (pW f line)):=
 rp (hB (l:=[Rh]) (k:=[]) (j:=[bF.toP qZ]) (i:=[qZ]) nN nN nN nN (⟨yM0,trivial⟩) v8 (gx.all (p:=kq.ok pP) (l:=[bF.toP qZ]) ⟨bF.toP_ok Jy,trivial⟩) (gx.all (p:=bF.ok pP) (l:=[qZ]) ⟨Jy,trivial⟩)) 1000 x06 (keep:=(x6 39 [])) (t:=QV f line c) (x05 f line c) (by
  unfold QV;have sp:=ji5.1 h;have s1:=sp.1;have s2:=ja5 sp.1 sp.2;simp only[ak.holds,sM];(repeat' (first|apply aX|intro _));
  all_goals first
   |exact s1
   |exact s2
   |omega
   |(rw[q76 (by omega)];exact ends rfl (j7.refl _) rfl)
   |(rw[q74 (by omega)];exact ends rfl (j7.refl _) rfl)) (by kernel_rfl) (by kernel_rfl) (by kernel_rfl)
noncomputable def ul:iY:=vO 143 λf rest=>match rest with
 |[.int .i64 line,.agg [.int .i64 a0,.int .i64 a1,.int .i64 a2,.int .i64 a3,.int .i64 a4,.int .i64 a5,.int .i64 a6,.int .i64 a7]] =>some (.aj (Ej f line) (.ai (J 0,ui (pW f line))))
 |_=>none
def Yp:ul.ok pP:=Ad λf rest t ht=>by
 split at ht<;>cases ht;exact λh=>x04 f _ ⟨_,_,_,_,_,_,_,_⟩ h
def xW6:ax:=let z1:ax:=.go pA;let z0:ax:=.go (.ar (.ah z1 (.ah (.ar z1) (.ah (.all) z1))));.ah (.all) (.go (.ar (.ah z0 (.ah (.ar z0) (.ah (.all) z0)))))
noncomputable def QI(f:Fw)(line:Int)(c:Gc.C):ak eW:=let y0:=Gu.mk 0 0 0 0 0 0 0 0 0 0 false;let y1:SV:=.int .i64 0;let y2:=decide (f.g1.cD f.r1=0); .ag (f.mode != 3) (.ai (.fin (.ret (.int .i64 14) [some (.cells (Fw.cells f))]))) (rT (.ag (f.g0.fault==0) (rT (.ag (f.g1.fault==0) (.ai (.fin (.ret y1 [some (.cells (Fw.cells {f with mode:=1}))]))) (rT (.ag y2 (rT (.ai (.fin (.ret y1 [some (.cells (Fw.cells {f with mode:=1,g1:=(f.g1.rest f.r1)}))])))) (.ag (f.g1.cD f.r1 != 0) (.ai (.fin (.ret (.int .i64 16) [some (.cells (Fw.cells f))]))) (rT (.ai (.fin (.ret y1 [some (.cells (Fw.cells {f with mode:=1,g1:=y0}))]))))))))) (rT (.ag (f.g0.cD f.r0=0) (rT (rT (.ag (f.g1.fault==0) (.ai (.fin (.ret y1 [some (.cells (Fw.cells {f with mode:=1,g0:=(f.g0.rest f.r0)}))]))) (rT (.ag y2 (rT (.ai (.fin (.ret y1 [some (.cells (Fw.cells {f with mode:=1,g0:=(f.g0.rest f.r0),g1:=(f.g1.rest f.r1)}))])))) (.ag (f.g1.cD f.r1 != 0) (.ai (.fin (.ret (.int .i64 16) [some (.cells (Fw.cells {f with g0:=(f.g0.rest f.r0)}))]))) (rT (.ai (.fin (.ret y1 [some (.cells (Fw.cells {f with mode:=1,g0:=(f.g0.rest f.r0),g1:=y0}))])))))))))) (.ag (f.g0.cD f.r0 != 0) (.ai (.fin (.ret (.int .i64 16) [some (.cells (Fw.cells f))]))) (rT (rT (.ag (f.g1.fault==0) (.ai (.fin (.ret y1 [some (.cells (Fw.cells {f with mode:=1,g0:=y0}))]))) (rT (.ag y2 (rT (.ai (.fin (.ret y1 [some (.cells (Fw.cells {f with mode:=1,g0:=y0,g1:=(f.g1.rest f.r1)}))])))) (.ag (f.g1.cD f.r1 != 0) (.ai (.fin (.ret (.int .i64 16) [some (.cells (Fw.cells {f with g0:=y0}))]))) (rT (.ai (.fin (.ret y1 [some (.cells (Fw.cells {f with mode:=1,g0:=y0,g1:=y0}))])))))))))))))))
def xW5(f:Fw)(line:Int)(c:Gc.C):fU (Env.cq pP (j9 [Rm]) (d9 []) (f0 []) (b9 []) (j6 []) (j6 []) (j6 []) (j6 [])) 1000 (x9 pP 144) 1 (x6 55 []) (v7 pP 144) xW6 (v6 pP 144 [.ptr 0 0,J line,c.sv]) [some (.cells f.cells)] =QI f line c:=by kernel_rfl
def xW4(f:Fw)(line:Int)(c:Gc.C):iS pP 144 [J line,c.sv] f (J (cD f),lG f):=
 rp (hB (l:=[Rm]) (k:=[]) (j:=[]) (i:=[]) nN nN nN nN (⟨yJ2,trivial⟩) v8 v8 v8) 1000 xW6 (keep:=(x6 55 [])) (t:=QI f line c) (xW5 f line c) (by
  unfold QI;have a:=Bd (g:=f.g0) (r:=f.r0);have b:=Bd (g:=f.g1) (r:=f.r1)
  have m3:f.mode=3\/¬f.mode=3:=by omega
  simp only[ak.holds,sM];(repeat' (first|apply aX|intro _));
  all_goals first
   |omega
   |(refine ends (mJ ?_) ?_ rfl
     .unfold cD;simp_all
     .first
      |(rw[show lG f=f by unfold lG mA;rw[au (by simp_all),au (by simp_all),ay (by simp_all),ay (by assumption)]];exact j7.refl _)
      |(rw[show lG f=f by unfold lG jQ mA;simp_all];exact j7.refl _)
      |(rw[show lG f={f with g0:=f.g0.rest f.r0} by unfold lG jQ mA;simp_all];exact j7.refl _)
      |(rw[show lG f={f with mode:=1} by unfold lG jQ mA;simp_all];exact j7.refl _)
      |(rw[show lG f={f with g0:=f.g0.rest f.r0,mode:=1} by unfold lG jQ mA;simp_all];exact j7.refl _)
      |(rw[show lG f={f with g1:=f.g1.rest f.r1,mode:=1} by unfold lG jQ mA;simp_all];exact j7.refl _)
      |(rw[show lG f={f with g0:=f.g0.rest f.r0,g1:=f.g1.rest f.r1,mode:=1} by unfold lG jQ mA;simp_all];exact j7.refl _)
     )) (by kernel_rfl) (by kernel_rfl) (by kernel_rfl)
noncomputable def um:iY:=vO 144 λf rest=>match rest with
 |[.int .i64 line,.agg [.int .i64 a0,.int .i64 a1,.int .i64 a2,.int .i64 a3,.int .i64 a4,.int .i64 a5,.int .i64 a6,.int .i64 a7]] =>some (.ai (J (cD f),lG f))
 |_=>none
def Yq:um.ok pP:=Ad λf rest t ht=>by
 split at ht<;>cases ht;exact xW4 f _ ⟨_,_,_,_,_,_,_,_⟩
def xR7:ax:=.ah (.ah (.all) (.all)) (.ah (.all) (.all))
noncomputable def QK(f:Fw)(line:Int)(c:Gc.C):ak eW:= .ag (c.code==1024) (.ag (f.mode != 2) (.ai (.fin (.ret (.int .i64 14) [some (.cells (Fw.cells f))]))) (.ai (.fin (.ret (.int .i64 0) [some (.cells (Fw.cells {f with mode:=1}))])))) (.ag (f.mode != 1) (.ai (.fin (.ret (.int .i64 14) [some (.cells (Fw.cells f))]))) (.ai (.fin (.ret (.int .i64 0) [some (.cells (Fw.cells {f with mode:=2}))]))))
def xR6(f:Fw)(line:Int)(c:Gc.C):fU (Env.cq pP (j9 []) (d9 []) (f0 []) (b9 []) (j6 []) (j6 []) (j6 []) (j6 [])) 1000 (x9 pP 145) 1 (x6 26 []) (v7 pP 145) xR7 (v6 pP 145 [.ptr 0 0,J line,c.sv]) [some (.cells f.cells)] =QK f line c:=by kernel_rfl
def xR5(f:Fw)(line:Int)(c:Gc.C):iS pP 145 [J line,c.sv] f (J (qC f c),xf f c):=
 rp (hB (l:=[]) (k:=[]) (j:=[]) (i:=[]) nN nN nN nN (trivial) v8 v8 v8) 1000 xR7 (keep:=(x6 26 [])) (t:=QK f line c) (xR6 f line c) (by
  unfold QK;simp only[ak.holds,sM];(repeat' (first|apply aX|intro _));
  all_goals first
   |(unfold qC xf;simp only[*,pc,iD,mG,oQ];exact ends rfl (j7.refl _) rfl)) (by kernel_rfl) (by kernel_rfl) (by kernel_rfl)
noncomputable def uo:iY:=vO 145 λf rest=>match rest with
 |[.int .i64 line,.agg [.int .i64 a0,.int .i64 a1,.int .i64 a2,.int .i64 a3,.int .i64 a4,.int .i64 a5,.int .i64 a6,.int .i64 a7]] =>some (.ai (J (qC f ⟨a0,a1,a2,a3,a4,a5,a6,a7⟩),xf f ⟨a0,a1,a2,a3,a4,a5,a6,a7⟩))
 |_=>none
def Yr:uo.ok pP:=Ad λf rest t ht=>by
 split at ht<;>cases ht;exact xR5 f _ ⟨_,_,_,_,_,_,_,_⟩
def xE4:ax:=.ah (.all) (.all)
noncomputable def QR(f:Fw)(line:Int)(c:Gc.C):ak eW:= .ag (!eF f) (.ai (.fin (.ret (.int .i64 18) [some (.cells (Fw.cells f))]))) (.ai (.fin (.ret (.int .i64 0) [some (.cells (Fw.cells {f with bt:=c.s}))])))
def xE3(f:Fw)(line:Int)(c:Gc.C):fU (Env.cq pP (j9 [vC]) (d9 []) (f0 []) (b9 []) (j6 []) (j6 []) (j6 []) (j6 [])) 1000 (x9 pP 147) 1 (x6 19 []) (v7 pP 147) xE4 (v6 pP 147 [.ptr 0 0,J line,c.sv]) [some (.cells f.cells)] =QR f line c:=by kernel_rfl
def xE2(f:Fw)(line:Int)(c:Gc.C):iS pP 147 [J line,c.sv] f (J (wM f),Cv f c):=
 rp (hB (l:=[vC]) (k:=[]) (j:=[]) (i:=[]) nN nN nN nN (⟨P0,trivial⟩) v8 v8 v8) 1000 xE4 (keep:=(x6 19 [])) (t:=QR f line c) (xE3 f line c) (by
  unfold QR;simp only[ak.holds,sM];(repeat' (first|apply aX|intro _));
  all_goals(unfold wM Cv;simp only[*,pc,iD,eY];exact ends rfl (j7.refl _) rfl)) (by kernel_rfl) (by kernel_rfl) (by kernel_rfl)
noncomputable def uw:iY:=vO 147 λf rest=>match rest with
 |[.int .i64 line,.agg [.int .i64 a0,.int .i64 a1,.int .i64 a2,.int .i64 a3,.int .i64 a4,.int .i64 a5,.int .i64 a6,.int .i64 a7]] =>some (.ai (J (wM f),Cv f ⟨a0,a1,a2,a3,a4,a5,a6,a7⟩))
 |_=>none
def Yu:uw.ok pP:=Ad λf rest t ht=>by
 split at ht<;>cases ht;exact xE2 f _ ⟨_,_,_,_,_,_,_,_⟩
def xF3:ax:=.all
noncomputable def QQ(f:Fw)(line:Int)(c:Gc.C):ak eW:= .ai (.fin (.ret (.int .i64 0) [some (.cells (Fw.cells {f with fo:=c.s}))]))
def xF2(f:Fw)(line:Int)(c:Gc.C):fU (Env.cq pP (j9 []) (d9 []) (f0 []) (b9 []) (j6 []) (j6 []) (j6 []) (j6 [])) 1000 (x9 pP 149) 1 (x6 13 []) (v7 pP 149) xF3 (v6 pP 149 [.ptr 0 0,J line,c.sv]) [some (.cells f.cells)] =QQ f line c:=by kernel_rfl
def xF1(f:Fw)(line:Int)(c:Gc.C):iS pP 149 [J line,c.sv] f (J 0,{f with fo:=c.s}):=
 rp (hB (l:=[]) (k:=[]) (j:=[]) (i:=[]) nN nN nN nN (trivial) v8 v8 v8) 1000 xF3 (keep:=(x6 13 [])) (t:=QQ f line c) (xF2 f line c) (by
  unfold QQ
  exact ends rfl (j7.refl _) rfl) (by kernel_rfl) (by kernel_rfl) (by kernel_rfl)
noncomputable def uu:iY:=vO 149 λf rest=>match rest with
 |[.int .i64 line,.agg [.int .i64 a0,.int .i64 a1,.int .i64 a2,.int .i64 a3,.int .i64 a4,.int .i64 a5,.int .i64 a6,.int .i64 a7]] =>some (.ai (J 0,{f with fo:=a7}))
 |_=>none
def Yt:uu.ok pP:=Ad λf rest t ht=>by
 split at ht<;>cases ht;exact xF1 f _ ⟨_,_,_,_,_,_,_,_⟩
def xI8:ax:=let z0:ax:=.ah (.ar (.ah (.ln 3 pA) (.ln 3 (.ah .all .all)))) pA;.ah (.ln 4 z0) (.ln 3 (.ah z0 z0))
noncomputable def QP(f:Fw)(line:Int)(c:Gc.C):ak eW:=let y1:ak eW:=rT (.ai (.fin (.ret (.int .i64 0) [some (.cells (Fw.cells {f with waits:=(i64.wrap (↑(BitVec.ofInt 64 f.waits |||BitVec.ofInt 64 1).toNat:Int)),c0:=(f.c0.fM c.s)}))])));let y2:ak eW:=rT (.ai (.fin (.ret (.int .i64 0) [some (.cells (Fw.cells {f with waits:=(i64.wrap (↑(BitVec.ofInt 64 f.waits |||BitVec.ofInt 64 2).toNat:Int)),c1:=(f.c1.fM c.s)}))])));let y0:ak eW:=rT (.ag (mS f.c1 c.s) (rT (.ag (c.code==1109) y2 (.ag (c.code==1190) y2 (.ai (.fin (.ret (.int .i64 0) [some (.cells (Fw.cells {f with c1:=(f.c1.fM c.s)}))])))))) (.ai (.fin (.ret (.int .i64 1) [some (.cells (Fw.cells f))])))); .ag (c.code==1140) y0 (.ag (c.code==1190) y0 (rT (.ag (mS f.c0 c.s) (rT (.ag (c.code==1109) y1 (.ag (c.code==1190) y1 (.ai (.fin (.ret (.int .i64 0) [some (.cells (Fw.cells {f with c0:=(f.c0.fM c.s)}))])))))) (.ai (.fin (.ret (.int .i64 1) [some (.cells (Fw.cells f))]))))))
def xI7(f:Fw)(line:Int)(c:Gc.C):fU (Env.cq pP (j9 [z32]) (d9 []) (f0 []) (b9 []) (j6 []) (j6 []) (j6 []) (j6 [])) 1000 (x9 pP 150) 1 (x6 60 []) (v7 pP 150) xI8 (v6 pP 150 [.ptr 0 0,J line,c.sv]) [some (.cells f.cells)] =QP f line c:=by kernel_rfl
def xI6(f:Fw)(line:Int)(c:Gc.C):iS pP 150 [J line,c.sv] f (J (xQ f c),DS f c):=
 rp (hB (l:=[z32]) (k:=[]) (j:=[]) (i:=[]) nN nN nN nN (⟨yr9,trivial⟩) v8 v8 v8) 1000 xI8 (keep:=(x6 60 [])) (t:=QP f line c) (xI7 f line c) (by
  unfold QP
  have b1:qY c=true↔c.code=1140\/c.code=1190:=by simp only[qY,ia,cI]
  have b2:uk c=true↔c.code=1109\/c.code=1190:=by simp only[uk,ia,cI]
  simp only[ak.holds,sM];(repeat' (first|apply aX|intro _));
  all_goals first
   |omega
   |(unfold DS ub xQ ua rC;simp only[b1,b2];simp_all;first|done|exact ends rfl (j7.refl _) rfl)) (by kernel_rfl) (by kernel_rfl) (by kernel_rfl)
noncomputable def ut:iY:=vO 150 λf rest=>match rest with
 |[.int .i64 line,.agg [.int .i64 a0,.int .i64 a1,.int .i64 a2,.int .i64 a3,.int .i64 a4,.int .i64 a5,.int .i64 a6,.int .i64 a7]] =>some (.ai (J (xQ f ⟨a0,a1,a2,a3,a4,a5,a6,a7⟩),DS f ⟨a0,a1,a2,a3,a4,a5,a6,a7⟩))
 |_=>none
def Ys:ut.ok pP:=Ad λf rest t ht=>by
 split at ht<;>cases ht;exact xI6 f _ ⟨_,_,_,_,_,_,_,_⟩
def Co.xB{c:Co}(h:c.ok=true)(r:Int):(c.step r).ok=true/\(c.step r).target=c.target:=by
 unfold Co.step
 split
 .rename_i hl
  have a:=WC hl;have o:=(Co.bz c).1 h;have b:=CC (n:=c.sum+c.ki*(c.target-r)) (lo:=0) (hi:=c.dA) (by omega);refine⟨?_,rfl⟩;rw[Co.bz];dsimp only;refine⟨o.1,o.2.1,o.2.2.1,o.2.2.2.1,o.2.2.2.2.1,?_⟩;unfold Co.aN
  split<;>omega
 .exact⟨h,rfl⟩
def Co.ah2{c:Co}{t:Int}(h:mS c t=true):(c.fM t).ok=true:=by
 obtain⟨h1,h2⟩:=wG.1 h;have o:=(Co.bz c).1 h1;rw[Co.bz];unfold Co.fM;dsimp only;omega
variable{g:Gu}
def Gu.abX(h:g.ok=true):g.kV.ok=true/\g.kV.fault=g.fault/\g.kV.low=g.low/\g.kV.bQ=g.bQ:=by
 rw[Gu.abW h];have o:=(Gu.bz g).1 h;refine⟨?_,rfl,rfl,rfl⟩;rw[Gu.bz];dsimp only;omega
def Gu.ab0(h:g.ok=true):g.stop.ok=true/\g.stop.fault=4/\g.stop.low=g.low/\g.stop.bQ=g.bQ:=by
 rw[Gu.abZ h];have o:=(Gu.bz g).1 h;refine⟨?_,rfl,rfl,rfl⟩;rw[Gu.bz];dsimp only;omega
variable{r:Int}
def Gu.auo(h:g.ok=true)(hr:g.cD r=0):(g.rest r).ok=true/\(g.rest r).fault=0/\(g.rest r).low=g.low/\(g.rest r).bQ=g.bQ:=by
 have o:=(Gu.bz g).1 h;unfold Gu.cD at hr;rw[h]at hr;dsimp only at hr;refine⟨?_,rfl,rfl,rfl⟩;rw[Gu.bz];unfold Gu.rest;dsimp only
 (repeat' split at hr)<;>omega
def Gu.atN(g:Gu)(r t u:Int):g.cB r t u<=7:=by
 unfold Gu.cB;(repeat' split)<;>omega
variable{u:Int}
def Gu.aub{t:Int}(h:g.cB r t u=0):g.step r t u=g:=by unfold Gu.step;simp only[h]
def Gu.aua{t:Int}(h:g.cB r t u=1):g.step r t u={g with fault:=1}:=by unfold Gu.step;simp only[h]
def Gu.at9{t:Int}(h:g.cB r t u=2):g.step r t u={g with fault:=2}:=by unfold Gu.step;simp only[h]
def Gu.at8{t:Int}(h:g.cB r t u=3):g.step r t u={g with quiet:=g.idle,base:=r,count:=0}:=by unfold Gu.step;simp only[h]
def Gu.at7{t:Int}(h:g.cB r t u=4):g.step r t u={g with quiet:=g.quiet+1,base:=r,count:=0}:=by unfold Gu.step;simp only[h]
def Gu.at6{t:Int}(h:g.cB r t u=5):g.step r t u={g with quiet:=g.quiet+1,base:=r,count:=0}:=by unfold Gu.step;simp only[h]
def Gu.at5{t:Int}(h:g.cB r t u=6):g.step r t u={g with quiet:=g.quiet+1,base:=g.kj r,count:=g.watch,fault:=3}:=by unfold Gu.step;simp only[h]
def Gu.at3{t:Int}(h:g.cB r t u=7):g.step r t u={g with quiet:=g.quiet+1,base:=g.kj r,count:=g.fw r}:=by unfold Gu.step;simp only[h]
def Gu.xB(h:g.ok=true)(r t u:Int):(g.step r t u).ok=true/\(g.step r t u).low=g.low/\(g.step r t u).bQ=g.bQ/\(g.step r t u).bN=g.bN:=by
 have o:=(Gu.bz g).1 h
 have hb:g.kj r=r\/g.kj r=g.base:=by unfold Gu.kj;split<;>simp
 have hc:0<=g.fw r:=by unfold Gu.fw;split<;>omega
 have hw:(3<=g.cB r t u->g.low<=r/\r<=g.bQ)/\(4<=g.cB r t u->g.quiet+1<g.idle)/\(7<=g.cB r t u->g.fw r<g.watch):=by
  unfold Gu.cB;rw[h];dsimp only
  (repeat' split)<;>omega
 have w7:=Gu.atN g r t u
 have aBc:g.cB r t u=0\/g.cB r t u=1\/g.cB r t u=2\/g.cB r t u=3\/g.cB r t u=4\/g.cB r t u=5\/g.cB r t u=6\/g.cB r t u=7:=by omega
 rcases aBc with e|e|e|e|e|e|e|e
 .rw[Gu.aub e];exact⟨h,rfl,rfl,rfl⟩
 .rw[Gu.aua e];refine⟨?_,rfl,rfl,rfl⟩;rw[Gu.bz];dsimp only;omega
 .rw[Gu.at9 e];refine⟨?_,rfl,rfl,rfl⟩;rw[Gu.bz];dsimp only;omega
 .rw[Gu.at8 e];refine⟨?_,rfl,rfl,rfl⟩;rw[Gu.bz];dsimp only;omega
 .rw[Gu.at7 e];refine⟨?_,rfl,rfl,rfl⟩;rw[Gu.bz];dsimp only;omega
 .rw[Gu.at6 e];refine⟨?_,rfl,rfl,rfl⟩;rw[Gu.bz];dsimp only;omega
 .rw[Gu.at5 e];refine⟨?_,rfl,rfl,rfl⟩;rw[Gu.bz];dsimp only;omega
 .rw[Gu.at3 e];refine⟨?_,rfl,rfl,rfl⟩;rw[Gu.bz];dsimp only;omega
variable{n k:Int}
def MC(hn:1<=n):jD n 0 k=0:=by
 have e:(2*0*sz k+n) / (2*n)=0:=by
  rw[Int.mul_zero,UV,UW];exact air (by omega) (by omega)
 unfold jD;rw[e];split<;>omega
def ME(hn:1<=n):jD n n k=k:=by
 have e:(2*n*sz k+n) / (2*n)=sz k:=by
  rw[Int.add_comm,aBP _ _ (by omega),air (by omega) (by omega)];omega
 unfold jD;rw[e];unfold sz;split<;>omega
def zr1(c:V4):fK c 0=z4:=by
 cases h:bM c with
 |false=>exact E2 h
 |true=>
  have m:=(vk h).1
  have z:mM (cQ c) 0=0:=by unfold mM;(repeat' split)<;>omega
  rw[Cm h,z,MC m,MC m,MC m,MC m];rfl
def zq7{c:V4}(h:bM c=true):fK c (aF c)=c:=by
 have m:=(vk h).1
 have z:mM (cQ c) (cQ c)=cQ c:=by unfold mM;(repeat' split)<;>omega
 rw[Cm h,AU h,z,ME m,ME m,ME m,ME m]
def Cp(a:V4):f5 a z4=a:=by unfold f5 z4;simp
def VL(a b:V4):f5 a (iC b a)=b:=by
 unfold f5 iC
 refine Ia ?_ (Ia ?_ (Ia ?_ ?_))<;>(dsimp only;omega)
section
variable {m:Mo} {t:Int}
def zZ1(h:kO m=true):fc m=m.1.1:=by
 obtain⟨h1,h2⟩:=IJ.1 h;have v:=(sV.1 h1).1.1;have d:=nQ m.1.1;rw[A6 ⟨h1,by omega,by omega⟩,h2,zq7 v]
def yb9(b:Bk)(t:Int):fc (rF b t)=z4:=by
 cases h:f6 b with
 |false=>exact JV λc=>by rw[show(rF b t).1=b from rfl,h]at c;cases c.1
 |true=>
  have d:=nQ b.1;rw[A6 (m:=rF b t) ⟨h,Cf 0,d.1⟩];exact zr1 b.1
def q04{b:Bk}{i t:Int}(h:f6 b=true/\1<=i/\i<=aF b.1)(ht:1<=t/\t<=1048576):1<=fP b i t:=by
 have s:=je0 h;have p:=Ls (n:=ee b i) s.1;unfold fP;rw[ay ⟨s.1,ht⟩];exact NK (by omega) (by omega)
def jf9{b:Bk}(h:pX b t=true):mu (rF b t) t=true:=by
 obtain⟨h1,h2⟩:=CS.1 h;have d:=G6 h1;exact lF.2 ⟨h1,⟨Cf 0,by show(0:Int)<=aF b.1-1;omega⟩,q04 ⟨h1,by omega,d.1⟩ h2,Cf _⟩
def xy0(h:mu m t=true):1<=t/\t<=1048576:=by
 have r:=lF.1 h;exact L4 (b:=m.1) (i:=m.2.1+1) (by omega)
def jn1(h:mu m t=true)(h1:1<m.2.2):gM m t=(m.1,m.2.1,m.2.2-1)/\eP m t=z4:=by
 unfold gM eP;rw[h];simp only[ay h1];trivial
def jn0(h:mu m t=true)(h1:¬1<m.2.2):gM m t=(m.1,m.2.1+1,if m.2.1+1=aF m.1.1 then 0 else fP m.1 (m.2.1+2) t)/\eP m t=nC m.1.1 (m.2.1+1):=by
 unfold gM eP;rw[h];simp only[au h1];trivial
def X9(h:mu m t=true):fc (gM m t)=f5 (fc m) (eP m t):=by
 have r:=lF.1 h;have d:=nQ m.1.1
 by_cases h1:1<m.2.2
 .obtain⟨e1,e2⟩:=jn1 h h1
  rw[e1,e2,Cp];rfl
 .obtain⟨e1,e2⟩:=jn0 h h1
  rw[e1,e2,A6 (m:=(m.1,m.2.1+1,_)) ⟨r.1,by show(0:Int)<=m.2.1+1;omega,by show m.2.1+1<=aF m.1.1;omega⟩,A6 (m:=m) ⟨r.1,by omega,by omega⟩]
  have p:nC m.1.1 (m.2.1+1)=iC (fK m.1.1 (m.2.1+1)) (fK m.1.1 m.2.1):=by
   unfold nC;rw[v5.2 (show 1<=m.2.1+1/\m.2.1+1<=aF m.1.1 by omega),show m.2.1+1-1=m.2.1 by omega]
  rw[p,VL]
def SN(m:Mo)(t:Int):(gM m t).1=m.1:=by
 unfold gM
 split;.split<;>rfl
 .rfl
def jo2(h:mu m t=true)(he:kO (gM m t)=false):mu (gM m t) t=true:=by
 have r:=lF.1 h;have d:=nQ m.1.1
 by_cases h1:1<m.2.2
 .obtain⟨e1,_⟩:=jn1 h h1
  rw[e1];exact lF.2 ⟨r.1,r.2.1,by show 1<=m.2.2-1;omega,by show m.2.2-1<=fP m.1 (m.2.1+1) t;have:=r.2.2.2;omega⟩
 .obtain⟨e1,_⟩:=jn0 h h1
  rw[e1]at he ⊢
  have hd:¬m.2.1+1=aF m.1.1:=λc=>by
   have:kO (m.1,m.2.1+1,if m.2.1+1=aF m.1.1 then 0 else fP m.1 (m.2.1+2) t)=true:=IJ.2 ⟨r.1,c⟩;rw[he]at this;cases this
  rw[au hd];refine lF.2 ⟨r.1,⟨by show 0<=m.2.1+1;omega,by show m.2.1+1<=aF m.1.1-1;omega⟩,?_,?_⟩;.exact q04 ⟨r.1,by omega,by omega⟩ (xy0 h)
  .show fP m.1 (m.2.1+2) t<=fP m.1 (m.2.1+1+1) t
   rw[show m.2.1+1+1=m.2.1+2 by omega];exact Cf _
end
def CV(f:Fw):Bool:=f.c0.ok&& (f.c1.ok&& (f.g0.ok&& (f.g1.ok&&f4 f)))
def Y9:CV f=true↔f.c0.ok=true/\f.c1.ok=true/\f.g0.ok=true/\f.g1.ok=true/\f4 f=true:=by simp only[CV,aH]
def pT(f:Fw):Int×Int:=if(tM f).mode=3 then(0,0)else(AT f,AS f)
def tY(f:Fw):Fw:=iW (tM f)
def CQ:rA f=true↔(f.g0.fault=0/\¬(f.g0.step f.r0 (f.c0.step f.r0).target (f.c0.cM f.r0)).fault=0)\/(f.g1.fault=0/\¬(f.g1.step f.r1 (f.c1.step f.r1).target (f.c1.cM f.r1)).fault=0):=by
 simp only[rA,Pd,ji,ia,aH,iJ,cI,dM,dz]
def q94(f:Fw):(ek f).c0=f.c0:=rfl
def q95(f:Fw):(ek f).c1=f.c1:=rfl
def q96(f:Fw):(ek f).g0=f.g0:=rfl
def q97(f:Fw):(ek f).g1=f.g1:=rfl
def MW{c:Co}(h:r>=c.target-g.bN):By c g r=true:=bn h
def MX{c:Co}(h:¬r>=c.target-g.bN):¬By c g r=true:=λk=>h (bG k)
def Bz{x:Fw}(a:x.r0>=x.c0.target-x.g0.bN)(b:x.r1>=x.c1.target-x.g1.bN):iW x={x with waits:=Gc.andNot (Gc.andNot x.waits 1) 2}:=by unfold iW;rw[ay (MW b),ay (MW a)]
def BA{x:Fw}(a:x.r0>=x.c0.target-x.g0.bN)(b:¬x.r1>=x.c1.target-x.g1.bN):iW x={x with waits:=Gc.andNot x.waits 1}:=by unfold iW;rw[au (MX b),ay (MW a)]
def BB{x:Fw}(a:¬x.r0>=x.c0.target-x.g0.bN)(b:x.r1>=x.c1.target-x.g1.bN):iW x={x with waits:=Gc.andNot x.waits 2}:=by unfold iW;rw[ay (MW b),au (MX a)]
def BC{x:Fw}(a:¬x.r0>=x.c0.target-x.g0.bN)(b:¬x.r1>=x.c1.target-x.g1.bN):iW x=x:=by unfold iW;rw[au (MX b),au (MX a)]
def A3(f:Fw):Bool:=f4 f&&az f.bt 0 1048576
def XZ:A3 f=true↔f4 f=true/\0<=f.bt/\f.bt<=1048576:=by simp only[A3,aH,v5]
def zw5(f:Fw):(s7 f).pos=f.pos:=by unfold s7;split<;>rfl
def xd5(c:V4)(i:Int):kL (nC c i)=true:=by
 unfold nC
 split
 .have a:=E3 c i
  have b:=E3 c (i-1);rw[wE];unfold iC;dsimp only;omega
 .decide
def jn3(m:Mo)(t:Int):kL (eP m t)=true:=by
 unfold eP
 split
 .split
  .decide
  .exact xd5 _ _
 .decide
def xJ3:ax:=let z1:ax:=.go (.ar (.ah (.go (.ar (.ah .all .all))) (.go (.ar (.ah .all .all)))));let z2:ax:=.go (.ar (.ah (.go (.ar pA)) (.go (.ar pA))));let z0:ax:=.ah (.ln 11 (.go (.ar (.ah (.go (.ar (.ah z2 z2))) (.go (.ar (.ah z1 z1))))))) (.ln 11 (.go (.ar (.ar (.go (.ar (.ah z1 z1)))))));.go (.ln 4 (.ah (.ln 11 (.go (.ar (.ah (.ln 4 (.go (.ar (.ar (.go (.ar (.ah z2 z2))))))) (.ar (.ar z0)))))) (.ln 11 (.go (.ln 4 z0)))))
noncomputable def QO(f:Fw):ak eW:=let y8:SV:=.agg [.int .i64 0,.int .i64 0];let fA:=f.c1.step f.r1;let y4:=f.g1.step f.r1 fA.target (f.c1.cM f.r1);let kR:=f.c0.step f.r0;let y5:=f.g0.step f.r0 kR.target (f.c0.cM f.r0);let y1:={f with c0:=kR,c1:=fA,g0:=y5,g1:=y4};let y6:SV:=.agg [.int .i64 (f.g0.cM f.r0 kR.target (f.c0.cM f.r0)),.int .i64 (f.g1.cM f.r1 fA.target (f.c1.cM f.r1))];let dg:aR:=.cells (Fw.cells {f with waits:=(i64.wrap (↑(BitVec.ofInt 64 f.waits &&& ~~~BitVec.ofInt 64 2).toNat:Int)),c0:=kR,c1:=fA,g0:=y5,g1:=y4});let jP:=i64.wrap (↑(BitVec.ofInt 64 (ek y1).waits &&& ~~~BitVec.ofInt 64 1).toNat:Int);let jO:=i64.wrap (↑(BitVec.ofInt 64 f.waits &&& ~~~BitVec.ofInt 64 1).toNat:Int);let y7:aR:=.cells (Fw.cells {f with waits:=(i64.wrap (↑(BitVec.ofInt 64 jO &&& ~~~BitVec.ofInt 64 2).toNat:Int)),c0:=kR,c1:=fA,g0:=y5,g1:=y4});let y9:aR:=.cells (Fw.cells {f with waits:=jO,c0:=kR,c1:=fA,g0:=y5,g1:=y4});let jN:=decide (f.r1>=i64.wrap ((ek y1).c1.target-(ek y1).g1.bN));let y3:ak eW:=.aj (f4 y1) (rT (rT (rT (.ag (f.r0>=i64.wrap ((ek y1).c0.target-(ek y1).g0.bN)) (rT (rT (rT (rT (.ag jN (rT (.ai (.fin (.ret y8 [some (.cells (Fw.cells { (ek y1)with mode:=3,waits:=(i64.wrap (↑(BitVec.ofInt 64 jP &&& ~~~BitVec.ofInt 64 2).toNat:Int))}))])))) (.ai (.fin (.ret y8 [some (.cells (Fw.cells { (ek y1)with mode:=3,waits:=jP}))])))))))) (rT (rT (rT (.ag jN (rT (.ai (.fin (.ret y8 [some (.cells (Fw.cells { (ek y1)with mode:=3,waits:=(i64.wrap (↑(BitVec.ofInt 64 (ek y1).waits &&& ~~~BitVec.ofInt 64 2).toNat:Int))}))])))) (.ai (.fin (.ret y8 [some (.cells (Fw.cells { (ek y1)with mode:=3}))])))))))))));let jM:aR:=.cells (Fw.cells {f with c0:=kR,c1:=fA,g0:=y5,g1:=y4});let y2:ak eW:=rT (rT (rT (.ag (f.r0>=i64.wrap (kR.target-y5.bN)) (rT (rT (rT (rT (.ag (f.r1>=i64.wrap (fA.target-y4.bN)) (rT (.ag (f.mode==3) (.ai (.fin (.ret y8 [some y7]))) (.ai (.fin (.ret y6 [some y7]))))) (.ag (f.mode==3) (.ai (.fin (.ret y8 [some y9]))) (.ai (.fin (.ret y6 [some y9]))))))))) (rT (rT (rT (.ag (f.r1>=i64.wrap (fA.target-y4.bN)) (rT (.ag (f.mode==3) (.ai (.fin (.ret y8 [some dg]))) (.ai (.fin (.ret y6 [some dg]))))) (.ag (f.mode==3) (.ai (.fin (.ret y8 [some jM]))) (.ai (.fin (.ret y6 [some jM])))))))))));let y0:ak eW:=.ag (f.g1.fault==0) (rT (.ag (y4.fault != 0) y3 y2)) y2; rT (rT (rT (rT (rT (rT (rT (rT (.ag (f.g0.fault==0) (rT (rT (rT (rT (rT (rT (rT (rT (rT (.ag (y5.fault != 0) y3 y0)))))))))) (rT (rT (rT (rT (rT (rT (rT (.aj true y0))))))))))))))))
def xJ2(f:Fw):fU (Env.cq pP (j9 [z60,ON]) (d9 []) (f0 [bF.toP qZ]) (b9 [qZ]) (j6 []) (j6 []) (j6 []) (j6 [])) 1000 (x9 pP 78) 1 (x6 141 []) (v7 pP 78) xJ3 (v6 pP 78 [.ptr 0 0,.agg [J f.r0,J f.r1]]) [some (.cells f.cells)] =QO f:=by kernel_rfl
def xJ0(f:Fw)(h:CV f=true):iS pP 78 [.agg [J f.r0,J f.r1]] f (.agg [J (pT f).1,J (pT f).2],tY f):=
 rp (hB (l:=[z60,ON]) (k:=[]) (j:=[bF.toP qZ]) (i:=[qZ]) nN nN nN nN (⟨yv5,yz2,trivial⟩) v8 (gx.all (p:=kq.ok pP) (l:=[bF.toP qZ]) ⟨bF.toP_ok Jy,trivial⟩) (gx.all (p:=bF.ok pP) (l:=[qZ]) ⟨Jy,trivial⟩)) 1000 xJ3 (keep:=(x6 141 [])) (t:=QO f) (xJ2 f) (by
  unfold QO;have p:=Y9.1 h;have c0k:=Co.xB p.1 f.r0;have c1k:=Co.xB p.2.1 f.r1;have g0k:=Gu.xB p.2.2.1 f.r0 (f.c0.step f.r0).target (f.c0.cM f.r0);have g1k:=Gu.xB p.2.2.2.1 f.r1 (f.c1.step f.r1).target (f.c1.cM f.r1);have c0o:=(Co.bz _).1 c0k.1;have c1o:=(Co.bz _).1 c1k.1;have g0o:=(Gu.bz _).1 g0k.1;have g1o:=(Gu.bz _).1 g1k.1;have w0:=aG (x:=(f.c0.step f.r0).target-(f.g0.step f.r0 (f.c0.step f.r0).target (f.c0.cM f.r0)).bN) (by omega) (by omega);have w1:=aG (x:=(f.c1.step f.r1).target-(f.g1.step f.r1 (f.c1.step f.r1).target (f.c1.cM f.r1)).bN) (by omega) (by omega);simp only[ak.holds,q94,q95,q96,q97,w0,w1,sM];(repeat' (first|apply aX|intro _));
  all_goals first
   |exact p.2.2.2.2
   |(have e:tM f={ek (ji f)with mode:=3}:=ay (CQ.2 (by omega))
     unfold pT tY;rw[e]
     first
     |(rw[ay rfl];first|(rw[Bz (by assumption) (by assumption)];exact ends rfl (j7.refl _) rfl)|(rw[BA (by assumption) (by assumption)];exact ends rfl (j7.refl _) rfl)|(rw[BB (by assumption) (by assumption)];exact ends rfl (j7.refl _) rfl)|(rw[BC (by assumption) (by assumption)];exact ends rfl (j7.refl _) rfl))
     |(rw[ay (by assumption)];first|(rw[Bz (by assumption) (by assumption)];exact ends rfl (j7.refl _) rfl)|(rw[BA (by assumption) (by assumption)];exact ends rfl (j7.refl _) rfl)|(rw[BB (by assumption) (by assumption)];exact ends rfl (j7.refl _) rfl)|(rw[BC (by assumption) (by assumption)];exact ends rfl (j7.refl _) rfl))
     |(rw[au (by assumption)];first|(rw[Bz (by assumption) (by assumption)];exact ends rfl (j7.refl _) rfl)|(rw[BA (by assumption) (by assumption)];exact ends rfl (j7.refl _) rfl)|(rw[BB (by assumption) (by assumption)];exact ends rfl (j7.refl _) rfl)|(rw[BC (by assumption) (by assumption)];exact ends rfl (j7.refl _) rfl)))
   |(have e:tM f=ji f:=au (λk=>by have k:=CQ.1 k;omega)
     unfold pT tY;rw[e]
     first
     |(rw[ay rfl];first|(rw[Bz (by assumption) (by assumption)];exact ends rfl (j7.refl _) rfl)|(rw[BA (by assumption) (by assumption)];exact ends rfl (j7.refl _) rfl)|(rw[BB (by assumption) (by assumption)];exact ends rfl (j7.refl _) rfl)|(rw[BC (by assumption) (by assumption)];exact ends rfl (j7.refl _) rfl))
     |(rw[ay (by assumption)];first|(rw[Bz (by assumption) (by assumption)];exact ends rfl (j7.refl _) rfl)|(rw[BA (by assumption) (by assumption)];exact ends rfl (j7.refl _) rfl)|(rw[BB (by assumption) (by assumption)];exact ends rfl (j7.refl _) rfl)|(rw[BC (by assumption) (by assumption)];exact ends rfl (j7.refl _) rfl))
     |(rw[au (by assumption)];first|(rw[Bz (by assumption) (by assumption)];exact ends rfl (j7.refl _) rfl)|(rw[BA (by assumption) (by assumption)];exact ends rfl (j7.refl _) rfl)|(rw[BB (by assumption) (by assumption)];exact ends rfl (j7.refl _) rfl)|(rw[BC (by assumption) (by assumption)];exact ends rfl (j7.refl _) rfl)))) (by kernel_rfl) (by kernel_rfl) (by kernel_rfl)
def E0:bF:=uS 78 λf rest=>match rest with
 |[.agg [.int .i64 a,.int .i64 b]] =>some (.aj (a=f.r0) (.aj (b=f.r1) (.aj (CV f) (.ai (.agg [J (pT f).1,J (pT f).2],tY f)))))
 |_=>none
def Xq:E0.ok pP:=Ck λf rest t ht=>by
 split at ht<;>cases ht;exact λha hb h=>by rw[bG ha,bG hb];exact xJ0 f h
def xO3:ax:=.ah (.all) (.ah (.all) (.ah (.all) (.ah (.all) (.all))))
noncomputable def QL(f:Fw):ak eW:=let y0:=((((s7 f).mo.1.1.1,(s7 f).mo.1.1.2.1,(s7 f).mo.1.1.2.2),(s7 f).mo.1.2.1,(s7 f).mo.1.2.2.1,(s7 f).mo.1.2.2.2),(s7 f).mo.2);let y1:=eP y0 (s7 f).ma.aU;let y2:=gM y0 (s7 f).ma.aU;let y3:SV:=.agg [.int .i64 0,.int .i64 0,.int .i64 0,.int .i64 0];let y4:SV:=.agg [.int .i64 y1.1,.int .i64 y1.2.1,.int .i64 y1.2.2.1,.int .i64 y1.2.2.2];let y5:=eQ ((s7 f).pos.1,(s7 f).pos.2.1,(s7 f).pos.2.2) y1; .ag (f.mode==3) (.ai (.fin (.ret y3 [some (.cells (Fw.cells f))]))) (.ag (f.bt>0) (.ai (.fin (.ret y3 [some (.cells (Fw.cells {f with bt:=(i64.wrap (f.bt-1))}))]))) (.aj (f4 f) (.ag (!(s7 f).aT) (.ai (.fin (.ret y3 [some (.cells (Fw.cells (s7 f)))]))) (.ag (kO (((y2.1.1.1,y2.1.1.2.1,y2.1.1.2.2),y2.1.2.1,y2.1.2.2.1,y2.1.2.2.2),y2.2)) (.ai (.fin (.ret y4 [some (.cells (Fw.cells { (s7 f)with pos:=y5,mo:=(((0,0,0,0),0,0,0,0),0,0),aT:=false,bL:=0}))]))) (.ai (.fin (.ret y4 [some (.cells (Fw.cells { (s7 f)with pos:=y5,mo:=y2}))])))))))
def xO2(f:Fw):fU (Env.cq pP (j9 [Rf,OP,zH]) (d9 []) (f0 [bF.toP tE]) (b9 [tE]) (j6 []) (j6 []) (j6 []) (j6 [])) 1000 (x9 pP 79) 1 (x6 86 []) (v7 pP 79) xO3 (v6 pP 79 [.ptr 0 0]) [some (.cells f.cells)] =QL f:=by kernel_rfl
def xO1(f:Fw)(h:A3 f=true):iS pP 79 [] f (V4.sv (if f.mode=3 then z4 else jg f),(if f.mode=3 then f else kT f)):=
 rp (hB (l:=[Rf,OP,zH]) (k:=[]) (j:=[bF.toP tE]) (i:=[tE]) nN nN nN nN (⟨yN2,yw8,YL,trivial⟩) v8 (gx.all (p:=kq.ok pP) (l:=[bF.toP tE]) ⟨bF.toP_ok Jx,trivial⟩) (gx.all (p:=bF.ok pP) (l:=[tE]) ⟨Jx,trivial⟩)) 1000 xO3 (keep:=(x6 86 [])) (t:=QL f) (xO2 f) (by
  unfold QL;have mp:=XZ.1 h
  have bp:kL (s7 f).pos=true:=by rw[zw5];exact(oh.1 mp.1).1
  have wa:eQ (s7 f).pos (eP (s7 f).mo (s7 f).ma.aU)=f5 (s7 f).pos (eP (s7 f).mo (s7 f).ma.aU):=vP bp (jn3 _ _)
  have w1:0<f.bt->i64.wrap (f.bt-1)=f.bt-1:=λk=>aG (by omega) (by omega)
  refine⟨λa=>?_,λa=>⟨λb=>?_,λb=>⟨mp.1,λc=>?_,λc=>?_⟩⟩⟩
  .have a:=cI.1 a
   rw[ay a,ay a];exact ends rfl (j7.refl _) rfl
  .have a:=dM.1 a
   have b:=bG b;rw[au a,au a,w1 b,show kT f={f with bt:=f.bt-1} from ay b,show jg f=z4 from ay b];exact ends rfl (j7.refl _) rfl
  .have a:=dM.1 a
   have b:=cO b
   have c:¬(s7 f).aT=true:=by rw[iJ]at c;rw[c];exact fS
   rw[au a,au a,show kT f=s7 f by unfold kT;rw[au b,au c],show jg f=z4 by unfold jg;rw[au b,au c]];exact ends rfl (j7.refl _) rfl
  .have a:=dM.1 a
   have b:=cO b
   have c:(s7 f).aT=true:=by rw[qW]at c;exact c
   rw[au a,au a,show kT f=kF (s7 f) by unfold kT;rw[au b,ay c],show jg f=eP (s7 f).mo (s7 f).ma.aU by unfold jg;rw[au b,ay c]];refine⟨λd=>?_,λd=>?_⟩
   .rw[show kF (s7 f)={s7 f with pos:=eQ (s7 f).pos (eP (s7 f).mo (s7 f).ma.aU),mo:=m0,aT:=false,bL:=0} by unfold kF;rw[ay (show kO (gM (s7 f).mo (s7 f).ma.aU)=true from d),wa]]
    exact ends rfl (j7.refl _) rfl
   .rw[show kF (s7 f)={s7 f with pos:=eQ (s7 f).pos (eP (s7 f).mo (s7 f).ma.aU),mo:=gM (s7 f).mo (s7 f).ma.aU} by unfold kF;rw[au (by rw[show kO (gM (s7 f).mo (s7 f).ma.aU)=false from d];exact fS),wa]]
    exact ends rfl (j7.refl _) rfl) (by kernel_rfl) (by kernel_rfl) (by kernel_rfl)
def yh0(f:Fw)(h:A3 f=true):(ak.ag (f.mode==3) (.ai (V4.sv z4,f)) (.ai (V4.sv (jg f),kT f))).bw (iS pP 79 [] f):=by
 have k:=xO1 f h;refine⟨λa=>?_,λa=>?_⟩
 .have a:=cI.1 a
  rw[ay a,ay a]at k;exact k
 .have a:=dM.1 a
  rw[au a,au a]at k;exact k
def EZ:bF:=uS 79 λf rest=>match rest with
 |[] =>some (.aj (A3 f) (.ag (f.mode==3) (.ai (V4.sv z4,f)) (.ai (V4.sv (jg f),kT f))))
 |_=>none
def Xp:EZ.ok pP:=Ck λf rest t ht=>by
 split at ht<;>cases ht;exact λh=>yh0 f h
def yq:aB:=Gc.HQ 71 λc=>.ai (.bool c.valid)
def qa2:aB:=Gc.HQ 74 λc=>.ai (.bool c.vw)
def ri(f:Fw)(line:Int)(c:Gc.C):SV:=if eZ f line c=0 then .tuple [(jc f line c).sv,J 0]else .tuple [.agg (o9 aP),J (eZ f line c)]
def Xg:yq.ok pP:=Gc.Um λc=>Gc.Q5 c
def yz7:qa2.ok pP:=Gc.Um λc=>Gc.Q4 c
noncomputable def Lr:List Item:=Ek (fU (Env.cq pP (j9 [pQ,yq,xG]) (d9 [ul,um,uo,uq,uw,ur,uu,ut]) (f0 []) (b9 []) (j6 []) (j6 []) (j6 []) (j6 [3])) 1000 (x9 pP 24) 0 (x6 114 []) (v7 pP 24) .all (v6 pP 24 [aP.sv,J 0,(⟨0,0,0,0,0,0,0,0⟩:Gc.C).sv]) [])
def VV:ax:=.ah (.ln 11 pA) (.ln 3 (.ah (.ln 7 pA) (.ar (.ar (.ah (.ln 7 (.ah (.ar (.ar pA)) (.ar (.ar (.ah .all .all))))) (.ln 10 (.ah .all .all)))))))
def ac0(f:Fw)(line:Int)(c:Gc.C):o8 (Env.cq pP (j9 [pQ,yq,xG]) (d9 [ul,um,uo,uq,uw,ur,uu,ut]) (f0 []) (b9 []) (j6 []) (j6 []) (j6 []) (j6 [3])) 1000 (x9 pP 24) .unit (x6 114 [1,3,5,6]) (v7 pP 24) VV (v6 pP 24 [f.sv,J line,c.sv]) [] =(let y1:ak Stop:=.ai (.done (.tuple [.agg (o9 aP),J 1]));let y0:ak Stop:=.ag (line>1099511627776) y1 (.ai (.at Lr 114 (x7 114 [(1,J line),(3,.ptr 0 0),(5,.ptr 1 0),(6,.ptr 2 0)]) [some (.cells (Fw.cells f)),some (.cells [J c.code,J c.has,J c.x,J c.y,J c.z,J c.e,J c.f,J c.s]),some (.cells (o9 aP))])); .ag (!u9 f) y1 (.ag (!c.valid) y1 (.ag (line != 0) (.ag (line != i64.wrap (f.line+1)) y1 y0) y0))):=by kernel_rfl
def VS:ax:=let z4:ax:=.ah .all .all;let z1:ax:=.ln 4 (.ah .all (.ln 4 (.ah (.ln 5 pA) (.ln 5 (.ah .all z4)))));let z2:ax:=.ah (.ln 4 (.ah .all (.ln 4 (.ah (.ln 5 pA) (.ln 5 (.ah .all pA)))))) z1;let z0:ax:=.ah z1 (.ah z1 (.ah z1 (.ah z2 z2)));let z3:ax:=.ah (.ln 4 (.ah .all (.ln 7 z4))) (.ah z0 z0);.ah (.ln 12 pA) (.ah (.ln 12 z4) (.ah z3 z3))
def acT(f:Fw)(line:Int)(c:Gc.C):o8 (Env.cq pP (j9 [pQ,yq,xG]) (d9 [ul,um,uo,uq,uw,ur,uu,ut]) (f0 []) (b9 []) (j6 []) (j6 []) (j6 []) (j6 [])) 1000 (x9 pP 24) .unit (x6 114 [1,5,6,11,80]) Lr VS (x7 114 [(1,J line),(3,.ptr 0 0),(5,.ptr 1 0),(6,.ptr 2 0)]) [some (.cells f.cells),some (.cells c.cells),some (.cells (o9 aP))] =(let y2:=x7 114 [(1,J line),(5,.ptr 0 0),(6,.ptr 1 0),(11,.ptr 2 0),(80,J 0)];let y3:aR:=.cells [J c.code,J c.has,J c.x,J c.y,J c.z,J c.e,J c.f,J c.s];let y4:ak Stop:=.ai (.done (.tuple [.agg (o9 aP),J 18]));let y5:ak Stop:=.ai (.done (.tuple [.agg (o9 aP),J 16]));let y9:=x8 pP 24 0;let dg:aR:=.cells (o9 aP);let y1:ak Stop:=.ag (f.mode==3) y5 (.ag (f.waits != 0) y4 (.ag (f.bt != 0) y4 (.aj (u9 f) (.aj (c.valid) (.ag (gG f line c != 0) (.ai (.done (.tuple [.agg (o9 aP),J (gG f line c)]))) (.ai (.at y9 114 y2 [some y3,some dg,some (.cells (Fw.cells (oG f line c)))])))))));let y6:ak Stop:=.ag (f.mode==3) y5 (.ag (f.waits != 0) y4 (.ag (f.bt != 0) y4 (.ag (xQ f c != 0) (.ai (.done (.tuple [.agg (o9 aP),J (xQ f c)]))) (.ai (.at y9 114 y2 [some y3,some dg,some (.cells (Fw.cells (DS f c)))])))));let y7:ak Stop:=.ag (f.mode==3) y5 (.ag (qC f c != 0) (.ai (.done (.tuple [.agg (o9 aP),J (qC f c)]))) (.ai (.at y9 114 y2 [some y3,some dg,some (.cells (Fw.cells (xf f c)))])));let y8:ak Stop:=.ag (f.mode==3) y5 (.ag (f.waits != 0) y4 (.ag (f.bt != 0) y4 (.ai (.at y9 114 y2 [some y3,some dg,some (.cells (Fw.cells {f with fo:=c.s}))]))));let y0:ak Stop:=.ag (c.code==4) (.ag (f.mode==3) y5 (.ag (f.waits != 0) y4 (.ag (f.bt != 0) y4 (.ag (wM f != 0) (.ai (.done (.tuple [.agg (o9 aP),J (wM f)]))) (.ai (.at y9 114 y2 [some y3,some dg,some (.cells (Fw.cells (Cv f c)))])))))) (.ag (c.code==28) (.ag (f.mode==3) y5 (.ag (f.waits != 0) y4 (.ag (f.bt != 0) y4 (.aj (u9 f) (.ag (gm f line != 0) (.ai (.done (.tuple [.agg (o9 aP),J (gm f line)]))) (.ai (.at y9 114 y2 [some y3,some dg,some (.cells (Fw.cells (oL f line)))]))))))) (.ag (c.code==1106) (.ag (c.code==1106) y8 y6) (.ag (c.code==1107) y8 y6)));let fA:ak Stop:=.ag (c.code==0) (.ag (c.code==0) y1 y0) (.ag (c.code==1) y1 y0); .ag (c.code==1112) (.aj (Ej f line) (.ai (.at y9 114 y2 [some y3,some dg,some (.cells (Fw.cells (ui (pW f line))))]))) (.ag (c.code==1999) (.ag (cD f != 0) (.ai (.done (.tuple [.agg (o9 aP),J (cD f)]))) (.ai (.at y9 114 y2 [some y3,some dg,some (.cells (Fw.cells (lG f)))]))) (.ag (c.code==1025) (.ag (c.code==1025) y7 fA) (.ag (c.code==1024) y7 fA)))):=by kernel_rfl
def VU:ax:=.ar (.go (.ar (.go (.ar (.ah (.ln 3 (.ah .all .all)) (.ln 3 pA))))))
noncomputable def VT(g:Fw)(line:Int)(c:Gc.C):ak Stop:=let y0:ak Stop:=.ai (.done (.tuple [.agg (Fw.cells {g with g0:=g.g0.kV,g1:=g.g1.kV}),J 0])); rT (rT (rT (rT (.ag (line != 0) (.ag (c.code != 1112) (.ai (.done (.tuple [.agg (Fw.cells {g with g0:=g.g0.kV,g1:=g.g1.kV,line:=line}),J 0]))) y0) y0))))
def ac1(g:Fw)(line:Int)(c:Gc.C):o8 (Env.cq pP (j9 [pQ,yq,xG]) (d9 [ul,um,uo,uq,uw,ur,uu,ut]) (f0 []) (b9 []) (j6 []) (j6 []) (j6 []) (j6 [])) 1000 (x9 pP 24) .unit (x6 114 [1,5,6,11,80]) (x8 pP 24 0) VU (x7 114 [(1,J line),(5,.ptr 0 0),(6,.ptr 1 0),(11,.ptr 2 0),(80,J 0)]) [some (.cells c.cells),some (.cells (o9 aP)),some (.cells g.cells)] =VT g line c:=by kernel_rfl
def kAc:cV pP (Env.cq pP (j9 [pQ,yq,xG]) (d9 [ul,um,uo,uq,uw,ur,uu,ut]) (f0 []) (b9 []) (j6 []) (j6 []) (j6 []) (j6 [])):=(hB (l:=[pQ,yq,xG]) (k:=[ul,um,uo,uq,uw,ur,uu,ut]) (j:=[]) (i:=[]) nN nN nN nN (⟨zl,Xg,Yx,trivial⟩) (gx.all (p:=iY.ok pP) (l:=[ul,um,uo,uq,uw,ur,uu,ut]) ⟨Yp,Yq,Yr,Yv,Yu,Yw,Yt,Ys,trivial⟩) v8 v8)
section
variable {f:Fw} {line:Int} {c:Gc.C}
def yh1(h:gG f line c=0):oG f line c=ni f line c:=by
 unfold gG at h
 split at h
 .rename_i e
  unfold oG ni;rw[ay e,SE h]
 .rename_i e;exact absurd h e
def xv5(h:cD f=0):lG f=jQ f:=by
 unfold cD at h;unfold lG
 split at h;.omega
 .rename_i m
  rw[au m]
  split at h;.omega
  .rename_i n
   rw[au (λk=>n (.inl k)),au (λk=>n (.inr k))]
def qQ8(h:gm f line=0):oL f line=nv f line:=by
 unfold gm at h
 split at h;.omega
 .rename_i n1
  split at h;.omega
  .rename_i n2
   unfold oL nv;rw[au n1,au n2]
   split;.rfl
   .rename_i n3
    unfold vD at h;rw[au n3]at h
    split at h;.omega
    .rename_i n4
     split at h;.omega
     .rename_i n5
      have n4:gX (dX f line) (gj f line)=true:=by simpa using n4
      have n5:gX (n8 (dX f line) (gj f line)) (kB f line)=true:=by simpa using n5
      unfold yh vU;rw[ay n4,ay n5,zu3,zu6];rfl
def zV2(h:wM f=0):Cv f c={f with bt:=c.s}:=by
 unfold wM at h
 split at h;.rename_i e;exact ay e
 .omega
def y86(hc:c.code=1025):qC f c=(if f.mode=1 then 0 else 14)/\(qC f c=0->xf f c={f with mode:=2}):=by
 have n:¬c.code=1024:=by omega
 have e:qC f c=(if f.mode=1 then 0 else 14):=au n;refine⟨e,λh=>?_⟩;rw[e]at h
 split at h
 .rename_i k
  unfold xf;rw[au n,ay k]
 .omega
def y87(hc:c.code=1024):qC f c=(if f.mode=2 then 0 else 14)/\(qC f c=0->xf f c={f with mode:=1}):=by
 have e:qC f c=(if f.mode=2 then 0 else 14):=ay hc;refine⟨e,λh=>?_⟩;rw[e]at h
 split at h
 .rename_i k
  unfold xf;rw[ay hc,ay k]
 .omega
def sj(g:Fw)(line:Int)(c:Gc.C):Fw:=if line=0\/c.code=1112 then mH g else {mH g with line:=line}
def zf4(g:Fw):t9 pP (x9 pP 24) (.tuple [(sj g line c).sv,J 0]) (x8 pP 24 0) (x7 114 [(1,J line),(5,.ptr 0 0),(6,.ptr 1 0),(11,.ptr 2 0),(80,J 0)]) [some (.cells c.cells),some (.cells (o9 aP)),some (.cells g.cells)] :=by
 refine o6 kAc (n:=1000) (hint:=.unit) (keep:=x6 114 [1,5,6,11,80]) (p:=VU) rfl ?_;erw [ac1 g line c];unfold VT sj;refine⟨rfl,rfl,rfl,rfl,λl=>⟨λk=>?_,λk=>?_⟩,λl=>?_⟩;.rw[au (by have:=px.1 l;have:=px.1 k;omega)];rfl
 .rw[ay (.inr (ot.1 k))];rfl
 .rw[ay (.inl (ot.1 l))];rfl
end
variable{c:Gc.C}
def Sy(h:c.valid=true)(n4:¬c.code=4):0<=c.s/\c.s<=400000:=by
 unfold Gc.C.valid at h;rw[aH]at h;have r:=h.2;simp only[Gc.rest,aH]at r;have h5:Gc.okW c 5=true:=r.2.2.2.2.2.1;unfold Gc.okW at h5
 have e:c.num 5=c.s:=by unfold Gc.C.num;simp
 have e1:Gc.lo c.code 5=0:=by unfold Gc.lo;simp
 have e2:Gc.hi c.code 5<=400000:=by unfold Gc.hi;simp[n4];split<;>omega
 rw[e,e1]at h5
 split at h5;.have:=cI.1 h5;omega
 .have:=v5.1 h5;omega
section
variable {f:Fw} {c:Gc.C}
def qO3(v:VF f)(hc:c.valid=true)(n4:¬c.code=4):xQ f c=0/\DS f c={ub f c with waits:=ua f c}:=by
 have s:=Sy hc n4;have a0:mS f.c0 c.s=true:=wG.2 ⟨v.c0,s⟩;have a1:mS f.c1 c.s=true:=wG.2 ⟨v.c1,s⟩
 have e:xQ f c=0:=by unfold xQ;rw[ay a0,ay a1];split<;>rfl
 exact⟨e,ay e⟩
def qN9(h:c.code=1104):({ub f c with waits:=ua f c}:Fw)={f with c0:=f.c0.fM c.s}:=by
 have b:qY c=false:=by unfold qY;rw[h];rfl
 have w:uk c=false:=by unfold uk;rw[h];rfl
 unfold ub ua;rw[b,w];rfl
def qO0(h:c.code=1109):({ub f c with waits:=ua f c}:Fw)={f with c0:=f.c0.fM c.s,waits:=rC f.waits 1}:=by
 have b:qY c=false:=by unfold qY;rw[h];rfl
 have w:uk c=true:=by unfold uk;rw[h];rfl
 unfold ub ua;rw[b,w];rfl
def qO1(h:c.code=1140):({ub f c with waits:=ua f c}:Fw)={f with c1:=f.c1.fM c.s}:=by
 have b:qY c=true:=by unfold qY;rw[h];rfl
 have w:uk c=false:=by unfold uk;rw[h];rfl
 unfold ub ua;rw[b,w];rfl
def qO2(h:c.code=1190):({ub f c with waits:=ua f c}:Fw)={f with c1:=f.c1.fM c.s,waits:=rC f.waits 2}:=by
 have b:qY c=true:=by unfold qY;rw[h];rfl
 have w:uk c=true:=by unfold uk;rw[h];rfl
 unfold ub ua;rw[b,w];rfl
end
def vY(f:Fw)(line:Int)(c:Gc.C):SV:=if dR f line c=0 then .tuple [(sj (cN f line c) line c).sv,J 0]else .tuple [.agg (o9 aP),J (dR f line c)]
section
variable {f:Fw} {line:Int} {c:Gc.C}
def zS7:(vY f line c).data=true:=by unfold vY;split<;>rfl
def yX{k:Int}(e:dR f line c=k)(n:¬k=0):SV.tuple [.agg (o9 aP),.int .i64 k] =vY f line c:=by unfold vY;rw[e,au n]<;>rfl
def Wf(e:dR f line c=0){g:Fw}(d:cN f line c=g):vY f line c=.tuple [(sj g line c).sv,J 0] :=by unfold vY;rw[ay e,d]
abbrev AtL(f g:Fw)(line:Int)(c:Gc.C):Prop:=t9 pP (x9 pP 24) (vY f line c) (x8 pP 24 0) (x7 114 [(1,J line),(5,.ptr 0 0),(6,.ptr 1 0),(11,.ptr 2 0),(80,J 0)]) [some (.cells c.cells),some (.cells (o9 aP)),some (.cells g.cells)]
def yK(e:dR f line c=0){g:Fw}(d:cN f line c=g):AtL f g line c:=by unfold AtL;rw[Wf e d];exact zf4 g
def OA(h:c.valid=true):c.code=0\/c.code=1\/c.code=4\/c.code=28\/c.code=1024\/c.code=1025\/c.code=1104\/c.code=1106\/c.code=1107\/c.code=1109\/c.code=1112\/c.code=1140\/c.code=1190\/c.code=1999:=by
 unfold Gc.C.valid Gc.C.pre at h;simp only[aH]at h;have o:=h.1.1;simp only[Gc.bM,ia,aV]at o;rcases o with o|o|o|o
 .omega
 .omega
 .unfold Gc.oP at o;omega
 .unfold Gc.qJ at o;omega
def Ol(h:c.code=1112):dR f line c=0:=ay h
def IU(h:c.code=1112):cN f line c=ui (pW f line):=ay h
end
variable{a:Int}
def iK{α:Type}{L:α->Prop}{T F:ak α}(h:a=k->T.holds L)(h':¬a=k->F.holds L):(ak.ag (a==k) T F).holds L:=⟨λe=>h (cI.1 e),λe=>h' (dM.1 e)⟩
def dI{α:Type}{L:α->Prop}{T F:ak α}(h:¬a=k->T.holds L)(h':a=k->F.holds L):(ak.ag (a != k) T F).holds L:=⟨λe=>h (px.1 e),λe=>h' (ot.1 e)⟩
variable{b:Bool}
def t8{α:Type}{L:α->Prop}{T F:ak α}(h:b=true->T.holds L)(h':b=false->F.holds L):(ak.ag b T F).holds L:=⟨h,h'⟩
def d8{α:Type}{L:α->Prop}{T F:ak α}(h:b=false->T.holds L)(h':b=true->F.holds L):(ak.ag (!b) T F).holds L:=⟨λe=>h (by simpa using e),λe=>h' (by simpa using e)⟩
def o7{α:Type}{L:α->Prop}{p:Prop}[Decidable p]{T F:ak α}(h:p->T.holds L)(h':¬p->F.holds L):(ak.ag (decide p) T F).holds L:=⟨λe=>h (bG e),λe=>h' (cO e)⟩
def x0{α:Type}{L:α->Prop}{T:ak α}(h:b=true)(h':T.holds L):(ak.aj b T).holds L:=⟨h,h'⟩
section
variable {f:Fw} {line:Int} {c:Gc.C}
def E9(a:c.code=1999):dR f line c=cD f:=by unfold dR;rw[au (by omega),ay a]
def Oi(a:¬c.code=1112)(b:¬c.code=1999)(m:f.mode=3):dR f line c=16:=by unfold dR;rw[au a,au b,ay m]
def V1(a:c.code=1024\/c.code=1025)(m:¬f.mode=3):dR f line c=qC f c:=by
 unfold dR qC;rw[au (by omega),au (by omega),au m]
 by_cases h:c.code=1024
 .rw[au (by omega),ay h,ay h]
 .rw[ay (by omega),au h]
def IN(a:¬c.code=1112/\¬c.code=1999/\¬c.code=1024/\¬c.code=1025)(m:¬f.mode=3)(w:¬f.waits=0\/¬f.bt=0):dR f line c=18:=by
 unfold dR;rw[au a.1,au a.2.1,au m,au a.2.2.2,au a.2.2.1,ay w]
def Fa(a:¬c.code=1112/\¬c.code=1999/\¬c.code=1024/\¬c.code=1025)(m:¬f.mode=3)(w:f.waits=0/\f.bt=0):dR f line c=if c.code=0\/c.code=1 then gG f line c else if c.code=4 then(if eF f=true then 0 else 18)else if c.code=28 then gm f line else 0:=by
 unfold dR;rw[au a.1,au a.2.1,au m,au a.2.2.2,au a.2.2.1,au (by omega)]
def IP(k:c.code=0\/c.code=1)(m:¬f.mode=3)(w:f.waits=0/\f.bt=0):dR f line c=gG f line c:=by rw[Fa (by omega) m w,ay k]
def IR(k:c.code=4)(m:¬f.mode=3)(w:f.waits=0/\f.bt=0):dR f line c=wM f:=by rw[Fa (by omega) m w,au (by omega),ay k];rfl
def IQ(k:c.code=28)(m:¬f.mode=3)(w:f.waits=0/\f.bt=0):dR f line c=gm f line:=by rw[Fa (by omega) m w,au (by omega),au (by omega),ay k]
def yW(k:¬c.code=0/\¬c.code=1/\¬c.code=4/\¬c.code=28)(a:¬c.code=1112/\¬c.code=1999/\¬c.code=1024/\¬c.code=1025)(m:¬f.mode=3)(w:f.waits=0/\f.bt=0):dR f line c=0:=by rw[Fa a m w,au (by omega),au (by omega),au (by omega)]
def rk(a:¬c.code=1112/\¬c.code=1999/\¬c.code=1024/\¬c.code=1025):cN f line c=if c.code=0\/c.code=1 then ni f line c else if c.code=4 then {f with bt:=c.s} else if c.code=28 then nv f line else if c.code=1104 then {f with c0:=f.c0.fM c.s} else if c.code=1109 then {f with c0:=f.c0.fM c.s,waits:=rC f.waits 1} else if c.code=1140 then {f with c1:=f.c1.fM c.s} else if c.code=1190 then {f with c1:=f.c1.fM c.s,waits:=rC f.waits 2} else {f with fo:=c.s}:=by
 unfold cN;rw[au a.1,au a.2.1,au a.2.2.2,au a.2.2.1]
def zO7(k:c.code=0\/c.code=1)(h:gG f line c=0):cN f line c=oG f line c:=by rw[rk (by omega),ay k,yh1 h]
def zO2(k:c.code=4)(h:wM f=0):cN f line c=Cv f c:=by rw[rk (by omega),au (by omega),ay k,zV2 h]
def zO5(k:c.code=28)(h:gm f line=0):cN f line c=oL f line:=by rw[rk (by omega),au (by omega),au (by omega),ay k,qQ8 h]
def zO9(k:c.code=1999)(h:cD f=0):cN f line c=lG f:=by unfold cN;rw[au (by omega),ay k,xv5 h]
def zO8(k:c.code=1024\/c.code=1025)(h:qC f c=0):cN f line c=xf f c:=by
 unfold cN;rw[au (by omega),au (by omega)]
 by_cases a:c.code=1024
 .rw[au (by omega),ay a,(y87 a).2 h]
 .rw[ay (by omega),(y86 (by omega)).2 h]
def Ow(k:c.code=1106\/c.code=1107):cN f line c={f with fo:=c.s}:=by rw[rk (by omega),au (by omega),au (by omega),au (by omega),au (by omega),au (by omega),au (by omega),au (by omega)]
def zO4(v:VF f)(hc:c.valid=true)(k:c.code=1104\/c.code=1109\/c.code=1140\/c.code=1190):cN f line c=DS f c:=by
 rw[rk (by omega),au (by omega),au (by omega),au (by omega),(qO3 v hc (by omega)).2];rcases k with k|k|k|k
 .rw[ay k,qN9 k]
 .rw[au (by omega),ay k,qO0 k]
 .rw[au (by omega),au (by omega),ay k,qO1 k]
 .rw[au (by omega),au (by omega),au (by omega),ay k,qO2 k]
def zK6(hc:c.valid=true)(h:¬c.code=0/\¬c.code=1/\¬c.code=4/\¬c.code=28/\¬c.code=1024/\¬c.code=1025/\¬c.code=1106/\¬c.code=1107/\¬c.code=1112/\¬c.code=1999):c.code=1104\/c.code=1109\/c.code=1140\/c.code=1190:=by
 have:=OA hc;omega
set_option maxHeartbeats 4000000 in
def zf7(v:u9 f=true)(hc:c.valid=true)(hs:Ej f line=true):t9 pP (x9 pP 24) (vY f line c) Lr (x7 114 [(1,J line),(3,.ptr 0 0),(5,.ptr 1 0),(6,.ptr 2 0)]) [some (.cells f.cells),some (.cells c.cells),some (.cells (o9 aP))] :=by
 refine o6 kAc (n:=1000) (hint:=.unit) (keep:=x6 114 [1,5,6,11,80]) (p:=VS) zS7 ?_;erw [acT f line c];have vf:=d7 v
 repeat' first
  |refine iK (λ_=>?_) (λ_=>?_)
  |refine dI (λ_=>?_) (λ_=>?_)
  |refine x0 hs ?_
  |refine x0 v ?_
  |refine x0 hc ?_
 all_goals first
  |(exfalso;omega)
  |exact yX (Oi (by omega) (by omega) (by assumption)) (by omega)
  |exact yX (IN (by omega) (by assumption) (by omega)) (by omega)
  |exact yX (E9 (by assumption)) (by assumption)
  |exact yX (V1 (by omega) (by assumption)) (by assumption)
  |exact yX (IP (by omega) (by assumption) (by omega)) (by assumption)
  |exact yX (IR (by omega) (by assumption) (by omega)) (by assumption)
  |exact yX (IQ (by omega) (by assumption) (by omega)) (by assumption)
  |exact absurd (qO3 vf hc (by omega)).1 (by assumption)
  |exact⟨rfl,yK (Ol (by assumption)) (IU (by assumption))⟩
  |exact⟨rfl,yK ((E9 (by assumption)).trans (by assumption)) (zO9 (by assumption) (by assumption))⟩
  |exact⟨rfl,yK ((V1 (by omega) (by assumption)).trans (by assumption)) (zO8 (by omega) (by assumption))⟩
  |exact⟨rfl,yK ((IP (by omega) (by assumption) (by omega)).trans (by assumption)) (zO7 (by omega) (by assumption))⟩
  |exact⟨rfl,yK ((IR (by omega) (by assumption) (by omega)).trans (by assumption)) (zO2 (by omega) (by assumption))⟩
  |exact⟨rfl,yK ((IQ (by omega) (by assumption) (by omega)).trans (by assumption)) (zO5 (by omega) (by assumption))⟩
  |exact⟨rfl,yK (yW (by omega) (by omega) (by assumption) (by omega)) (Ow (by omega))⟩
  |exact⟨rfl,yK (yW (by omega) (by omega) (by assumption) (by omega)) (zO4 vf hc (zK6 hc (by omega)))⟩
end
def mz(e:Int)(g:Fw):SV:=if e=0 then .tuple [g.sv,J 0]else .tuple [.agg (o9 aP),J e]
def FY(e:Int)(g:Fw):(mz e g).data=true:=by unfold mz;split<;>rfl
variable{e:Int}
def iU{g:Fw}(h:e=k)(n:¬k=0):SV.tuple [.agg (o9 aP),.int .i64 k] =mz e g:=by subst h;unfold mz;rw[au n];rfl
def kU{g g':Fw}(h:e=0)(k:g=g'):SV.tuple [.agg g'.cells,.int .i64 0] =mz e g:=by subst k;unfold mz;rw[ay h];rfl
variable{P:Program}
def FX{x:FuncId}{args:List SV}{g:Fw}(k:SCall P x args (mz e g)):(ak.ag (e=0) (lT [g.sv,J 0]) (lT [.agg (o9 aP),J e])).bw (SCall P x args):=by
 unfold mz at k;refine⟨λh=>?_,λh=>?_⟩;.rw[ay (bG h)]at k;exact k
 .rw[au (cO h)]at k;exact k
abbrev za7:=Int×Int×Int×Int×Int×Int×Int×Int
abbrev EJ:=Int×Bool×za7×Int×Int×Int
abbrev SC:Ty:=.pair (.int .i64) (.pair .bool (.pair (.pair (.int .i64) (.pair (.int .i64) (.pair (.int .i64) (.pair (.int .i64) (.pair (.int .i64) (.pair (.int .i64) (.pair (.int .i64) (.int .i64)))))))) (.pair (.int .i64) (.pair (.int .i64) (.int .i64)))))
abbrev LO(l:List EJ):SV:=.list SC l
def dOp:EJ:=(0,false,(0,0,0,0,0,0,0,0),0,0,0)
def jb1:ax:=.ah (.ln 3 (.ah (.ah .all .all) .all)) (.ln 3 pA)
def sm1(l:List EJ)(m i:Int):o8 (Env.of pP (j9 [])) 1000 (x9 pP 17) .unit (x6 27 [0,1,5]) (x8 pP 17 0) jb1 (x7 27 [(0,LO l),(1,J m),(5,J i)]) [] =(let y0:=Ty.int i64; .ag (i< (↑l.length:Int)) (.ag (i<m) (.aj (0<=i&&i< (↑l.length:Int)) (.ag ((l.getD i.toNat SC.iH).2.2.2.1>40) (.ai (.done (.bool false))) (.ai (.at (x8 pP 17 0) 27 (x7 27 [(0,.list (y0.pair (Ty.bool.pair ((y0.pair (y0.pair (y0.pair (y0.pair (y0.pair (y0.pair (y0.pair y0))))))).pair (y0.pair (y0.pair y0))))) l),(1,.int .i64 m),(5,.int .i64 (i64.wrap (i+1)))]) [])))) (.ai (.done (.bool ((↑l.length:Int)<=m))))) (.ai (.done (.bool ((↑l.length:Int)<=m))))):=by kernel_rfl
def opN(x:EJ):Int:=x.2.2.2.1
def Bu(x:EJ):Gc.C:=⟨x.2.2.1.1,x.2.2.1.2.1,x.2.2.1.2.2.1,x.2.2.1.2.2.2.1,x.2.2.1.2.2.2.2.1,x.2.2.1.2.2.2.2.2.1,x.2.2.1.2.2.2.2.2.2.1,x.2.2.1.2.2.2.2.2.2.2⟩
def Ed:cV pP (Env.of pP (j9 [])):=kW trivial
def ZF{b:Int}(hb:1<=b)(h:a<=e*b):gi a b<=e:=by
 have m:=Ph (a:=a) hb;have d:=Int.mul_ediv_add_emod a b;have h1:a / b<=e:=Int.ediv_le_of_le_mul (by omega) h;unfold gi
 split
 .rename_i k
  by_cases q:a / b=e
  .rw[q]at d
   have:=Int.mul_comm b e;omega
  .omega
 .exact h1
def q52{b:Int}(hb:1<=b)(h:e*b<=a):e<=gi a b:=by
 have h1:e<=a / b:=NK (by omega) h
 unfold gi;split<;>omega
def GR{a:Ax}{p M:Int}(h:a.ok=true)(hM:0<=M)(hp: -M<=p/\p<=M): -M<=dY a p/\dY a p<=M:=by
 have o:=(Ax.bz a).1 h;unfold dY;have k:=ER (show a.den<=a.num by omega) hM;have u1:=Ce hp.2 (show 0<=a.den by omega);have u2:=Ce hp.1 (show 0<=a.den by omega);rw[NI]at u2;exact⟨q52 (by omega) (by rw[NI];omega),ZF (by omega) (by omega)⟩
def jh5{a:Ax}{p M:Int}(h:a.ok=true)(hM:0<=M)(hs: -M<=cZ a p/\cZ a p<=M): -M<=p/\p<=M:=by
 have o:=(Ax.bz a).1 h;unfold cZ at hs;constructor
 .rcases UX p (-M)with k|k
  .exfalso
   have u1:=Ce (show p<=-(M+1) by omega) (show 0<=a.num by omega);have u2:=ER (show a.den<=a.num by omega) (show 0<=M+1 by omega);have:=ZF (a:=p*a.num) (b:=a.den) (e:= -(M+1)) (by omega) (by rw[NI]at u1 ⊢;omega);omega
  .exact k
 .rcases UX M p with k|k
  .exfalso
   have u1:=Ce (show M+1<=p by omega) (show 0<=a.num by omega);have u2:=ER (show a.den<=a.num by omega) (show 0<=M+1 by omega);have:=q52 (a:=p*a.num) (b:=a.den) (e:=M+1) (by omega) (by omega);omega
  .exact k
variable{p:V4}
def xc2(hm:m.ok=true)(hp:u7 p=true):(-16777216<=(dh m p).1/\(dh m p).1<=16777216)/\(-16777216<=(dh m p).2.1/\(dh m p).2.1<=16777216)/\(-16777216<=(dh m p).2.2.1/\(dh m p).2.2.1<=16777216)/\-16777216<=(dh m p).2.2.2/\(dh m p).2.2.2<=16777216:=by
 have o:=(Ma.bz m).1 hm;have n:=fO.1 hp
 have un:(-16777216<=(sW m.xy p).1/\(sW m.xy p).1<=16777216)/\(-16777216<=(sW m.xy p).2.1/\(sW m.xy p).2.1<=16777216)/\(sW m.xy p).2.2=p.2.2:=by
  unfold sW;split;.dsimp only;exact⟨by omega,by omega,rfl⟩
  .exact⟨n.1,n.2.1,rfl⟩
 unfold dh;dsimp only;exact⟨GR o.1 (by omega) un.1,GR o.2.1 (by omega) un.2.1,GR o.2.2.1 (by omega) (by rw[un.2.2];exact n.2.2.1),GR o.2.2.2.1 (by omega) (by rw[un.2.2];exact n.2.2.2)⟩
def qS3(hm:f.ma.ok=true)(hp:u7 f.pos=true): -16777216<=qG f/\qG f<=16777216:=by
 unfold qG;split;.exact GR ((Ma.bz _).1 hm).2.2.2.1 (by omega) (fO.1 hp).2.2.2
 .omega
def yg9{u:V3}(hm:m.ok=true)(h:u7 (mg m u e)=true): -16777216<=e/\e<=16777216:=by
 have o:=(Ma.bz m).1 hm;have n:=(fO.1 h).2.2.2;refine jh5 o.2.2.2.1 (by omega) ?_
 have:(mg m u e).2.2.2=cZ m.e e:=by unfold mg Fg;split<;>rfl
 rw[this]at n;exact n
section
variable {l:List Bk} {aw:List Int} {e:Int}
def qH3(h:ed l aw e)(he:e<=fp l 0)(h0:gL l aw e 0=e):Oe (fp l) (mX aw) (dW l) e l.length (gL l aw e):=
 (Y1 h.lim he (λi=>(h.Nw i).1) (qL8 h.lim h0) λx hx i hi=>by
   rcases wo i with rfl|hp
   .rw[hx.first];exact Int.le_of_eq h0.symm
   .exact MQ h.lim hx _ i rfl hp hi).1.2 h0
def xa5(h:ed l aw e)(he:e<=fp l 0)(h0:gL l aw e 0=e){i:Nat}(hi:i<l.length):f6 ((jo l (gL l aw e)).getD i aM)=true:=by
 have p:=qH3 h he h0;have s:n7 (l.getD i aM)=true:=vE h.snd hi;have s1:=Ac.1 s;have a:=p.2.2 i (by omega);have b:=p.2.2 (i+1) (by omega);have a2:=a.2.1 hi;have b2:=b.2.2.1 (by omega);have a1:=a.1;have b1:=b.1;rw[Kw hi];rw[show i+1-1=i by omega]at b2;unfold fp at a2 b2;exact sV.2 ⟨s1,⟨a1,a2⟩,b1,b2⟩
theorem xb7{p:V4}{q r:List Bk}:∀n,(∀i,i<n->(q.getD i aM).1=(r.getD i aM).1)->dJ p q n=dJ p r n
 |0,_=>rfl
 |n+1,h=>by
  show f5 (dJ p q n) (q.getD n aM).1=f5 (dJ p r n) (r.getD n aM).1;rw[xb7 n λi hi=>h i (by omega),h n (by omega)]
end
section
variable {g:Fw} {d:V4} {len line:Int}
variable{i:Nat}
def zk4(h:i<g.queue.length):(t6 g d len).getD i aM=g.queue.getD i aM:=by
 unfold t6;rw[cK,yE h,<-cK]
def zk3:(t6 g d len).getD g.queue.length aM=A2 g.ma d len g.bH:=by
 unfold t6;rw[cK,uN (bA _),UL];rfl
def VK(h:i<g.queue.length+1):((p8 g d len line).queue.getD i aM).1=((t6 g d len).getD i aM).1:=by
 show((jo _ _).getD i aM).1=_;rw[Kw (by rw[rf];exact h)];rfl
def VG{p:V4}(h:i<=g.queue.length):dJ p (p8 g d len line).queue i=dJ p g.queue i:=
 xb7 i λk hk=>by rw[VK (by omega),zk4 (by omega)]
def VE{p:V4}:dJ p (p8 g d len line).queue (g.queue.length+1)=f5 (dJ p g.queue g.queue.length) d:=by
 show f5 (dJ p _ g.queue.length) ((p8 g d len line).queue.getD g.queue.length aM).1=_;rw[VG (bA _),VK (by omega),zk3];rfl
def zl1:ej (p8 g d len line)=f5 (ej g) d:=by
 unfold ej;rw[uW];exact VE
def q79(hl:g.lines.length=g.queue.length):(p8 g d len line).lines.getD i 0=if i<g.queue.length then g.lines.getD i 0 else if i=g.queue.length then line else 0:=by
 show(g.lines++[line]).getD i 0=_;rw[cK]
 split;.rw[yE (by omega),<-cK]
 .split
  .rename_i h;subst h
   rw[uN (by omega),hl,UL];rfl
  .rw[qU (by simp;omega)];rfl
def zl5(hq:fh g=true)(hp:dm g d len=true)(ho:dt g d len=true)(hl:g.queue.length<32)(hn:u7 (f5 (ej g) d)=true)(hr:0<=line/\line<=1099511627776):fh (p8 g d len line)=true:=by
 obtain⟨q1,q2,q3,q4,q5,q6,q7⟩:=pL.1 hq;refine pL.2 ⟨by rw[uW];omega,VI q2,q3,q4,q5,q6,λi hi=>?_⟩;rw[uW]at hi;have o:=uV.1 ho;refine za.2 ⟨xa5 (Iz hp) o.1 o.2 (by rw[rf];exact hi),?_,?_⟩
 .rw[q79 q2]
  split;.exact(vh (q7 i (by assumption))).2.1
  .split<;>omega
 .show u7 (dJ (dx g) (p8 g d len line).queue (i+1))=true
  rcases jv i g.queue.length with k|k
  .rw[VG (by omega)];exact(vh (q7 i k)).2.2
  .obtain rfl:i=g.queue.length:=by omega
   rw[VE];exact hn
end
def Sw(h:c.valid=true):Gc.okW c 5=true:=by
 unfold Gc.C.valid at h;rw[aH]at h;have r:=h.2;simp only[Gc.rest,aH]at r;exact r.2.2.2.2.2.1
def O7(c:Gc.C):c.num 5=c.s:=by unfold Gc.C.num;simp
def jz2(h:c.valid=true):0<=c.s/\c.s<=1048576:=by
 have h5:=Sw h;unfold Gc.okW at h5
 have e1:Gc.lo c.code 5=0:=by unfold Gc.lo;simp
 have e2:Gc.hi c.code 5<=1048576:=by unfold Gc.hi;simp;split<;>(try split)<;>omega
 rw[O7,e1]at h5
 split at h5;.have:=cI.1 h5;omega
 .have:=v5.1 h5;omega
def jy9(h:c.valid=true)(k:c.code=1106\/c.code=1107):0<=c.s/\c.s<=255:=by
 have h5:=Sw h;unfold Gc.okW at h5;rw[O7]at h5;rcases k with k|k
 .have e1:Gc.lo c.code 5=0:=by unfold Gc.lo;simp
  have e2:Gc.hi c.code 5=255:=by unfold Gc.hi;simp[k]
  rw[e1,e2]at h5
  split at h5;.have:=cI.1 h5;omega
  .exact v5.1 h5
 .have hb:c.has=0:=by
   unfold Gc.C.valid Gc.C.pre at h;simp only[aH]at h;have q:=h.1.2.2
   have a:Gc.rU c.code=true:=by rw[k];decide
   have m:Gc.fk c.code=0:=by rw[k];decide
   rw[a,m]at q
   simpa using q
  have b0:Gc.bit c.has 5=0:=by rw[hb];decide
  rw[ay b0]at h5;have:=cI.1 h5;omega
def kY(p:tP f=true)(m:1<=f.mode/\f.mode<=3)(n:wW f=true)(mv:dU f=true)(q:fh f=true)(e:(¬f.mode=3/\f.bf=true)\/(f.aT=false/\f.queue.length=0)):u9 f=true:=
 Er.2 ⟨p,Fx.2 ⟨m,n⟩,mv,q,IK.2 e⟩
def Af(h:u9 f=true):wW f=true:=(Fx.1 (Er.1 h).2.1).2
def qL(h:u9 f=true):tP f=true:=(Er.1 h).1
def yZ0(h:f4 f=true):1<=f9 f:=by
 have s:=oh.1 h
 have fl:∀ (l:List Int) (d:Int),1<=d->1<=oM l d:=by
  intro l
  induction l with
  |nil=>exact λd h=>h
  |cons x l ih=>
   intro d h;unfold oM
   by_cases k:0<x
   .rw[ay k];omega
   .rw[au k];exact ih d h
 unfold f9
 split;.omega
 .exact fl _ _ (by omega)
def SY(h1:f.mo=m0)(h2:f.bL=0):Bv f=true:=by
 unfold Bv;rw[h1,h2];decide
def xg6(h:f.aT=false)(hm:f.mo.1.1=z4):dx f=f.pos:=by
 unfold dx;rw[yI h,hm];exact Cp _
def Qu(h:f.aT=false)(hm:f.mo.1.1=z4)(q:f.queue=[])(l:f.lines=[])(p:u7 f.pos=true)(r:u7 f.ret=true):fh f=true:=
 pL.2 ⟨by rw[q];decide,by rw[q,l];rfl,p,r,by rw[yI h];exact p,by rw[xg6 h hm];exact p,λi hi=>by rw[q]at hi;exact absurd hi (tu _)⟩
def jh9(h:u9 f=true)(hm:f.aT=false):f.mo.1.1=z4:=by
 have v:=d7 h;have m:=v.jq;rw[zg hm]at m;have q:=Ku v.jq hm;unfold dx at q;generalize eV f=b at q;obtain⟨b1,b2,b3,b4⟩:=b;generalize f.mo.1.1=x at q;obtain⟨x1,x2,x3,x4⟩:=x;unfold f5 at q;simp only[tt]at q;unfold z4;simp only[tt];omega
def q93(v:VF f):u7 (oe f)=true:=by
 unfold oe;split;.exact v.Ux
 .split
  .exact v.pos
  .exact v.ret
def Sc(h:u9 f=true):u9 {ek f with mode:=3}=true:=by
 have v:=d7 h;have vp:=qL h;have n:=v.gK;have o1:=FB v.shape;have o2:=yZ0 v.shape;refine kY vp (by show 1<=(3:Int)/\(3:Int)<=3;omega) (oE.2 ?_) ?_ ?_ (.inr ⟨rfl,rfl⟩)
 .show _/\_/\_/\_/\_/\((0:Int)<=0/\(0:Int)<=1048576)/\((0:Int)<=0/\(0:Int)<=3)/\_/\(0<=f9 f-1/\f9 f-1<=1099511627776)/\((0:Int)<=0/\(0:Int)<=1099511627776)/\_
  exact⟨n.1,n.2.1,n.2.2.1,n.2.2.2.1,n.2.2.2.2.1,by omega,by omega,n.2.2.2.2.2.2.2.1,by omega,by omega,n.2.2.2.2.2.2.2.2.2.2⟩
 .rw[zg rfl];exact SY rfl rfl
 .exact Qu rfl rfl rfl rfl v.pos (q93 v)
def q78(h:u9 f=true)(hl:0<=line/\line<=1099511627776):u9 {f with line:=line}=true:=by
 have v:=d7 h;have vp:=qL h;have n:=v.gK;refine kY vp v.mode (oE.2 ?_) v.jq v.nu v.ends;exact⟨n.1,n.2.1,n.2.2.1,n.2.2.2.1,n.2.2.2.2.1,n.2.2.2.2.2.1,n.2.2.2.2.2.2.1,n.2.2.2.2.2.2.2.1,hl,n.2.2.2.2.2.2.2.2.2⟩
def q75(h:u9 f=true)(hl:0<=line/\line<=1099511627776):u9 (pW f line)=true:=by
 unfold pW;split;.exact h
 .exact q78 h hl
def qM1{a b:Gu}(h:u9 f=true)(ha:a.ok=true)(hb:b.ok=true):u9 {f with g0:=a,g1:=b}=true:=by
 have v:=d7 h;have vn:=Af h;exact kY (xg.2 ⟨v.ma,v.c0,v.c1,ha,hb⟩) v.mode vn v.jq v.nu v.ends
def ju1(h:u9 f=true):u9 (mH f)=true:=qM1 h (Gu.abX (d7 h).g0).1 (Gu.abX (d7 h).g1).1
def ji2(h:u9 f=true):u9 (ji1 f)=true:=qM1 h (Gu.ab0 (d7 h).g0).1 (Gu.ab0 (d7 h).g1).1
def Z1(h:g.ok=true)(k:xl g r=true):(mA g r).ok=true/\(mA g r).fault=0/\(mA g r).low=g.low/\(mA g r).bQ=g.bQ:=by
 unfold mA
 split;.rename_i e;exact⟨h,e,rfl,rfl⟩
 .rename_i e
  have:=Bd.1 k;exact Gu.auo h (by rcases this with k|k;exact absurd k e;exact k)
def xn3(h:cD f=0):f.mode=3/\xl f.g0 f.r0=true/\xl f.g1 f.r1=true:=by
 unfold cD at h
 split at h;.omega
 .rename_i m
  split at h;.omega
  .rename_i n
   exact⟨by omega,by simpa using λk=>n (.inl k),by simpa using λk=>n (.inr k)⟩
def xp4(h:u9 f=true)(e:cD f=0):u9 (jQ f)=true:=by
 have v:=d7 h;have vn:=Af h;obtain⟨m,r0,r1⟩:=xn3 e
 have en:f.aT=false/\f.queue.length=0:=by
  rcases v.ends with k|k
  .exact absurd m k.1
  .exact k
 exact kY (xg.2 ⟨v.ma,v.c0,v.c1,(Z1 v.g0 r0).1,(Z1 v.g1 r1).1⟩) (by show 1<=(1:Int)/\(1:Int)<=3;omega) vn v.jq v.nu (.inr en)
def X1{m:Int}(h:u9 f=true)(k:¬f.mode=3)(hm:1<=m/\m<=2):u9 {f with mode:=m}=true:=by
 have v:=d7 h;have vp:=qL h;have vn:=Af h;refine kY vp (by show 1<=m/\m<=3;omega) vn v.jq v.nu ?_;rcases v.ends with e|e
 .exact .inl ⟨by show ¬m=3;omega,e.2⟩
 .exact .inr e
def qz2(h:u9 f=true)(hn:0<=n/\n<=255):u9 {f with fo:=n}=true:=by
 have v:=d7 h;have vp:=qL h;have k:=v.gK;exact kY vp v.mode (oE.2 ⟨k.1,k.2.1,k.2.2.1,k.2.2.2.1,k.2.2.2.2.1,k.2.2.2.2.2.1,k.2.2.2.2.2.2.1,hn,k.2.2.2.2.2.2.2.2⟩) v.jq v.nu v.ends
def V7(h:u9 f=true)(hn:0<=n/\n<=1048576):u9 {f with bt:=n}=true:=by
 have v:=d7 h;have vp:=qL h;have k:=v.gK;exact kY vp v.mode (oE.2 ⟨k.1,k.2.1,k.2.2.1,k.2.2.2.1,k.2.2.2.2.1,hn,k.2.2.2.2.2.2⟩) v.jq v.nu v.ends
def Tc(h:u9 f=true)(hn:0<=n/\n<=3):u9 {f with waits:=n}=true:=by
 have v:=d7 h;have vp:=qL h;have k:=v.gK;exact kY vp v.mode (oE.2 ⟨k.1,k.2.1,k.2.2.1,k.2.2.2.1,k.2.2.2.2.1,k.2.2.2.2.2.1,hn,k.2.2.2.2.2.2.2⟩) v.jq v.nu v.ends
def W1{a:Co}(h:u9 f=true)(ha:a.ok=true):u9 {f with c0:=a}=true:=by
 have v:=d7 h;have vn:=Af h;exact kY (xg.2 ⟨v.ma,ha,v.c1,v.g0,v.g1⟩) v.mode vn v.jq v.nu v.ends
def W0{a:Co}(h:u9 f=true)(ha:a.ok=true):u9 {f with c1:=a}=true:=by
 have v:=d7 h;have vn:=Af h;exact kY (xg.2 ⟨v.ma,v.c0,ha,v.g0,v.g1⟩) v.mode vn v.jq v.nu v.ends
section
variable {f:Fw} {line:Int} {c:Gc.C}
def yh3(h:gG f line c=0):(1<=line/\f.bf=true/\f.back=false/\f.mode=1)/\gC f.ma (t7 f c)=true/\iL f.ma (t7 f c) (r9 f c)=true/\lH (b7 f c) (t7 f c) (r9 f c) (oF f c) (mb f c)=0:=by
 by_cases k:line<1\/f.bf=false\/f.back=true\/¬f.mode=1
 .rw[(Pf (c:=c) k).1]at h;omega
 by_cases k2:gC f.ma (t7 f c)=false\/iL f.ma (t7 f c) (r9 f c)=false
 .rw[(tI k k2).1]at h;omega
 by_cases k3:f.e<r9 f c/\f.r0<f.bc
 .rw[(JH k k2 k3).1]at h;omega
 rw[(JI k k2 k3).1]at h;refine⟨⟨by omega,by simpa using λn=>k (.inr (.inl n)),by simpa using λn=>k (.inr (.inr (.inl n))),?_⟩,by simpa using λn=>k2 (.inl n),by simpa using λn=>k2 (.inr n),h⟩;rcases Int.lt_trichotomy f.mode 1 with q|q|q
 .exact absurd (.inr (.inr (.inr (by omega)))) k
 .exact q
 .exact absurd (.inr (.inr (.inr (by omega)))) k
variable{g:Fw}{d:V4}
def jt1{u:V3}{e:Int}{p:V4}(h:lH g u e p d=0):u7 p=true/\u7 d=true/\(bO d=true->¬32<=g.queue.length/\dt g d (jm g u e)=true):=by
 cases hn:u7 p&&u7 d with
 |false=>rw[GW hn]at h;omega
 |true=>
  have n:=(aH _ _).mp hn;refine⟨n.1,n.2,λhz=>?_⟩
  by_cases q:32<=g.queue.length
  .rw[SI hn hz q]at h;omega
  .by_cases o:dt g d (jm g u e)=true
   .exact⟨q,o⟩
   .rw[SH hn hz q o]at h;omega
def qA7(h:u9 f=true)(hc:c.valid=true):u9 (b7 f c)=true:=by
 unfold b7
 split
 .have v:=d7 h
  have vp:=qL h;have k:=v.gK;exact kY vp v.mode (oE.2 ⟨k.1,k.2.1,k.2.2.1,k.2.2.2.1,jy8 hc,k.2.2.2.2.2⟩) v.jq v.nu v.ends
 .exact h
def qA3:ej (b7 f c)=ej f:=by unfold b7;split<;>rfl
def q87{f:Fw}{u:V3}{e:Int}(h:u9 f=true)(hu:(-16777216<=u.1/\u.1<=16777216)/\(-16777216<=u.2.1/\u.2.1<=16777216)/\-16777216<=u.2.2/\u.2.2<=16777216)(he: -16777216<=e/\e<=16777216):u9 {f with loc:=u,e:=e}=true:=by
 have v:=d7 h;have vp:=qL h;have k:=v.gK;exact kY vp v.mode (oE.2 ⟨hu.1,hu.2.1,hu.2.2,he,k.2.2.2.2⟩) v.jq v.nu v.ends
def Vz{len:Int}(h:u9 g=true)(hm:¬g.mode=3/\g.bf=true)(hp:dm g d len=true)(ho:dt g d len=true)(hl:g.queue.length<32)(hn:u7 (f5 (ej g) d)=true)(hr:0<=line/\line<=1099511627776):u9 (p8 g d len line)=true:=by
 have v:=d7 h;have vp:=qL h;have vn:=Af h;exact kY vp v.mode vn v.jq (zl5 v.nu hp ho hl hn hr) (.inl hm)
def yh9(h:u9 f=true)(hc:c.valid=true)(hz:gG f line c=0)(hl:line<=1099511627776):u9 (ni f line c)=true:=by
 have v:=d7 h;obtain⟨s,ki,km,t⟩:=yh3 hz;obtain⟨t1,t2,t3⟩:=jt1 t;have ii:=Lw.1 ki;have o:=(Ma.bz f.ma).1 v.ma;have a1:=(Ax.bz _).1 o.1;have a2:=(Ax.bz _).1 o.2.1;have a3:=(Ax.bz _).1 o.2.2.1;have er: -16777216<=r9 f c/\r9 f c<=16777216:=yg9 (m:=f.ma) (u:=t7 f c) v.ma t1;have fv:=qA7 h hc
 have hmd:¬(b7 f c).mode=3/\(b7 f c).bf=true:=by
  have:(b7 f c).mode=f.mode/\(b7 f c).bf=f.bf:=by unfold b7;split<;>exact⟨rfl,rfl⟩
  rw[this.1,this.2];exact⟨by omega,s.2.1⟩
 unfold ni
 cases z:bO (mb f c)with
 |false=>rw[SG z];exact q87 fv (by omega) er
 |true=>
  rw[SF z];obtain⟨q1,q2⟩:=t3 z;refine q87 (Vz fv hmd (Pe v hc ki km t2 z).2 q2 (by omega) ?_ (by omega)) (by omega) er;rw[qA3,show mb f c=iC (oF f c) (ej f)from rfl,VL];exact t1
def qJ7{f:Fw}(hm:f.aT=false)(hz:f.mo.1.1=z4)(hq:f.queue.length=0):ej f=f.pos:=by
 unfold ej;rw[hq];exact xg6 hm hz
def qR1(h:u9 f=true)(hi:eF f=true)(hm:f.mode=1):u9 (dX f line)=true:=by
 have v:=d7 h;have vp:=qL h;obtain⟨i1,i2,i3⟩:=zM.1 hi;have k:=v.gK;have q0:f.queue=[] :=Ca.1 i2;have l0:f.lines=[] :=Ca.1 (by rw[v.lens,i2]);have np:=fO.1 v.pos;have sm:=jh9 h i1;refine kY vp v.mode (oE.2 ?_) v.jq (Qu i1 sm q0 l0 (fO.2 ?_) (zN v)) (.inl ⟨by show ¬f.mode=3;omega,rfl⟩)
 .show((-16777216:Int)<=0/\(0:Int)<=16777216)/\((-16777216:Int)<=0/\(0:Int)<=16777216)/\((-16777216:Int)<=0/\(0:Int)<=16777216)/\(-16777216<=qG f/\qG f<=16777216)/\_
  exact⟨by omega,by omega,by omega,qS3 v.ma v.pos,k.2.2.2.2⟩
 .show((-16777216:Int)<=0/\(0:Int)<=16777216)/\((-16777216:Int)<=0/\(0:Int)<=16777216)/\((-16777216:Int)<=0/\(0:Int)<=16777216)/\_
  exact⟨by omega,by omega,by omega,np.2.2.2⟩
def yq6(z:bO d=false):d=z4:=by
 have n:d.1=0/\d.2.1=0/\d.2.2.1=0/\d.2.2.2=0:=by unfold bO at z;simpa using z
 obtain⟨a1,a2,a3,a4⟩:=d;dsimp only at n;unfold z4;simp only[tt];exact n
def zu0:ej (n8 g d)=f5 (ej g) d:=by
 cases z:bO d with
 |false=>rw[jy z,yq6 z,Cp]
 |true=>rw[ja z,zl1]
def zu1:(n8 g d).queue.length<=g.queue.length+1:=by
 cases z:bO d with
 |false=>rw[jy z];omega
 |true=>rw[ja z,uW];omega
def Ve(h:u9 g=true)(hm:¬g.mode=3/\g.bf=true)(hp:bO d=true->dm g d 0=true)(ho:gX g d=true)(hl:g.queue.length<32)(hn:u7 (f5 (ej g) d)=true):u9 (n8 g d)=true:=by
 cases z:bO d with
 |false=>rw[jy z];exact h
 |true=>
  rw[ja z];rw[nP z]at ho;exact Vz h hm (hp z) ho hl hn (by omega)
def Vg:(n8 g d).mode=g.mode/\(n8 g d).bf=g.bf/\(n8 g d).pos=g.pos:=by unfold n8;split<;>exact⟨rfl,rfl,rfl⟩
def qR3(h:gm f line=0):eF f=true/\f.mode=1/\vD f line=0:=by
 unfold gm at h
 split at h;.omega
 .rename_i n1
  split at h;.omega
  .rename_i n2;exact⟨by simpa using n1,by omega,h⟩
def qS9(h:vD f line=0)(hb:¬qH f line=false):gX (dX f line) (gj f line)=true/\gX (n8 (dX f line) (gj f line)) (kB f line)=true:=by
 unfold vD at h;rw[au hb]at h
 split at h;.omega
 .rename_i n4
  split at h;.omega
  .rename_i n5;exact⟨by simpa using n4,by simpa using n5⟩
def qT2(h:u9 f=true)(hz:gm f line=0):u9 (nv f line)=true:=by
 have v:=d7 h;obtain⟨hi,hm,hx⟩:=qR3 hz;obtain⟨i1,i2,i3⟩:=zM.1 hi;have h0:=qR1 (line:=line) h hi hm;unfold nv
 split;.exact h0
 .rename_i hb
  obtain⟨o1,o2⟩:=qS9 hx hb;have r:=fO.1 (zN (line:=line) v);have np:=fO.1 v.pos;have g0:ej (dX f line)=(0,0,0,f.pos.2.2.2):=qJ7 (f:=dX f line) i1 (show f.mo.1.1=z4 from jh9 h i1) i2;have md:¬(dX f line).mode=3/\(dX f line).bf=true:=⟨by show ¬f.mode=3;omega,rfl⟩
  have v1:u9 (n8 (dX f line) (gj f line))=true:=Ve h0 md (λz=>Gs v hi (Lz v) z) o1 (by show f.queue.length<32;omega) (by
   rw[g0];refine fO.2 ?_;unfold gj f5;dsimp only;omega)
  have v2:u9 (n8 (n8 (dX f line) (gj f line)) (kB f line))=true:=Ve v1 (by rw[Vg.1,Vg.2.1];exact md) (λz=>RL v hi o1 z) o2 (by have:=zu1 (g:=dX f line) (d:=gj f line);have e:(dX f line).queue.length=f.queue.length:=rfl;omega) (by
   rw[zu0,g0];refine fO.2 ?_;unfold gj kB f5;dsimp only;omega)
  have pr:=xc2 (m:=f.ma) v.ma (zN (line:=line) v);have v3:=d7 v2;have k:=v3.gK;have vp2:=qL v2;exact kY vp2 v3.mode (oE.2 ⟨pr.1,pr.2.1,pr.2.2.1,k.2.2.2⟩) v3.jq v3.nu v3.ends
def Wg(h:u9 f=true)(hc:c.valid=true)(hl:0<=line/\line<=1099511627776)(e:dR f line c=0):u9 (cN f line c)=true:=by
 have v:=d7 h
 by_cases k1:c.code=1112
 .rw[IU k1]
  exact Sc (ji2 (q75 h hl))
 by_cases k2:c.code=1999
 .rw[E9 k2]at e
  have:cN f line c=jQ f:=by unfold cN;rw[au k1,ay k2]
  rw[this];exact xp4 h e
 by_cases m:f.mode=3
 .rw[Oi k1 k2 m]at e;omega
 by_cases k3:c.code=1025
 .have:cN f line c={f with mode:=2}:=by unfold cN;rw[au k1,au k2,ay k3]
  rw[this];exact X1 h m (by omega)
 by_cases k4:c.code=1024
 .have:cN f line c={f with mode:=1}:=by unfold cN;rw[au k1,au k2,au k3,ay k4]
  rw[this];exact X1 h m (by omega)
 have kk:¬c.code=1112/\¬c.code=1999/\¬c.code=1024/\¬c.code=1025:=⟨k1,k2,k4,k3⟩
 by_cases w:¬f.waits=0\/¬f.bt=0
 .rw[IN kk m w]at e;omega
 have w':f.waits=0/\f.bt=0:=by omega
 rw[rk kk];rw[Fa kk m w']at e
 split at e;.rename_i a;rw[ay a];exact yh9 h hc e hl.2
 .rename_i a;rw[au a]
  split at e;.rename_i b;rw[ay b];exact V7 h (jz2 hc)
  .rename_i b;rw[au b]
   split at e;.rename_i d;rw[ay d];exact qT2 h e
   .rename_i d;rw[au d]
    have s:¬c.code=4->0<=c.s/\c.s<=400000:=Sy hc;have a0:(f.c0.fM c.s).ok=true:=Co.ah2 (wG.2 ⟨v.c0,s b⟩);have a1:(f.c1.fM c.s).ok=true:=Co.ah2 (wG.2 ⟨v.c1,s b⟩)
    have o1:rC f.waits 1=1:=by rw[w'.1];decide
    have o2:rC f.waits 2=2:=by rw[w'.1];decide
    split;.exact W1 h a0
    .split
     .rw[o1];exact Tc (f:={f with c0:=f.c0.fM c.s}) (W1 h a0) (by omega)
     .split
      .exact W0 h a1
      .split
       .rw[o2];exact Tc (f:={f with c1:=f.c1.fM c.s}) (W0 h a1) (by omega)
       .refine qz2 h (jy9 hc ?_)
        have:=OA hc;omega
def Ob(h:eZ f line c=0):u9 f=true/\c.valid=true/\(line=0\/line=f.line+1)/\line<=1099511627776/\dR f line c=0:=by
 unfold eZ at h
 split at h;.omega
 .rename_i n
  refine⟨by simpa using λk=>n (.inl k),by simpa using λk=>n (.inr (.inl k)),?_,?_,h⟩
  .by_cases k:line=0
   .exact .inl k
   .by_cases q:line=f.line+1
    .exact .inr q
    .exact absurd (.inr (.inr (.inl ⟨k,q⟩))) n
  .rcases UX 1099511627776 line with k|k
   .exact absurd (.inr (.inr (.inr k))) n
   .exact k
def zh5(h:eZ f line c=0):0<=line/\line<=1099511627776:=by
 obtain⟨h1,_,h3,h4,_⟩:=Ob h;have:=(d7 h1).gK;omega
def zh9(h:eZ f line c=0):u9 (jc f line c)=true:=by
 obtain⟨h1,h2,h3,h4,h5⟩:=Ob h;have hl:=zh5 h;unfold jc;refine ju1 ?_
 split;.exact Wg h1 h2 hl h5
 .exact q75 (Wg h1 h2 hl h5) hl
end
def KA{a b:V4}(h:a.1=b.1/\a.2.1=b.2.1/\a.2.2.1=b.2.2.1/\a.2.2.2=b.2.2.2):a=b:=by
 obtain⟨a1,a2,a3,a4⟩:=a;obtain⟨b1,b2,b3,b4⟩:=b;simp only[tt];exact h
def MD{i:Int}(hn:1<=n)(hi:0<=i/\i<=n):(0<=k->0<=jD n i k/\jD n i k<=k)/\(k<=0->k<=jD n i k/\jD n i k<=0):=by
 have s0:=Ei k
 have e:(2*n*sz k+n) / (2*n)=sz k:=by
  rw[Int.add_comm,aBP _ _ (by omega),air (by omega) (by omega)];omega
 have p0:0<=2*i*sz k:=wB (by omega) s0;have lo:0<=(2*i*sz k+n) / (2*n):=ES (by omega) (by omega)
 have up:(2*i*sz k+n) / (2*n)<=sz k:=by
  have m:=Ce (show 2*i<=2*n by omega) s0;have:=Int.ediv_le_ediv (c:=2*n) (by omega) (show 2*i*sz k+n<=2*n*sz k+n by omega);omega
 have sk:sz k=if k<0 then -k else k:=rfl
 unfold jD;constructor;.intro h;rw[au (by omega)];rw[au (by omega)]at sk;omega
 .intro h
  by_cases z:k<0
  .rw[ay z];rw[ay z]at sk;omega
  .rw[au z];rw[au z]at sk;omega
def zq8{c:V4}{i:Int}(hp:u7 p=true)(hq:u7 (f5 p c)=true):u7 (f5 p (fK c i))=true:=by
 cases h:bM c with
 |false=>rw[E2 h,Cp];exact hp
 |true=>
  have m:=vk h;have cl:=I9 (n:=cQ c) (i:=i) m.1;have a1:=MD (k:=c.1) m.1 cl;have a2:=MD (k:=c.2.1) m.1 cl;have a3:=MD (k:=c.2.2.1) m.1 cl;have a4:=MD (k:=c.2.2.2) m.1 cl;have n1:=fO.1 hp;have n2:=fO.1 hq;unfold f5 at n2;dsimp only at n2;rw[Cm h];refine fO.2 ?_;unfold f5;dsimp only;refine⟨?_,?_,?_,?_⟩
  .rcases Ih 0 c.1 with k|k
   .have:=a1.1 k;omega
   .have:=a1.2 k;omega
  .rcases Ih 0 c.2.1 with k|k
   .have:=a2.1 k;omega
   .have:=a2.2 k;omega
  .rcases Ih 0 c.2.2.1 with k|k
   .have:=a3.1 k;omega
   .have:=a3.2 k;omega
  .rcases Ih 0 c.2.2.2 with k|k
   .have:=a4.1 k;omega
   .have:=a4.2 k;omega
def yb8{m:Mo}(hp:u7 p=true)(hq:u7 (f5 p m.1.1)=true):u7 (f5 p (fc m))=true:=by
 by_cases h:f6 m.1=true/\0<=m.2.1/\m.2.1<=aF m.1.1
 .rw[A6 h];exact zq8 hp hq
 .rw[JV h,Cp];exact hp
section
variable {f:Fw} {r s:Int}
def Qq(h:u9 f=true):u9 (jR f r s)=true:=by
 have v:=d7 h;have vp:=qL h;have k:=v.gK;refine kY vp v.mode (oE.2 ⟨k.1,k.2.1,k.2.2.1,k.2.2.2.1,k.2.2.2.2.1,k.2.2.2.2.2.1,k.2.2.2.2.2.2.1,k.2.2.2.2.2.2.2.1,k.2.2.2.2.2.2.2.2.1,k.2.2.2.2.2.2.2.2.2.1,?_,k.2.2.2.2.2.2.2.2.2.2.2⟩) v.jq v.nu v.ends;unfold jR;dsimp only
 split<;>omega
def RN(h:u9 f=true):u9 (ji f)=true:=by
 have v:=d7 h;have vn:=Af h;exact kY (xg.2 ⟨v.ma,(Co.xB v.c0 _).1,(Co.xB v.c1 _).1,(Gu.xB v.g0 _ _ _).1,(Gu.xB v.g1 _ _ _).1⟩) v.mode vn v.jq v.nu v.ends
def ya4(h:u9 f=true):u9 (tM f)=true:=by
 unfold tM;split;.exact Sc (RN h)
 .exact RN h
def Vs{n:Int}(h:0<=n/\n<=3):(0<=Gc.andNot n 1/\Gc.andNot n 1<=3)/\0<=Gc.andNot n 2/\Gc.andNot n 2<=3:=by
 have:n=0\/n=1\/n=2\/n=3:=by omega
 rcases this with rfl|rfl|rfl|rfl<;>decide
def jE7(h:u9 f=true):u9 (iW f)=true:=by
 have k:=(d7 h).gK;have w:0<=f.waits/\f.waits<=3:=k.2.2.2.2.2.2.1
 have a:0<=(if By f.c0 f.g0 f.r0=true then Gc.andNot f.waits 1 else f.waits)/\(if By f.c0 f.g0 f.r0=true then Gc.andNot f.waits 1 else f.waits)<=3:=by
  split;.exact(Vs w).1
  .exact w
 unfold iW;refine Tc h ?_
 split;.exact(Vs a).2
 .exact a
def Ly(h:u9 f=true):u9 (iA f r s)=true:=jE7 (ya4 (Qq h))
theorem xb8{p:V4}{q:List Bk}:∀n,dJ (f5 p (q.getD 0 aM).1) (q.drop 1) n=dJ p q (n+1)
 |0=>rfl
 |n+1=>by
  show f5 (dJ _ (q.drop 1) n) ((q.drop 1).getD n aM).1=f5 (dJ p q (n+1)) (q.getD (n+1) aM).1;rw[xb8 n]
  congr 2
  rw[cK,yD,<-cK,yB]
def S1(h:u9 f=true)(hc:mY f=true):pX (f.queue.getD 0 aM) f.ma.aU=true/\(oT f).mo=rF (f.queue.getD 0 aM) f.ma.aU:=by
 have v:=d7 h;obtain⟨c1,c2,c3,c4⟩:=CG.1 hc;have b:=(vh (v.lR 0 (by omega))).1;have t:=((Ma.bz f.ma).1 v.ma).2.2.2.2;have k:pX (f.queue.getD 0 aM) f.ma.aU=true:=CS.2 ⟨b,by omega,by omega⟩;exact⟨k,S2 k⟩
def jf7(h:u9 f=true)(hc:mY f=true):eV (oT f)=f.pos/\dx (oT f)=f5 (dx f) (f.queue.getD 0 aM).1:=by
 have v:=d7 h;obtain⟨c1,c2,c3,c4⟩:=CG.1 hc;obtain⟨_,m⟩:=S1 h hc
 have b:eV (oT f)=f.pos:=by
  rw[uT (f:=oT f) rfl,m,yb9];exact KA ⟨by show f.pos.1-0=_;omega,by show f.pos.2.1-0=_;omega,by show f.pos.2.2.1-0=_;omega,by show f.pos.2.2.2-0=_;omega⟩
 refine⟨b,?_⟩;show f5 (eV (oT f)) (oT f).mo.1.1=_;rw[b,m,Ku v.jq c1,yI c1];rfl
def jg0(h:u9 f=true)(hc:mY f=true):u9 (oT f)=true:=by
 have v:=d7 h;have vp:=qL h;have n:=v.gK;obtain⟨c1,c2,c3,c4⟩:=CG.1 hc;obtain⟨ok,m⟩:=S1 h hc;obtain⟨b,q0⟩:=jf7 h hc;have l0:=(vh (v.lR 0 (by omega))).2.1;have p1:u7 (f5 (dx f) (f.queue.getD 0 aM).1)=true:=(vh (v.lR 0 (by omega))).2.2
 have len:(oT f).queue.length=f.queue.length-1:=by show(f.queue.drop 1).length=_;rw[wv]
 have hom:f.bf=true:=by
  rcases v.ends with k|k
  .exact k.2
  .omega
 refine kY vp v.mode (oE.2 ⟨n.1,n.2.1,n.2.2.1,n.2.2.2.1,n.2.2.2.2.1,n.2.2.2.2.2.1,n.2.2.2.2.2.2.1,n.2.2.2.2.2.2.2.1,n.2.2.2.2.2.2.2.2.1,l0,n.2.2.2.2.2.2.2.2.2.2⟩) ?_ ?_ (.inl ⟨c3,hom⟩);.rw[zf (f:=oT f) rfl,m];exact jf9 ok
 .refine pL.2 ⟨by rw[len];have:=v.len;omega,?_,v.pos,v.ret,by rw[b];exact v.pos,by rw[q0];exact p1,λi hi=>?_⟩
  .rw[len];show(f.lines.drop 1).length=_;rw[wv,v.lens]
  .rw[len]at hi
   have k:=vh (v.lR (i+1) (by omega));rw[q0];refine za.2 ⟨?_,?_,?_⟩
   .show f6 ((f.queue.drop 1).getD i aM)=true
    rw[cK,yD,<-cK,yB];exact k.1
   .show 0<=(f.lines.drop 1).getD i 0/\(f.lines.drop 1).getD i 0<=1099511627776
    rw[cK,yD,<-cK,yB];exact k.2.1
   .show u7 (dJ _ (f.queue.drop 1) (i+1))=true
    rw[xb8];exact k.2.2
def NO(h:u9 f=true):u9 (s7 f)=true:=by
 cases c:mY f with
 |true=>rw[NQ c];exact jg0 h c
 |false=>rw[NR c];exact h
def SZ(e:kO (gM f.mo f.ma.aU)=true):kF f={f with pos:=f5 f.pos (eP f.mo f.ma.aU),mo:=m0,aT:=false,bL:=0}:=ay e
def MI(e:kO (gM f.mo f.ma.aU)=false):kF f={f with pos:=f5 f.pos (eP f.mo f.ma.aU),mo:=gM f.mo f.ma.aU}:=au (by rw[e];exact fS)
def jg9:(kF f).pos=f5 f.pos (eP f.mo f.ma.aU):=by unfold kF;split<;>rfl
def jg6(h:u9 f=true)(hm:f.aT=true):dx (kF f)=dx f/\eV (kF f)=(if kO (gM f.mo f.ma.aU)=true then dx f else eV f):=by
 have v:=d7 h;have m:=v.jq;rw[zf hm]at m;have mt:=X9 m
 cases e:kO (gM f.mo f.ma.aU)with
 |true=>
  have em:=zZ1 e;rw[SN,mt]at em
  have q:dx f=f5 f.pos (eP f.mo f.ma.aU):=by
   unfold dx;rw[uT hm,<-em];unfold f5 iC;exact KA ⟨by dsimp only;omega,by dsimp only;omega,by dsimp only;omega,by dsimp only;omega⟩
  rw[SZ e,ay rfl,q];refine⟨?_,?_⟩;.unfold dx;rw[yI rfl];exact Cp _
  .rw[yI rfl]
 |false=>
  have b:eV (kF f)=eV f:=by
   rw[MI e,uT (f:={f with pos:=f5 f.pos (eP f.mo f.ma.aU),mo:=gM f.mo f.ma.aU}) hm,uT hm,mt];unfold f5 iC;exact KA ⟨by dsimp only;omega,by dsimp only;omega,by dsimp only;omega,by dsimp only;omega⟩
  refine⟨?_,by rw[b,au fS]⟩;unfold dx;rw[b,MI e];show f5 (eV f) (gM f.mo f.ma.aU).1.1=_;rw[SN]
def jh2(h:u9 f=true)(hm:f.aT=true):u9 (kF f)=true:=by
 have v:=d7 h;have vp:=qL h;have vn:=Af h;have n:=v.gK;have m:=v.jq;rw[zf hm]at m;obtain⟨q0,b⟩:=jg6 h hm
 have en:¬f.mode=3/\f.bf=true:=by
  rcases v.ends with k|k
  .exact k
  .rw[hm]at k;cases k.1
 have same:(kF f).queue=f.queue/\(kF f).lines=f.lines/\(kF f).ret=f.ret/\(kF f).mode=f.mode/\(kF f).bf=f.bf:=by unfold kF;split<;>exact⟨rfl,rfl,rfl,rfl,rfl⟩
 have pn:u7 (kF f).pos=true:=by
  rw[jg9];have mt:=X9 m;have k:=yb8 (m:=gM f.mo f.ma.aU) (p:=eV f) v.Ux (by rw[SN];exact v.q0);rw[mt,uT hm]at k
  have e:f5 (iC f.pos (fc f.mo)) (f5 (fc f.mo) (eP f.mo f.ma.aU))=f5 f.pos (eP f.mo f.ma.aU):=by
   unfold f5 iC;exact KA ⟨by dsimp only;omega,by dsimp only;omega,by dsimp only;omega,by dsimp only;omega⟩
  rw[e]at k;exact k
 have qd:fh (kF f)=true:=pL.2 ⟨by rw[same.1];exact v.len,by rw[same.1,same.2.1];exact v.lens,pn,by rw[same.2.2.1];exact v.ret,by
  rw[b];split;.exact v.q0
  .exact v.Ux,by rw[q0];exact v.q0,λi hi=>by
  rw[same.1]at hi
  rw[q0,same.1,same.2.1];exact v.lR i hi⟩
 cases e:kO (gM f.mo f.ma.aU)with
 |true=>
  rw[SZ e]at qd ⊢;refine kY vp v.mode (oE.2 ⟨n.1,n.2.1,n.2.2.1,n.2.2.2.1,n.2.2.2.2.1,n.2.2.2.2.2.1,n.2.2.2.2.2.2.1,n.2.2.2.2.2.2.2.1,n.2.2.2.2.2.2.2.2.1,?_,n.2.2.2.2.2.2.2.2.2.2⟩) ?_ qd (.inl en);.show(0:Int)<=0/\(0:Int)<=1099511627776;omega
  .rw[zg rfl];exact SY rfl rfl
 |false=>
  rw[MI e]at qd ⊢;refine kY vp v.mode vn ?_ qd (.inl en);rw[zf (f:={f with pos:=f5 f.pos (eP f.mo f.ma.aU),mo:=gM f.mo f.ma.aU}) hm];exact jo2 m e
def xx3(h:u9 f=true)(hm:¬f.mode=3):u9 (kT f)=true:=by
 have v:=d7 h;have n:=v.gK;unfold kT
 split;.exact V7 h (by omega)
 .split
  .rename_i k;exact jh2 (NO h) k
  .exact NO h
def jo4(h:u9 f=true):u9 (mI f r s)=true:=by
 unfold mI;rw[h,au (by decide)]
 split;.exact Ly h
 .rename_i k;exact xx3 (Ly h) k
def GZ(h:u9 f=true):mI f r s=if(iA f r s).mode=3 then iA f r s else kT (iA f r s):=by unfold mI;rw[h];rfl
def GY(h:u9 f=true):vM f r s=if(iA f r s).mode=3 then z4 else jg (iA f r s):=by unfold vM;rw[h];rfl
def Mv(h:u9 f=true):lK f r s=if(iA f r s).mode=3 then(0,0)else(AT (jR f r s),AS (jR f r s)):=by unfold lK;rw[h];rfl
end
def oz(f:Fw):Bool:=u9 f&&mY f
def gb(f:Fw):Fw:=if u9 f=true then s7 f else f
def tC(f:Fw):SV:=.tuple [(gb f).sv,.bool (oz f)]
def NP(h:u9 f=true):gb f=s7 f:=ay h
def zx7(h:u9 f=false):gb f=f:=au (by rw[h];exact fS)
def U9(h:u9 f=false):SV.tuple [.agg f.cells,.bool false] =tC f:=by unfold tC oz;rw[zx7 h,h];rfl
def U8(h:u9 f=true)(c:mY f=false):SV.tuple [.agg f.cells,.bool false] =tC f:=by unfold tC oz;rw[NP h,NR c,h,c];rfl
def U7(h:u9 f=true)(c:mY f=true):SV.tuple [.agg (s7 f).cells,.bool true] =tC f:=by unfold tC oz;rw[NP h,h,c];rfl
def oR(f:Fw)(r s:Int):SV:=.tuple [(mI f r s).sv,V4.sv (vM f r s),.agg [J (lK f r s).1,J (lK f r s).2]]
def js5(v:u9 f=true):(if 1099511627776<i64.wrap (f.aU+1)then 1099511627776 else i64.wrap (f.aU+1))=(if f.aU+1<1099511627776 then f.aU+1 else 1099511627776):=by
 have n:=(d7 v).gK;rw[aG (x:=f.aU+1) (by omega) (by omega)]
 split<;>split<;>omega
variable{s:Int}
def js4{g:Fw}(v:u9 f=true)(h:g=jR f r s):CV g=true:=by
 subst h;have u:=d7 (Qq (r:=r) (s:=s) v);exact Y9.2 ⟨u.c0,u.c1,u.g0,u.g1,u.shape⟩
def js2{g:Fw}(v:u9 f=true)(h:g=jR f r s):A3 (tY g)=true:=by
 subst h;have u:=d7 (Ly (r:=r) (s:=s) v);have n:=u.gK;exact XZ.2 ⟨u.shape,show 0<=(iA f r s).bt/\(iA f r s).bt<=1048576 by omega⟩
def jr9(v:u9 f=true):pT (jR f r s)=lK f r s:=by
 rw[Mv v];rfl
def js0{g:Fw}(v:u9 f=true)(h:g=jR f r s)(m:(tY g).mode=3):SV.tuple [.agg (tY g).cells,V4.sv z4,.agg [J (pT g).1,J (pT g).2]] =oR f r s:=by
 subst h;have m:(iA f r s).mode=3:=m;unfold oR;rw[jr9 v,GZ v,GY v,ay m,ay m];rfl
def js1{g:Fw}(v:u9 f=true)(h:g=jR f r s)(m:¬(tY g).mode=3):SV.tuple [.agg (kT (tY g)).cells,V4.sv (jg (tY g)),.agg [J (pT g).1,J (pT g).2]] =oR f r s:=by
 subst h;have m:¬(iA f r s).mode=3:=m;unfold oR;rw[jr9 v,GZ v,GY v,au m,au m];rfl
def js3(v:u9 f=false):SV.tuple [.agg f.cells,V4.sv z4,.agg [J 0,J 0]] =oR f r s:=by
 unfold oR mI vM lK;rw[v];rfl
def xB2(f:Fw):SCall pP 29 [f.sv] (tC f):=
 ic (hB (l:=[pQ]) (k:=[]) (j:=[bF.toP tE]) (i:=[tE]) nN nN nN nN (⟨zl,trivial⟩) v8 (gx.all (p:=kq.ok pP) (l:=[bF.toP tE]) ⟨bF.toP_ok Jx,trivial⟩) (gx.all (p:=bF.ok pP) (l:=[tE]) ⟨Jx,trivial⟩)) 1000 (.ah (.all) (.ah (.all) (.all)))
  (t:=.ag (!u9 f)
 (.ai (SV.tuple [SV.agg (Fw.cells f),SV.bool false]))
 (.aj (f4 f) (.ag (!mY f)
   (.ai (SV.tuple [SV.agg (Fw.cells f),SV.bool false]))
   (.ai (SV.tuple [SV.agg (Fw.cells (s7 f)),SV.bool true])))))
   (by kernel_rfl) (by
    refine d8 (λv=>U9 v) λv=>x0 (d7 v).shape (d8 (λc=>U8 v c) λc=>U7 v c)) (by kernel_rfl) (by rfl)
def x21(f:Fw)(r s:Int):SCall pP 27 [f.sv,.agg [J r,J s]] (oR f r s):=
 ic (hB (l:=[pQ]) (k:=[]) (j:=[bF.toP E0,bF.toP EZ]) (i:=[E0,EZ]) nN nN nN nN (⟨zl,trivial⟩) v8 (gx.all (p:=kq.ok pP) (l:=[bF.toP E0,bF.toP EZ]) ⟨bF.toP_ok Xq,bF.toP_ok Xp,trivial⟩) (gx.all (p:=bF.ok pP) (l:=[E0,EZ]) ⟨Xq,Xp,trivial⟩)) 1000 (.ah (.all) (.ah (.all) (.all)))
  (t:=let y2:={f with aU:=(if 1099511627776<i64.wrap (f.aU+1)then 1099511627776 else i64.wrap (f.aU+1)),r0:=r,r1:=s};let y0:=tY y2;let y3:=(((y0.mo.1.1.1,y0.mo.1.1.2.1,y0.mo.1.1.2.2),y0.mo.1.2.1,y0.mo.1.2.2.1,y0.mo.1.2.2.2),y0.mo.2);let y1:={y0 with pos:=(y0.pos.1,y0.pos.2.1,y0.pos.2.2),loc:=(y0.loc.1,y0.loc.2),mo:=y3,ret:=(y0.ret.1,y0.ret.2.1,y0.ret.2.2)};.ag (!u9 f) (lT [.agg (Fw.cells f),.agg [J 0,J 0,J 0,J 0],.agg [J 0,J 0]]) (.aj (r=r) (.aj (s=s) (.aj (CV y2) (.aj (A3 y1) (.ag (y0.mode==3) (lT [.agg (Fw.cells {y0 with pos:=(y0.pos.1,y0.pos.2.1,y0.pos.2.2),loc:=(y0.loc.1,y0.loc.2),mo:=y3,ret:=(y0.ret.1,y0.ret.2.1,y0.ret.2.2)}),.agg [J 0,J 0,J 0,J 0],.agg [J (pT y2).1,J (pT y2).2]]) (lT [.agg (Fw.cells (kT y1)),.agg [J (jg y1).1,J (jg y1).2.1,J (jg y1).2.2.1,J (jg y1).2.2.2],.agg [J (pT y2).1,J (pT y2).2]])))))))
  (by kernel_rfl) (by
   refine d8 (λv=>js3 v) λv=>?_
   have h:({f with aU:=(if 1099511627776<i64.wrap (f.aU+1)then 1099511627776 else i64.wrap (f.aU+1)),r0:=r,r1:=s}:Fw)=jR f r s:=by unfold jR;rw[js5 v]
   exact x0 (bn rfl) (x0 (bn rfl) (x0 (js4 v h) (x0 (js2 v h) (iK (λm=>js0 v h m) λm=>js1 v h m))))) (by kernel_rfl) (by rfl)
section
variable {f:Fw} {line:Int} {c:Gc.C}
def Oa:(ri f line c).data=true:=by unfold ri;split<;>rfl
def zg2:jc f line c=sj (cN f line c) line c:=by
 unfold jc sj pW
 by_cases h:c.code=1112
 .rw[ay h,ay (.inr h)]
 .rw[au h]
  by_cases k:line=0
  .rw[ay k,ay (.inl k)]
  .rw[au k,au (by omega)];rfl
def wJ(h:u9 f=false\/c.valid=false\/(¬line=0/\¬line=f.line+1)\/1099511627776<line):SV.tuple [.agg (o9 aP),.int .i64 1] =ri f line c:=by
 have e:eZ f line c=1:=ay h;unfold ri;rw[e,au (by omega)];rfl
def N8(v:u9 f=true)(hc:c.valid=true)(hl:line=0\/line=f.line+1)(hm:line<=1099511627776):ri f line c=vY f line c:=by
 have e:eZ f line c=dR f line c:=au (by rw[v,hc];simp only[yF,false_or];omega);unfold ri vY;rw[e,zg2]
def q17:cV pP (Env.cq pP (j9 [pQ,yq,xG]) (d9 [ul,um,uo,uq,uw,ur,uu,ut]) (f0 []) (b9 []) (j6 []) (j6 []) (j6 []) (j6 [3])):=
 hB (l:=[pQ,yq,xG]) (k:=[ul,um,uo,uq,uw,ur,uu,ut]) (j:=[]) (i:=[]) [] [] [] [3] ⟨zl,Xg,Yx,trivial⟩ (gx.all (p:=iY.ok pP) (l:=[ul,um,uo,uq,uw,ur,uu,ut]) ⟨Yp,Yq,Yr,Yv,Yu,Yw,Yt,Ys,trivial⟩) v8 v8
set_option maxHeartbeats 4000000 in
def xz5(f:Fw)(line:Int)(c:Gc.C):SCall pP 24 [f.sv,J line,c.sv] (ri f line c):=by
 refine s8 rfl Oa (by kernel_rfl) (o6 q17 (n:=1000) (hint:=.unit) (keep:=x6 114 [1,3,5,6]) (p:=VV) (boxes:=[]) Oa ?_);have q:=ac0 f line c;unfold v6 v7 at q;erw [q]
 have go:u9 f=true->c.valid=true->(line=0\/line=f.line+1)->line<=1099511627776->t9 pP (x9 pP 24) (ri f line c) Lr (x7 114 [(1,J line),(3,.ptr 0 0),(5,.ptr 1 0),(6,.ptr 2 0)]) [some (.cells f.cells),some (.cells c.cells),some (.cells (o9 aP))] :=λv hc hl hm=>by
  have n:=(d7 v).gK;rw[N8 v hc hl hm];exact zf7 v hc (ji5.2 ⟨(d7 v).shape,by omega,hm⟩)
 refine d8 (λv=>wJ (.inl v)) λv=>d8 (λhc=>wJ (.inr (.inl hc))) λhc=>?_
 have n:=(d7 v).gK;have w:i64.wrap (f.line+1)=f.line+1:=aG (by omega) (by omega);rw[w]
 refine dI (λh0=>dI (λh1=>wJ (.inr (.inr (.inl ⟨h0,h1⟩)))) λh1=>o7 (λh2=>wJ (.inr (.inr (.inr (by omega))))) λh2=>?_) λh0=>o7 (λh2=>wJ (.inr (.inr (.inr (by omega))))) λh2=>?_
 .exact⟨o5 _ _,go v hc (.inr h1) (by omega)⟩
 .exact⟨o5 _ _,go v hc (.inl h0) (by omega)⟩
end
def Xe:aB:=gU 24 λf rest=>match rest with
 |[.int .i64 line,.agg [.int .i64 a0,.int .i64 a1,.int .i64 a2,.int .i64 a3,.int .i64 a4,.int .i64 a5,.int .i64 a6,.int .i64 a7]] =>some (.ag (eZ f line ⟨a0,a1,a2,a3,a4,a5,a6,a7⟩=0) (lT [(jc f line ⟨a0,a1,a2,a3,a4,a5,a6,a7⟩).sv,J 0]) (lT [aP.sv,J (eZ f line ⟨a0,a1,a2,a3,a4,a5,a6,a7⟩)]))
 |_=>none
def VQ{g:FuncId}{args:List SV}(k:SCall P g args (ri f line c)):(ak.ag (eZ f line c=0) (lT [(jc f line c).sv,J 0]) (lT [aP.sv,J (eZ f line c)])).bw (SCall P g args):=by
 unfold ri at k;refine⟨λh=>?_,λh=>?_⟩;.rw[ay (bG h)]at k;exact k
 .rw[au (cO h)]at k;exact C4 k (JB (CN _ rfl rfl))
def yr7:Xe.ok pP:=iz λf rest t ht=>by
 split at ht<;>cases ht;exact VQ (xz5 f _ ⟨_,_,_,_,_,_,_,_⟩)
def NU:List SV->Option Ma
 |[.int .i64 a0,.int .i64 a1,.int .i64 a2,.int .i64 a3,.int .i64 a4,.int .i64 a5,.int .i64 a6,.int .i64 a7,.int .i64 a8,.int .i64 a9,.int .i64 UB,.int .i64 UA,.int .i64 a12,.int .i64 a13,.int .i64 a14,.int .i64 a15,.int .i64 a16,.int .i64 a17,.int .i64 a18,.int .i64 a19,.int .i64 a20,.int .i64 a21,.int .i64 a22,.int .i64 a23,.int .i64 a24,.int .i64 a25,.int .i64 a26,.int .i64 a27,.bool xy,.int .i64 t] =>some ⟨⟨a0,a1,a2,a3,a4,a5,a6⟩,⟨a7,a8,a9,UB,UA,a12,a13⟩,⟨a14,a15,a16,a17,a18,a19,a20⟩,⟨a21,a22,a23,a24,a25,a26,a27⟩,xy,t⟩
 |_=>none
variable{l:List SV}
def zq4(h:NU l=some m):l=m.cells:=by
 unfold NU at h
 split at h;.cases h;rfl
 .cases h
def NW:List SV->Option (Co×Co)
 |[.int .i64 c0,.int .i64 c1,.int .i64 c2,.int .i64 c3,.int .i64 c4,.int .i64 c5,.int .i64 c6,.int .i64 c7,.int .i64 c8,.int .i64 c9,.int .i64 c10,.int .i64 c11] =>some (⟨c0,c1,c2,c3,c4,c5⟩,⟨c6,c7,c8,c9,c10,c11⟩)
 |_=>none
def zp8{m:(Co×Co)}(h:NW l=some m):l=m.1.cells++m.2.cells:=by
 unfold NW at h
 split at h;.cases h;rfl
 .cases h
def NV:List SV->Option (Gu×Gu)
 |[.int .i64 g0,.int .i64 g1,.int .i64 g2,.int .i64 g3,.int .i64 g4,.int .i64 g5,.int .i64 g6,.int .i64 g7,.int .i64 g8,.int .i64 g9,.bool u,.int .i64 h0,.int .i64 h1,.int .i64 h2,.int .i64 h3,.int .i64 h4,.int .i64 h5,.int .i64 h6,.int .i64 h7,.int .i64 h8,.int .i64 h9,.bool v] =>some (⟨g0,g1,g2,g3,g4,g5,g6,g7,g8,g9,u⟩,⟨h0,h1,h2,h3,h4,h5,h6,h7,h8,h9,v⟩)
 |_=>none
def zq2{m:(Gu×Gu)}(h:NV l=some m):l=m.1.cells++m.2.cells:=by
 unfold NV at h
 split at h;.cases h;rfl
 .cases h
def Q7(f:FuncId):aB:=⟨f,λargs=>match args with
 |[.agg lm,.agg lc,.agg lg,.int .i64 bc] =>match NU lm with
  |some m=>match NW lc with
   |some c=>match NV lg with
    |some g=>some (.ag (vj m c.1 c.2 g.1 g.2 bc) (lT [(jA m c.1 c.2 g.1 g.2 bc).sv,J 0]) (lT [aP.sv,J 1]))
    |none=>none
   |none=>none
  |none=>none
 |_=>none⟩
def Bn:aB:=Q7 61
def Xc:aB:=fC 29 λf=>.ai (tC f)
def qn0:aB:=gU 27 λf rest=>match rest with
 |[.agg [.int .i64 r,.int .i64 s]] =>some (.ai (oR f r s))
 |_=>none
def qw3{f:FuncId}(k:∀m c d g h bc,SCall pP f [Ma.sv m,.agg (Co.cells c++Co.cells d),.agg (Gu.cells g++Gu.cells h),J bc] (wX m c d g h bc)):(Q7 f).ok pP:=λargs t ht=>by
 simp only[Q7]at ht
 split at ht
 .split at ht
  .rename_i hm
   split at ht
   .rename_i hc
    split at ht
    .rename_i hg
     cases ht;rw[zq4 hm,zp8 hc,zq2 hg];refine⟨λh1=>?_,λh1=>?_⟩
     .refine C4 (v:=wX _ _ _ _ _ _) (k _ _ _ _ _ _) ?_
      rw[XQ h1];exact JB (CN _ rfl rfl)
     .refine C4 (v:=wX _ _ _ _ _ _) (k _ _ _ _ _ _) ?_
      rw[XR h1];exact JB (CN _ rfl rfl)
    .cases ht
   .cases ht
  .cases ht
 .cases ht
def YR:Bn.ok pP:=qw3 xP6
def yt3:Xc.ok pP:=fE λf=>xB2 f
def yN4:qn0.ok pP:=iz λf rest t ht=>by
 split at ht<;>cases ht;exact x21 f _ _
def zS(f:Fw)(b:Bool):Int:=if b=true then f.line+1 else 0
def qc9(g:FuncId):aB:=gU g λf rest=>match rest with
 |[.agg [.int .i64 _,.bool b,.int .i64 _,.int .i64 _,.int .i64 _,.int .i64 _,.int .i64 _,.int .i64 _,.int .i64 _,.int .i64 _,.int .i64 _,.int .i64 _,.int .i64 _]] =>some (.aj (az f.line 0 1099511627776) (.ai (J (zS f b))))
 |_=>none
def GL(kd:Int)(nb:Bool)(c:Gc.C)(n r s:Int):List SV:=[J kd,.bool nb,J c.code,J c.has,J c.x,J c.y,J c.z,J c.e,J c.f,J c.s,J n,J r,J s]
def Jv(a b:List Int):Bool:=decide (a=b)
def Jw(a b:List Bk):Bool:=decide (a=b)
def z04{a b:List Int}(h:Jv a b=true):a=b:=bG h
def z02{a b:List Bk}(h:Jw a b=true):a=b:=bG h
def Dd(a:List Int):Bool:=decide (a.length<=1000)
def De(a:List Bk):Bool:=decide (a.length<=1000)
def Rj:aB:=⟨70,λargs=>match args with
 |[.list (.int .i64) a,.list (.int .i64) b] =>some (.aj (Jv a b) (.aj (Dd a) (.ai (.bool true))))
 |_=>none⟩
def Rk:aB:=⟨69,λargs=>match args with
 |[.list (.pair (.pair (.int .i64) (.pair (.int .i64) (.pair (.int .i64) (.int .i64)))) (.pair (.int .i64) (.pair (.int .i64) (.pair (.int .i64) (.int .i64))))) a,.list (.pair (.pair (.int .i64) (.pair (.int .i64) (.pair (.int .i64) (.int .i64)))) (.pair (.int .i64) (.pair (.int .i64) (.pair (.int .i64) (.int .i64))))) b] =>some (.aj (Jw a b) (.aj (De a) (.ai (.bool true))))
 |_=>none⟩
def x71:ax:=.ah (.all) (.all)
def x70(l:List Int):o8 (Env.of pP (j9 [])) 1000 (x9 pP 70) .unit (x6 26 [0,1,5]) (v7 pP 70) x71 (v6 pP 70 [LI l,LI l]) [] =(.ag ((↑l.length:Int) !=(↑l.length:Int)) (.ai (.done (.bool false))) (.ai (.at (x8 pP 70 0) 26 (x7 26 [(0,.list (Ty.int i64) l),(1,.list (Ty.int i64) l),(5,J 0)]) []))):=by kernel_rfl
def x73:ax:=.ah (.ah (.all) (.all)) (.all)
def x72(l:List Int)(i:Int):o8 (Env.of pP (j9 [])) 1000 (x9 pP 70) .unit (x6 26 [0,1,5]) (x8 pP 70 0) x73 (x7 26 [(0,LI l),(1,LI l),(5,J i)]) [] =(.ag (i< (↑l.length:Int)) (.aj (0<=i&&i< (↑l.length:Int)) (.aj (0<=i&&i< (↑l.length:Int)) (.ag (l.getD i.toNat 0 != l.getD i.toNat 0) (.ai (.done (.bool false))) (.ai (.at (x8 pP 70 0) 26 (x7 26 [(0,.list (Ty.int i64) l),(1,.list (Ty.int i64) l),(5,J (i64.wrap (i+1)))]) []))))) (.ai (.done (.bool true)))):=by kernel_rfl
def x66:ax:=.ah (.all) (.all)
def x65(l:List Bk):o8 (Env.of pP (j9 [])) 1000 (x9 pP 69) .unit (x6 26 [0,1,5]) (v7 pP 69) x66 (v6 pP 69 [LB l,LB l]) [] =(.ag ((↑l.length:Int) !=(↑l.length:Int)) (.ai (.done (.bool false))) (.ai (.at (x8 pP 69 0) 26 (x7 26 [(0,.list w9 l),(1,.list w9 l),(5,J 0)]) []))):=by kernel_rfl
def x68:ax:=.ah (.ah (.all) (.all)) (.all)
def x67(l:List Bk)(i:Int):o8 (Env.of pP (j9 [])) 1000 (x9 pP 69) .unit (x6 26 [0,1,5]) (x8 pP 69 0) x68 (x7 26 [(0,LB l),(1,LB l),(5,J i)]) [] =(let y0:=l.getD i.toNat aM; .ag (i< (↑l.length:Int)) (.aj (0<=i&&i< (↑l.length:Int)) (.aj (0<=i&&i< (↑l.length:Int)) (.ag (!(y0.1.1==y0.1.1&& (y0.1.2.1==y0.1.2.1&& (y0.1.2.2.1==y0.1.2.2.1&& (y0.1.2.2.2==y0.1.2.2.2&&true)))&& (y0.2.1==y0.2.1&& (y0.2.2.1==y0.2.2.1&& (y0.2.2.2.1==y0.2.2.2.1&& (y0.2.2.2.2==y0.2.2.2.2&&true)))))) (.ai (.done (.bool false))) (.ai (.at (x8 pP 69 0) 26 (x7 26 [(0,.list w9 l),(1,.list w9 l),(5,J (i64.wrap (i+1)))]) []))))) (.ai (.done (.bool true)))):=by kernel_rfl
structure Fl where
 aC:List (List UInt8)
 bU:Int
 dead:Bool
 keep:Int
def Fl.cells(f:Fl):List SV:=[.list .str f.aC,J f.bU,.bool f.dead,J f.keep]
def Fl.sv(f:Fl):SV:=.agg f.cells
def ru(f:FuncId)(h:Fl->ak SV):aB:=⟨f,λargs=>match args with
 |[.agg [.list .str p,.int .i64 a,.bool d,.int .i64 k]] =>some (h ⟨p,a,d,k⟩)
 |_=>none⟩
def tV{f:FuncId}{h:Fl->ak SV}(k:∀c,(h c).bw (SCall P f [c.sv])):(ru f h).ok P:=λargs t ht=>by
 simp only[ru]at ht
 split at ht<;>cases ht;exact k ⟨_,_,_,_⟩
def jB4:ax:=.all
def jB3(f:Fl):o8 (Env.of pP (j9 [])) 1000 (x9 pP 102) .unit (x6 46 [1,6,7,8]) (v7 pP 102) jB4 (v6 pP 102 [f.sv]) [] =(.ai (.at (x8 pP 102 0) 46 (x7 46 [(1,.ptr 0 0),(6,.list Ty.str f.aC),(7,J (↑f.aC.length:Int)),(8,J 0)]) [some (.cells [.list Ty.str f.aC,J f.bU,.bool f.dead,J f.keep])])):=by kernel_rfl
def jB6:ax:=.ah (.ah .all .all) (.ah (.ln 4 (.ah (.ln 3 (.ah (.ln 3 (.ah (.ln 3 (.ah (.ar (.ar pA)) (.ar (.ar pA)))) (.ln 6 pA))) (.ln 10 pA))) (.ln 14 pA))) (.ln 19 pA))
def jB5(f:Fl)(i:Int):o8 (Env.of pP (j9 [])) 1000 (x9 pP 102) .unit (x6 46 [1,6,7,8]) (x8 pP 102 0) jB6 (x7 46 [(1,.ptr 0 0),(6,.list .str f.aC),(7,J f.aC.length),(8,J i)]) [some (.cells f.cells)] =(.ag (i< (↑f.aC.length:Int)) (.aj (0<=i&&i< (↑f.aC.length:Int)) (.ag (((List.length (f.aC.getD i.toNat ([] :List UInt8)):Nat):Int) != 64) (.ai (.done (.bool false))) (.ai (.at (x8 pP 102 0) 46 (x7 46 [(1,.ptr 0 0),(6,.list Ty.str f.aC),(7,J (↑f.aC.length:Int)),(8,J (i64.wrap (i+1)))]) [some (.cells [.list Ty.str f.aC,J f.bU,.bool f.dead,J f.keep])])))) (.ag ((↑f.aC.length:Int)>=2) (.ag ((↑f.aC.length:Int)<=256) (.ag (f.bU>=0) (.ag (f.bU<=1048576) (.ag (f.keep>=0) (.ai (.done (.bool (f.keep<=64)))) (.ai (.done (.bool false)))) (.ai (.done (.bool false)))) (.ai (.done (.bool false)))) (.ai (.done (.bool false)))) (.ai (.done (.bool false))))):=by kernel_rfl
def jB9:ax:=.all
def jB8(f:Fl):o8 (Env.of pP (j9 [])) 1000 (x9 pP 109) .unit (x6 46 [1,6,7,8]) (v7 pP 109) jB9 (v6 pP 109 [f.sv]) [] =(.ai (.at (x8 pP 109 0) 46 (x7 46 [(1,.ptr 0 0),(6,.list Ty.str f.aC),(7,J (↑f.aC.length:Int)),(8,J 0)]) [some (.cells [.list Ty.str f.aC,J f.bU,.bool f.dead,J f.keep])])):=by kernel_rfl
def jC1:ax:=.ah (.ah .all .all) (.ah (.ln 4 (.ah (.ln 3 (.ah (.ln 3 (.ah (.ln 3 (.ah (.ar (.ar pA)) (.ar (.ar pA)))) (.ln 6 pA))) (.ln 10 pA))) (.ln 14 pA))) (.ln 19 pA))
def jC0(f:Fl)(i:Int):o8 (Env.of pP (j9 [])) 1000 (x9 pP 109) .unit (x6 46 [1,6,7,8]) (x8 pP 109 0) jC1 (x7 46 [(1,.ptr 0 0),(6,.list .str f.aC),(7,J f.aC.length),(8,J i)]) [some (.cells f.cells)] =(.ag (i< (↑f.aC.length:Int)) (.aj (0<=i&&i< (↑f.aC.length:Int)) (.ag (((List.length (f.aC.getD i.toNat ([] :List UInt8)):Nat):Int) != 64) (.ai (.done (.bool false))) (.ai (.at (x8 pP 109 0) 46 (x7 46 [(1,.ptr 0 0),(6,.list Ty.str f.aC),(7,J (↑f.aC.length:Int)),(8,J (i64.wrap (i+1)))]) [some (.cells [.list Ty.str f.aC,J f.bU,.bool f.dead,J f.keep])])))) (.ag ((↑f.aC.length:Int)>=2) (.ag ((↑f.aC.length:Int)<=256) (.ag (f.bU>=0) (.ag (f.bU<=1048576) (.ag (f.keep>=0) (.ai (.done (.bool (f.keep<=64)))) (.ai (.done (.bool false)))) (.ai (.done (.bool false)))) (.ai (.done (.bool false)))) (.ai (.done (.bool false)))) (.ai (.done (.bool false))))):=by kernel_rfl
def qz9:ax:=.ah (.all) (.all)
def fcp(f:Fl):o8 (Env.of pP (j9 [])) 1000 (x9 pP 130) .str (x6 9 []) (v7 pP 130) qz9 (v6 pP 130 [f.sv]) [] =(.ag (f.aC.isEmpty) (.ai (.done (.agg [.list Ty.str [],J f.bU,.bool f.dead,J f.keep]))) (.aj ((0+f.aC.length)*16<=140737488355328) (.ai (.done (.agg [.list Ty.str f.aC,J f.bU,.bool f.dead,J f.keep]))))):=by kernel_rfl
def qz8:ax:=.ah (.all) (.all)
def qz7(f:Fl):o8 (Env.of pP (j9 [])) 1000 (x9 pP 131) .str (x6 9 []) (v7 pP 131) qz8 (v6 pP 131 [f.sv]) [] =(.ag (f.aC.isEmpty) (.ai (.done (.agg [.list Ty.str [],J f.bU,.bool f.dead,J f.keep]))) (.aj ((0+f.aC.length)*16<=140737488355328) (.ai (.done (.agg [.list Ty.str f.aC,J f.bU,.bool f.dead,J f.keep]))))):=by kernel_rfl
def qz6:ax:=.ah (.all) (.all)
def qz5(f:Fl):o8 (Env.of pP (j9 [])) 1000 (x9 pP 116) .str (x6 9 []) (v7 pP 116) qz6 (v6 pP 116 [f.sv]) [] =(.ag (f.aC.isEmpty) (.ai (.done (.agg [.list Ty.str [],J f.bU,.bool f.dead,J f.keep]))) (.aj ((0+f.aC.length)*16<=140737488355328) (.ai (.done (.agg [.list Ty.str f.aC,J f.bU,.bool f.dead,J f.keep]))))):=by kernel_rfl
def XS{α:Type}{L:α->Prop}{T F:ak α}(hb:b=true)(h:T.holds L):(ak.ag b T F).holds L:=⟨λ_=>h,λk=>by rw[hb]at k;cases k⟩
def eH:cV pP (Env.of pP (j9 [])):=kW trivial
theorem x74(l:List Int)(hl:l.length<=4611686018427387904):∀ (k i:Nat),i+k=l.length->
  t9 pP (x9 pP 70) (.bool true) (x8 pP 70 0) (x7 26 [(0,LI l),(1,LI l),(5,J i)]) []
 |k,i,hi=>by
  refine o6 eH (n:=1000) (hint:=.unit) (keep:=x6 26 [0,1,5]) (p:=x73) rfl ?_;erw [x72 l i]
  have t0:(i:Int).toNat=i:=by omega
  have w1:i64.wrap ((i:Int)+1)=((i+1:Nat):Int):=by rw[aG (by omega) (by omega)];omega
  rw[t0,w1]
  refine o7 (λa=>?_) λa=>rfl
  match k,hi with
  |0,hi=>omega
  |k+1,hi=>
   exact x0 (by simp;omega) (x0 (by simp;omega) (dI (λc=>absurd rfl c) λ_=>⟨o5 _ _,x74 l hl k (i+1) (by omega)⟩))
theorem x69(l:List Bk)(hl:l.length<=4611686018427387904):∀ (k i:Nat),i+k=l.length->
  t9 pP (x9 pP 69) (.bool true) (x8 pP 69 0) (x7 26 [(0,LB l),(1,LB l),(5,J i)]) []
 |k,i,hi=>by
  refine o6 eH (n:=1000) (hint:=.unit) (keep:=x6 26 [0,1,5]) (p:=x68) rfl ?_;erw [x67 l i]
  have t0:(i:Int).toNat=i:=by omega
  have w1:i64.wrap ((i:Int)+1)=((i+1:Nat):Int):=by rw[aG (by omega) (by omega)];omega
  rw[t0,w1]
  refine o7 (λa=>?_) λa=>rfl
  match k,hi with
  |0,hi=>omega
  |k+1,hi=>
   exact x0 (by simp;omega) (x0 (by simp;omega) ⟨λc=>(by simp at c),λ_=>⟨o5 _ _,x69 l hl k (i+1) (by omega)⟩⟩)
def xX0(l:List Int)(hl:l.length<=4611686018427387904):SCall pP 70 [LI l,LI l] (.bool true):=by
 refine s8 rfl rfl (by kernel_rfl) (o6 eH (n:=1000) (hint:=.unit) (keep:=x6 26 [0,1,5]) (p:=x71) (boxes:=[]) rfl ?_);have q:=x70 l;unfold v6 v7 at q;erw [q]
 exact dI (λc=>absurd rfl c) λ_=>⟨o5 _ _,x74 l hl l.length 0 (by omega)⟩
def xW9(l:List Bk)(hl:l.length<=4611686018427387904):SCall pP 69 [LB l,LB l] (.bool true):=by
 refine s8 rfl rfl (by kernel_rfl) (o6 eH (n:=1000) (hint:=.unit) (keep:=x6 26 [0,1,5]) (p:=x66) (boxes:=[]) rfl ?_);have q:=x65 l;unfold v6 v7 at q;erw [q]
 exact dI (λc=>absurd rfl c) λ_=>⟨o5 _ _,x69 l hl l.length 0 (by omega)⟩
def o4(f:Fl):Bool:=decide (f.aC.length<=1000)
def Kc(l:List (List UInt8)):Bool:=l.all λp=>decide (p.length=64)
def eU(f:Fl):Bool:=Kc f.aC&& (2<=f.aC.length&&f.aC.length<=256&&az f.bU 0 1048576&&az f.keep 0 64)
def vF(f:Fl):Bool:=2<=f.aC.length&&f.aC.length<=256&&az f.bU 0 1048576&&az f.keep 0 64
def GB{f:Fl}:eU f=true↔(∀p∈f.aC,p.length=64)/\2<=f.aC.length/\f.aC.length<=256/\(0<=f.bU/\f.bU<=1048576)/\0<=f.keep/\f.keep<=64:=by
 simp[eU,Kc,v5,H7]
def uY{α:Type}{l:List α}{d:α}(h:i<l.length):l.drop i=l.getD i d::l.drop (i+1):=by
 rw[aBM h,cK,cc h];rfl
theorem jB7(f:Fl)(hl:f.aC.length<=1000):∀ (k i:Nat) (v:Bool),i+k=f.aC.length->v=((f.aC.drop i).all (λp=>decide (p.length=64))&&vF f)->
  t9 pP (x9 pP 102) (.bool v) (x8 pP 102 0) (x7 46 [(1,.ptr 0 0),(6,.list .str f.aC),(7,J f.aC.length),(8,J i)]) [some (.cells f.cells)]
 |k,i,v,hi,hv=>by
  refine o6 eH (n:=1000) (hint:=.unit) (keep:=x6 46 [1,6,7,8]) (p:=jB6) rfl ?_;erw [jB5 f i]
  have t0:(i:Int).toNat=i:=by omega
  have w1:i64.wrap ((i:Int)+1)=((i+1:Nat):Int):=by rw[aG (by omega) (by omega)];omega
  rw[t0,w1]
  refine o7 (λa=>?_) λa=>?_
  .match k,hi with
   |0,hi=>omega
   |k+1,hi=>
    rw[uY (d:=([] :List UInt8)) (by omega:i<f.aC.length),List.all_cons]at hv;refine x0 (by simp;omega) (dI (λc=>?_) λc=>?_)
    .have:¬(f.aC.getD i []).length=64:=λk=>c (by rw[k];rfl)
     rw[iX this]at hv;subst hv;rfl
    .have:(f.aC.getD i []).length=64:=by have:=c;omega
     rw[bn this,tA]at hv;exact⟨o5 _ _,jB7 f hl k (i+1) v (by omega) hv⟩
  .have z:f.aC.drop i=[] :=AD (by omega)
   rw[z]at hv;have hv:v=vF f:=hv
   have q:∀b:Bool,b=vF f->SV.bool b=SV.bool v:=λb e=>by rw[hv,e]
   refine o7 (λb1=>o7 (λb2=>o7 (λb3=>o7 (λb4=>o7 (λb5=>q _ ?_) λb5=>q _ ?_) λb4=>q _ ?_) λb3=>q _ ?_) λb2=>q _ ?_) λb1=>q _ ?_
   all_goals
    rw[uQ];simp only[vF,aH,v5,aV,eY,vW];omega
theorem jC2(f:Fl)(hl:f.aC.length<=1000):∀ (k i:Nat) (v:Bool),i+k=f.aC.length->v=((f.aC.drop i).all (λp=>decide (p.length=64))&&vF f)->
  t9 pP (x9 pP 109) (.bool v) (x8 pP 109 0) (x7 46 [(1,.ptr 0 0),(6,.list .str f.aC),(7,J f.aC.length),(8,J i)]) [some (.cells f.cells)]
 |k,i,v,hi,hv=>by
  refine o6 eH (n:=1000) (hint:=.unit) (keep:=x6 46 [1,6,7,8]) (p:=jC1) rfl ?_;erw [jC0 f i]
  have t0:(i:Int).toNat=i:=by omega
  have w1:i64.wrap ((i:Int)+1)=((i+1:Nat):Int):=by rw[aG (by omega) (by omega)];omega
  rw[t0,w1]
  refine o7 (λa=>?_) λa=>?_
  .match k,hi with
   |0,hi=>omega
   |k+1,hi=>
    rw[uY (d:=([] :List UInt8)) (by omega:i<f.aC.length),List.all_cons]at hv;refine x0 (by simp;omega) (dI (λc=>?_) λc=>?_)
    .have:¬(f.aC.getD i []).length=64:=λk=>c (by rw[k];rfl)
     rw[iX this]at hv;subst hv;rfl
    .have:(f.aC.getD i []).length=64:=by have:=c;omega
     rw[bn this,tA]at hv;exact⟨o5 _ _,jC2 f hl k (i+1) v (by omega) hv⟩
  .have z:f.aC.drop i=[] :=AD (by omega)
   rw[z]at hv;have hv:v=vF f:=hv
   have q:∀b:Bool,b=vF f->SV.bool b=SV.bool v:=λb e=>by rw[hv,e]
   refine o7 (λb1=>o7 (λb2=>o7 (λb3=>o7 (λb4=>o7 (λb5=>q _ ?_) λb5=>q _ ?_) λb4=>q _ ?_) λb3=>q _ ?_) λb2=>q _ ?_) λb1=>q _ ?_
   all_goals
    rw[uQ];simp only[vF,aH,v5,aV,eY,vW];omega
def xF8(f:Fl)(h:o4 f=true):SCall pP 102 [f.sv] (.bool (eU f)):=by
 have hl:f.aC.length<=1000:=bG h;refine s8 rfl rfl (by kernel_rfl) (o6 eH (n:=1000) (hint:=.unit) (keep:=x6 46 [1,6,7,8]) (p:=jB4) (boxes:=[]) rfl ?_);have q:=jB3 f;unfold v6 v7 at q;erw [q];exact⟨o5 _ _,jB7 f hl f.aC.length 0 _ (by omega) (by rw[NG];simp only[eU,Kc,vF])⟩
def xF9(f:Fl)(h:o4 f=true):SCall pP 109 [f.sv] (.bool (eU f)):=by
 have hl:f.aC.length<=1000:=bG h;refine s8 rfl rfl (by kernel_rfl) (o6 eH (n:=1000) (hint:=.unit) (keep:=x6 46 [1,6,7,8]) (p:=jB9) (boxes:=[]) rfl ?_);have q:=jB8 f;unfold v6 v7 at q;erw [q];exact⟨o5 _ _,jC2 f hl f.aC.length 0 _ (by omega) (by rw[NG];simp only[eU,Kc,vF])⟩
def xG0(f:Fl)(h:o4 f=true):SCall pP 130 [f.sv] f.sv:=by
 have hl:f.aC.length<=1000:=bG h;refine s8 rfl rfl (by kernel_rfl) (o6 eH (n:=1000) (hint:=.str) (keep:=x6 9 []) (p:=qz9) (boxes:=[]) rfl ?_);have q:=fcp f;unfold v6 v7 at q;erw [q];refine⟨λe=>?_,λe=>x0 (bn (by omega)) rfl⟩;have e:f.aC=[] :=wz.1 e;show SV.agg _=SV.agg f.cells;unfold Fl.cells;rw[e];rfl
def xG2(f:Fl)(h:o4 f=true):SCall pP 131 [f.sv] f.sv:=by
 have hl:f.aC.length<=1000:=bG h;refine s8 rfl rfl (by kernel_rfl) (o6 eH (n:=1000) (hint:=.str) (keep:=x6 9 []) (p:=qz8) (boxes:=[]) rfl ?_);have q:=qz7 f;unfold v6 v7 at q;erw [q];refine⟨λe=>?_,λe=>x0 (bn (by omega)) rfl⟩;have e:f.aC=[] :=wz.1 e;show SV.agg _=SV.agg f.cells;unfold Fl.cells;rw[e];rfl
def xG1(f:Fl)(h:o4 f=true):SCall pP 116 [f.sv] f.sv:=by
 have hl:f.aC.length<=1000:=bG h;refine s8 rfl rfl (by kernel_rfl) (o6 eH (n:=1000) (hint:=.str) (keep:=x6 9 []) (p:=qz6) (boxes:=[]) rfl ?_);have q:=qz5 f;unfold v6 v7 at q;erw [q];refine⟨λe=>?_,λe=>x0 (bn (by omega)) rfl⟩;have e:f.aC=[] :=wz.1 e;show SV.agg _=SV.agg f.cells;unfold Fl.cells;rw[e];rfl
def z79:aB:=ru 102 λf=>.aj (o4 f) (.ai (.bool (eU f)))
def CK:z79.ok pP:=tV λf h=>xF8 f h
def z80:aB:=ru 109 λf=>.aj (o4 f) (.ai (.bool (eU f)))
def CJ:z80.ok pP:=tV λf h=>xF9 f h
def Jj:aB:=ru 130 λf=>.aj (o4 f) (.ai f.sv)
def O0:Jj.ok pP:=tV λf h=>xG0 f h
def OO:aB:=ru 131 λf=>.aj (o4 f) (.ai f.sv)
def Xj:OO.ok pP:=tV λf h=>xG2 f h
def z82:aB:=ru 116 λf=>.aj (o4 f) (.ai f.sv)
def OZ:z82.ok pP:=tV λf h=>xG1 f h
def ny(f:Fl)(i:Int):Bool:=eU f&&az i 0 (f.aC.length-1)
def dP(f:Fl)(n k:Int):Fl:=match f.dead||!eU f with
 |true=>f
 |false=>match decide (n<1)with
  |true=>⟨f.aC,0,true,0⟩
  |false=>⟨f.aC,if 1048576<n then 1048576 else n,f.dead,if(if 64<k then 64 else k)>0 then if 64<k then 64 else k else 0⟩
def eG(f:Fl):Fl:=match eU f with
 |true=>⟨f.aC,0,false,0⟩
 |false=>f
def Ra(f:FuncId)(h:Fl->Int->ak SV):aB:=⟨f,λargs=>match args with
 |[.agg [.list .str p,.int .i64 a,.bool d,.int .i64 k],.int .i64 i] =>some (h ⟨p,a,d,k⟩ i)
 |_=>none⟩
def qr7{f:FuncId}{h:Fl->Int->ak SV}(k:∀c i,(h c i).bw (SCall P f [c.sv,J i])):(Ra f h).ok P:=λargs t ht=>by
 simp only[Ra]at ht
 split at ht<;>cases ht;exact k ⟨_,_,_,_⟩ _
def K1(f:FuncId)(h:Fl->Int->Int->ak SV):aB:=⟨f,λargs=>match args with
 |[.agg [.list .str p,.int .i64 a,.bool d,.int .i64 k],.int .i64 i,.int .i64 j] =>some (h ⟨p,a,d,k⟩ i j)
 |_=>none⟩
def qr4{f:FuncId}{h:Fl->Int->Int->ak SV}(k:∀c i j,(h c i j).bw (SCall P f [c.sv,J i,J j])):(K1 f h).ok P:=λargs t ht=>by
 simp only[K1]at ht
 split at ht<;>cases ht;exact k ⟨_,_,_,_⟩ _ _
def xI5(f:Fl)(i:Int)(h:o4 f=true):SCall pP 302 [f.sv,J i] (.bool (ny f i)):=
 aY aL [z79,Jj] ⟨CK,O0,trivial⟩ 1000 (.ah (.ar (.ar (.ah (.ln 4 pA) (.ln 4 pA)))) (.ln 7 pA))
  (t:=.aj (o4 f) (.ag (eU f)
 (.ag (i>=0)
  (.ai (SV.bool (i< (↑f.aC.length:Int))))
  (.ai (SV.bool false)))
 (.ai (SV.bool false))))
  (by kernel_rfl) (by
   refine x0 h ?_;unfold ny
   refine t8 (λv=>?_) (λv=>?_)<;>rw[v]
   .refine o7 (λa=>?_) λa=>?_
    .show SV.bool _=SV.bool _
     congr 1
     rw[uQ];simp only[tA,v5,aV];omega
    .show SV.bool _=SV.bool _
     congr 1
     symm;rw[tA,eB];intro k;rw[v5]at k;omega
   .rfl) (by kernel_rfl)
def Lq:aB:=Ra 302 λf i=>.aj (o4 f) (.ai (.bool (ny f i)))
def yz8:Lq.ok pP:=qr7 λf i h=>xI5 f i h
def xG3(f:Fl)(n k:Int)(h:o4 f=true):SCall pP 56 [f.sv,J n,J k] ((dP f n k).sv):=
 aY aL [z79,Jj] ⟨CK,O0,trivial⟩ 1000 (.ah (.ln 3 pA) (.ln 3 (.ah .all (.ah .all .all))))
  (t:=let y0:ak SV:=.ai (.agg [.list Ty.str f.aC,J f.bU,.bool f.dead,J f.keep]);.aj (o4 f) (.ag (f.dead) y0 (.aj (o4 f) (.ag (!eU f) y0 (.ag (n<1) (.ai (.agg [.list Ty.str f.aC,J 0,.bool true,J 0])) (.ai (.agg [.list Ty.str f.aC,J (if 1048576<n then 1048576 else n),.bool f.dead,J (if(if 64<k then 64 else k)>0 then if 64<k then 64 else k else 0)])))))))
  (by kernel_rfl) (by unfold dP;refine x0 h ?_;cases d:f.dead<;>cases v:eU f<;>simp only[ak.holds,qt,U1,aiu,Bool.or_false,Bool.true_or,yG,eY,h,dV,iG,ag8,ir,jI]<;>(try(cases b:decide (n<1)<;>simp))<;>(try simp[Fl.sv,Fl.cells,d,J])) (by kernel_rfl)
def xG9(f:Fl)(h:o4 f=true):ak.holds (λv=>v=((eG f).sv)) (.aj (o4 f) (.aj (o4 f) (.ag (eU f)
  (.ai (SV.agg [SV.list Ty.str f.aC,SV.int i64 0,SV.bool false,SV.int i64 0]))
  (.ai (SV.agg [SV.list Ty.str f.aC,SV.int i64 f.bU,SV.bool f.dead,SV.int i64 f.keep])))):ak SV):=by unfold eG;exact x0 h (x0 h (t8 (λv=>by rw[v];rfl) λv=>by rw[v];rfl))
def xG7(f:Fl)(h:o4 f=true):SCall pP 55 [f.sv] ((eG f).sv):=
 aY aL [z79,Jj] ⟨CK,O0,trivial⟩ 1000 (.ah (.all) (.all))
  (by kernel_rfl) (xG9 f h) (by kernel_rfl)
def xG4(f:Fl)(n k:Int)(h:o4 f=true):SCall pP 58 [f.sv,J n,J k] ((dP f n k).sv):=
 aY aL [z80,OO] ⟨CJ,Xj,trivial⟩ 1000 (.ah (.ar (.ar pA)) (.ar (.ar (.ah .all (.ah .all .all)))))
  (t:=let y0:ak SV:=.ai (.agg [.list Ty.str f.aC,J f.bU,.bool f.dead,J f.keep]);.aj (o4 f) (.aj (o4 f) (.ag (!eU f) y0 (.ag (f.dead) y0 (.ag (n<1) (.ai (.agg [.list Ty.str f.aC,J 0,.bool true,J 0])) (.ai (.agg [.list Ty.str f.aC,J (if 1048576<n then 1048576 else n),.bool f.dead,J (if(if 64<k then 64 else k)>0 then if 64<k then 64 else k else 0)])))))))
  (by kernel_rfl) (by unfold dP;refine x0 h ?_;cases d:f.dead<;>cases v:eU f<;>simp only[ak.holds,qt,U1,aiu,Bool.or_false,Bool.true_or,yG,eY,h,dV,iG,ag8,ir,jI]<;>(try(cases b:decide (n<1)<;>simp))<;>(try simp[Fl.sv,Fl.cells,d,J])) (by kernel_rfl)
def xG8(f:Fl)(h:o4 f=true):SCall pP 57 [f.sv] ((eG f).sv):=
 aY aL [z80,OO] ⟨CJ,Xj,trivial⟩ 1000 (.ah (.all) (.all))
  (by kernel_rfl) (xG9 f h) (by kernel_rfl)
def B7(n:Int):SV:=.int .u16 n
def WZ:ax:=.all
def ca0(s:List UInt8):o8 (Env.of pP (j9 [])) 1000 (x9 pP 300) .unit (x6 32 [0,3,7,8]) (v7 pP 300) WZ (v6 pP 300 [.str s]) [] =(.ai (.at (x8 pP 300 0) 32 (x7 32 [(0,SV.str s),(3,SV.int IntKind.u16 65535),(7,J (↑s.length:Int)),(8,J 0)]) [])):=by kernel_rfl
def WY:ax:=.ah (.all) (.all)
def ca1(s:List UInt8)(r i:Int):o8 (Env.of pP (j9 [])) 1000 (x9 pP 300) .unit (x6 32 [0,3,7,8,18]) (x8 pP 300 0) WY (x7 32 [(0,.str s),(3,B7 r),(7,J s.length),(8,J i)]) [] =(.ag (i< (↑s.length:Int)) (.aj (0<=i&&i< (↑s.length:Int)) (rT (.ai (.at (x8 pP 300 1) 32 (x7 32 [(0,SV.str s),(3,SV.int IntKind.u16 (IntKind.u16.wrap (↑(BitVec.ofInt 16 r ^^^ BitVec.ofInt 16 (IntKind.u16.wrap (IntKind.u16.wrap (↑(s.getD i.toNat 0).toNat:Int)*256))).toNat:Int))),(7,J (↑s.length:Int)),(8,J i),(18,J 0)]) [])))) (.ai (.done (J (i64.wrap r))))):=by kernel_rfl
def WX:ax:=.ah (.ah (.all) (.all)) (.all)
def ca2(s:List UInt8)(r i k:Int):o8 (Env.of pP (j9 [])) 1000 (x9 pP 300) .unit (x6 32 [0,3,7,8,18]) (x8 pP 300 1) WX (x7 32 [(0,.str s),(3,B7 r),(7,J s.length),(8,J i),(18,J k)]) [] =(.ag (k<8) (rT (.ag (IntKind.u16.wrap (↑(BitVec.ofInt 16 r &&&BitVec.ofInt 16 32768).toNat:Int) != 0) (.ai (.at (x8 pP 300 1) 32 (x7 32 [(0,SV.str s),(3,SV.int IntKind.u16 (IntKind.u16.wrap (↑(BitVec.ofInt 16 (IntKind.u16.wrap (r*2)) ^^^ BitVec.ofInt 16 4129).toNat:Int))),(7,J (↑s.length:Int)),(8,J i),(18,J (i64.wrap (k+1)))]) [])) (.ai (.at (x8 pP 300 1) 32 (x7 32 [(0,SV.str s),(3,SV.int IntKind.u16 (IntKind.u16.wrap (r*2))),(7,J (↑s.length:Int)),(8,J i),(18,J (i64.wrap (k+1)))]) [])))) (.ai (.at (x8 pP 300 0) 32 (x7 32 [(0,SV.str s),(3,SV.int IntKind.u16 r),(7,J (↑s.length:Int)),(8,J (i64.wrap (i+1))),(18,J k)]) []))):=by kernel_rfl
def WQ:ax:=.all
def cb0(s:List UInt8):o8 (Env.of pP (j9 [])) 1000 (x9 pP 254) .unit (x6 26 [0,3,4]) (v7 pP 254) WQ (v6 pP 254 [.str s]) [] =(.ai (.at (x8 pP 254 0) 26 (x7 26 [(0,SV.str s),(3,J 65535),(4,J 0)]) [])):=by kernel_rfl
def WP:ax:=.ah (.all) (.all)
def cb1(s:List UInt8)(r i:Int):o8 (Env.of pP (j9 [])) 1000 (x9 pP 254) .unit (x6 26 [0,3,4,5]) (x8 pP 254 0) WP (x7 26 [(0,.str s),(3,J r),(4,J i)]) [] =(.ag (i< (↑s.length:Int)) (.aj (0<=i&&i< (↑s.length:Int)) (.ai (.at (x8 pP 254 1) 26 (x7 26 [(0,SV.str s),(3,J (i64.wrap (↑(BitVec.ofInt 64 r ^^^ BitVec.ofInt 64 (i64.wrap (i64.wrap (↑(s.getD i.toNat 0).toNat:Int)*256))).toNat:Int))),(4,J i),(5,J 0)]) []))) (.ai (.done (J r)))):=by kernel_rfl
def WO:ax:=.ah (.ah (.all) (.all)) (.all)
def cb2(s:List UInt8)(r i k:Int):o8 (Env.of pP (j9 [])) 1000 (x9 pP 254) .unit (x6 26 [0,3,4,5]) (x8 pP 254 1) WO (x7 26 [(0,.str s),(3,J r),(4,J i),(5,J k)]) [] =(.ag (k<8) (.ag (r>=32768) (.ai (.at (x8 pP 254 1) 26 (x7 26 [(0,SV.str s),(3,J (i64.wrap (↑(BitVec.ofInt 64 (i64.wrap (i64.wrap (r-32768)*2)) ^^^ BitVec.ofInt 64 4129).toNat:Int))),(4,J i),(5,J (i64.wrap (k+1)))]) [])) (.ai (.at (x8 pP 254 1) 26 (x7 26 [(0,SV.str s),(3,J (i64.wrap (r*2))),(4,J i),(5,J (i64.wrap (k+1)))]) []))) (.ai (.at (x8 pP 254 0) 26 (x7 26 [(0,SV.str s),(3,J r),(4,J (i64.wrap (i+1))),(5,J k)]) []))):=by kernel_rfl
def WW:ax:=.ah (.all) (.all)
def ca3(s:List UInt8)(r i k:Int):o8 (Env.of pP (j9 [])) 1000 (x9 pP 300) .unit (x6 32 [0,3,7,8,18]) (x8 pP 300 0) WW (x7 32 [(0,.str s),(3,B7 r),(7,J s.length),(8,J i),(18,J k)]) [] =(.ag (i< (↑s.length:Int)) (.aj (0<=i&&i< (↑s.length:Int)) (rT (.ai (.at (x8 pP 300 1) 32 (x7 32 [(0,SV.str s),(3,SV.int IntKind.u16 (IntKind.u16.wrap (↑(BitVec.ofInt 16 r ^^^ BitVec.ofInt 16 (IntKind.u16.wrap (IntKind.u16.wrap (↑(s.getD i.toNat 0).toNat:Int)*256))).toNat:Int))),(7,J (↑s.length:Int)),(8,J i),(18,J 0)]) [])))) (.ai (.done (J (i64.wrap r))))):=by kernel_rfl
def WN:ax:=.ah (.all) (.all)
def cb3(s:List UInt8)(r i k:Int):o8 (Env.of pP (j9 [])) 1000 (x9 pP 254) .unit (x6 26 [0,3,4,5]) (x8 pP 254 0) WN (x7 26 [(0,.str s),(3,J r),(4,J i),(5,J k)]) [] =(.ag (i< (↑s.length:Int)) (.aj (0<=i&&i< (↑s.length:Int)) (.ai (.at (x8 pP 254 1) 26 (x7 26 [(0,SV.str s),(3,J (i64.wrap (↑(BitVec.ofInt 64 r ^^^ BitVec.ofInt 64 (i64.wrap (i64.wrap (↑(s.getD i.toNat 0).toNat:Int)*256))).toNat:Int))),(4,J i),(5,J 0)]) []))) (.ai (.done (J r)))):=by kernel_rfl
def pG(r:Nat):Nat:=if 32768<=r then((r-32768)*2) ^^^ 4129 else r*2
def wQ:Nat->Nat->Nat
 |0,r=>r
 |k+1,r=>wQ k (pG r)
def AX:List UInt8->Nat->Nat
 |[],r=>r
 |b::l,r=>AX l (wQ 8 (r ^^^ b.toNat*256))
def qO(s:List UInt8):Nat:=AX s 65535
def Ff{r:Nat}(h:r<65536):pG r<65536:=by
 unfold pG
 split;.exact UJ (n:=16) (by omega) (by decide)
 .omega
theorem Cy:∀ (k:Nat) {r:Nat},r<65536->wQ k r<65536
 |0,_,h=>h
 |k+1,_,h=>Cy k (Ff h)
def Fe{r:Nat}(b:UInt8)(h:r<65536):r ^^^ b.toNat*256<65536:=
 UJ (n:=16) h (by have:=b.toNat_lt;omega)
theorem Ww:∀ (s:List UInt8) {r:Nat},r<65536->AX s r<65536
 |[],_,h=>h
 |b::s,_,h=>Ww s (Cy 8 (Fe b h))
def Wv(s:List UInt8):qO s<65536:=Ww s (by decide)
def Eo(h:0<=n)(h':n<65536):IntKind.u16.wrap n=n:=by
 unfold IntKind.wrap;have e:n % (2 ^ IntKind.u16.bits:Int)=n:=aiq h h';simp only[e];rw[au (by simp[IntKind.signed])]
def S7{a b:Nat}(ha:a<65536)(hb:b<65536):IntKind.u16.wrap (((BitVec.ofInt 16 (a:Int) ^^^ BitVec.ofInt 16 (b:Int)).toNat:Nat):Int)=((a ^^^ b:Nat):Int):=by
 have e:(BitVec.ofInt 16 (a:Int) ^^^ BitVec.ofInt 16 (b:Int)).toNat=a ^^^ b:=by
  rw[NL,NL,BitVec.toNat_xor,Im,Im,yA (by omega),yA (by omega)]
 rw[e];have:=UJ (n:=16) ha hb;exact Eo (by omega) (by omega)
def S6{a b:Nat}(ha:a<65536)(hb:b<65536):i64.wrap (((BitVec.ofInt 64 (a:Int) ^^^ BitVec.ofInt 64 (b:Int)).toNat:Nat):Int)=((a ^^^ b:Nat):Int):=by
 have e:(BitVec.ofInt 64 (a:Int) ^^^ BitVec.ofInt 64 (b:Int)).toNat=a ^^^ b:=by
  rw[NL,NL,BitVec.toNat_xor,Im,Im,yA (by omega),yA (by omega)]
 rw[e];have:=UJ (n:=16) ha hb;exact aG (by omega) (by omega)
def qP0:∀{a:Nat},a<65536->((IntKind.u16.wrap (((BitVec.ofInt 16 (a:Int) &&&BitVec.ofInt 16 32768).toNat:Nat):Int) != 0)=decide (32768<=a)):=by
 intro a ha
 have e:(BitVec.ofInt 16 (a:Int) &&&BitVec.ofInt 16 32768).toNat=a &&&32768:=by
  rw[NL,show BitVec.ofInt 16 32768=BitVec.ofNat 16 32768 from rfl,aiy,Im,Im,yA (by omega),yA (by omega)]
 rw[e]
 have e2:a &&&32768=if 32768<=a then 32768 else 0:=by
  apply Nat.eq_of_testBit_eq;intro j;rw[Nat.testBit_and,show(32768:Nat)=2 ^ 15 from rfl,ah7]
  by_cases hj:15=j
  .subst hj
   rw[Nat.testBit_eq_decide_div_mod_eq]
   split
   .rename_i h
    rw[ah7,bn (show a / 2 ^ 15 % 2=1 by omega)];rfl
   .rename_i h
    rw[iX (show ¬a / 2 ^ 15 % 2=1 by omega),Nat.zero_testBit];rfl
  .rw[iX hj,wD]
   split;.rw[ah7,iX hj]
   .rw[Nat.zero_testBit]
 rw[e2]
 by_cases h:32768<=a
 .rw[ay h,bn h];decide
 .rw[au h,iX h];decide
theorem Jf(s:List UInt8)(i:Nat)(hi:i<s.length)(hl:s.length<=1099511627776)(v:Int):∀ (j k r:Nat),k+j=8->r<65536->
  t9 pP (x9 pP 300) (J v) (x8 pP 300 0) (x7 32 [(0,.str s),(3,B7 (wQ j r:Nat)),(7,J s.length),(8,J (i+1:Nat)),(18,J 8)]) [] ->
  t9 pP (x9 pP 300) (J v) (x8 pP 300 1) (x7 32 [(0,.str s),(3,B7 r),(7,J s.length),(8,J i),(18,J k)]) []
 |j,k,r,hk,hr,H=>by
  refine o6 eH (n:=1000) (hint:=.unit) (keep:=x6 32 [0,3,7,8,18]) (p:=WX) rfl ?_;erw [ca2 s r i k]
  have wi:i64.wrap ((i:Int)+1)=((i+1:Nat):Int):=by rw[aG (by omega) (by omega)];omega
  have wk:i64.wrap ((k:Int)+1)=((k+1:Nat):Int):=by rw[aG (by omega) (by omega)];omega
  rw[wi,wk]
  match j,hk,H with
  |0,hk,H=>
   have e8:k=8:=by omega
   subst e8;exact⟨λa=>absurd (bG a) (by decide),λ_=>⟨o5 _ _,H⟩⟩
  |j+1,hk,H=>
   refine o7 (λa=>?_) λa=>absurd (show((k:Nat):Int)<8 by omega) a
   have H':t9 pP (x9 pP 300) (J v) (x8 pP 300 0) (x7 32 [(0,.str s),(3,B7 (wQ j (pG r):Nat)),(7,J s.length),(8,J (i+1:Nat)),(18,J 8)]) [] :=H;refine x0 rfl ?_;rw[qP0 hr]
   refine o7 (λb=>?_) λb=>?_
   .have e:pG r=((r-32768)*2) ^^^ 4129:=ay b
    have w:IntKind.u16.wrap ((r:Int)*2)=(((r-32768)*2:Nat):Int):=by
     unfold IntKind.wrap
     have e:((r:Int)*2) % (2 ^ IntKind.u16.bits:Int)=(((r-32768)*2:Nat):Int):=by
      show((r:Int)*2) % 65536=_;omega
     simp only[e];rw[au (by simp[IntKind.signed])]
    rw[w];refine⟨o5 _ _,?_⟩;have x:=S7 (a:=(r-32768)*2) (b:=4129) (by omega) (by decide);have x:IntKind.u16.wrap (((BitVec.ofInt 16 (((r-32768)*2:Nat):Int) ^^^ BitVec.ofInt 16 4129).toNat:Nat):Int)=_:=x;rw[x,<-e];exact Jf s i hi hl v j (k+1) (pG r) (by omega) (Ff hr) H'
   .have e:pG r=r*2:=au b
    rw[Eo (by omega) (by omega),show(r:Int)*2=((pG r:Nat):Int) by rw[e];omega];exact⟨o5 _ _,Jf s i hi hl v j (k+1) (pG r) (by omega) (Ff hr) H'⟩
theorem WV(s:List UInt8)(hl:s.length<=1099511627776):∀ (m i r:Nat) (v:Nat),i+m=s.length->r<65536->v=AX (s.drop i) r->
  t9 pP (x9 pP 300) (J v) (x8 pP 300 0) (x7 32 [(0,.str s),(3,B7 r),(7,J s.length),(8,J i),(18,J 8)]) []
 |m,i,r,v,hi,hr,hv=>by
  refine o6 eH (n:=1000) (hint:=.unit) (keep:=x6 32 [0,3,7,8,18]) (p:=WW) rfl ?_;erw [ca3 s r i 8]
  have t0:(i:Int).toNat=i:=by omega
  rw[t0]
  refine o7 (λa=>?_) λa=>?_
  .match m,hi with
   |0,hi=>omega
   |m+1,hi=>
    have hb:=(s.getD i 0).toNat_lt;rw[uY (d:=(0:UInt8)) (by omega:i<s.length)]at hv;have hv:v=AX (s.drop (i+1)) (wQ 8 (r ^^^ (s.getD i 0).toNat*256)):=hv;have hx:=Fe (s.getD i 0) hr;refine x0 (by simp;omega) (x0 rfl ?_);rw[Eo (n:=((s.getD i 0).toNat:Int)) (by omega) (by omega),Eo (n:=((s.getD i 0).toNat:Int)*256) (by omega) (by omega),show(((s.getD i 0).toNat:Nat):Int)*256=(((s.getD i 0).toNat*256:Nat):Int) by omega,S7 hr (by omega)];exact⟨o5 _ _,Jf s i (by omega) hl _ 8 0 _ rfl hx (WV s hl m (i+1) _ v (by omega) (Cy 8 hx) hv)⟩
  .have z:s.drop i=[] :=AD (by omega)
   rw[z]at hv;have hv:v=r:=hv;subst hv;rw[aG (by omega) (by omega)];exact rfl
def xD4(s:List UInt8)(hl:s.length<=1099511627776):SCall pP 300 [.str s] (J (qO s)):=by
 refine s8 rfl rfl (by kernel_rfl) (o6 eH (n:=1000) (hint:=.unit) (keep:=x6 32 [0,3,7,8]) (p:=WZ) (boxes:=[]) rfl ?_);have q:=ca0 s;unfold v6 v7 at q;erw [q];refine⟨o5 _ _,?_⟩;refine o6 eH (n:=1000) (hint:=.unit) (keep:=x6 32 [0,3,7,8,18]) (p:=WY) rfl ?_;erw [ca1 s 65535 0]
 refine o7 (λa=>?_) λa=>?_
 .have hb:=(s.getD 0 0).toNat_lt
  have hx:=Fe (s.getD 0 0) (show 65535<65536 by decide);refine x0 (by simp;omega) (x0 rfl ?_);rw[show(0:Int).toNat=0 from rfl,Eo (n:=((s.getD 0 0).toNat:Int)) (by omega) (by omega),Eo (n:=((s.getD 0 0).toNat:Int)*256) (by omega) (by omega),show(((s.getD 0 0).toNat:Nat):Int)*256=(((s.getD 0 0).toNat*256:Nat):Int) by omega];have x:=S7 (a:=65535) (b:=(s.getD 0 0).toNat*256) (by decide) (by omega);have x:IntKind.u16.wrap (((BitVec.ofInt 16 65535 ^^^ BitVec.ofInt 16 (((s.getD 0 0).toNat*256:Nat):Int)).toNat:Nat):Int)=_:=x;rw[x];refine⟨o5 _ _,Jf s 0 (by omega) hl _ 8 0 _ rfl hx (WV s hl (s.length-1) 1 _ _ (by omega) (Cy 8 hx) ?_)⟩;have e:=uY (d:=(0:UInt8)) (show 0<s.length by omega);rw[NG]at e;unfold qO
  conv=>lhs;rw[e]
  rfl
 .have z:s=[] :=Ca.1 (by omega)
  subst z;rfl
theorem Jc(s:List UInt8)(i:Nat)(hi:i<s.length)(hl:s.length<=1099511627776)(v:Int):∀ (j k r:Nat),k+j=8->r<65536->
  t9 pP (x9 pP 254) (J v) (x8 pP 254 0) (x7 26 [(0,.str s),(3,J (wQ j r:Nat)),(4,J (i+1:Nat)),(5,J 8)]) [] ->
  t9 pP (x9 pP 254) (J v) (x8 pP 254 1) (x7 26 [(0,.str s),(3,J r),(4,J i),(5,J k)]) []
 |j,k,r,hk,hr,H=>by
  refine o6 eH (n:=1000) (hint:=.unit) (keep:=x6 26 [0,3,4,5]) (p:=WO) rfl ?_;erw [cb2 s r i k]
  have wi:i64.wrap ((i:Int)+1)=((i+1:Nat):Int):=by rw[aG (by omega) (by omega)];omega
  have wk:i64.wrap ((k:Int)+1)=((k+1:Nat):Int):=by rw[aG (by omega) (by omega)];omega
  rw[wi,wk]
  match j,hk,H with
  |0,hk,H=>
   have e8:k=8:=by omega
   subst e8;exact⟨λa=>absurd (bG a) (by decide),λ_=>⟨o5 _ _,H⟩⟩
  |j+1,hk,H=>
   refine o7 (λa=>?_) λa=>absurd (show((k:Nat):Int)<8 by omega) a
   have H':t9 pP (x9 pP 254) (J v) (x8 pP 254 0) (x7 26 [(0,.str s),(3,J (wQ j (pG r):Nat)),(4,J (i+1:Nat)),(5,J 8)]) [] :=H
   refine o7 (λb=>?_) λb=>?_
   .have e:pG r=((r-32768)*2) ^^^ 4129:=ay (by omega)
    rw[aG (x:=(r:Int)-32768) (by omega) (by omega),aG (x:=((r:Int)-32768)*2) (by omega) (by omega),show((r:Int)-32768)*2=(((r-32768)*2:Nat):Int) by omega];refine⟨o5 _ _,?_⟩;have x:=S6 (a:=(r-32768)*2) (b:=4129) (by omega) (by decide);have x:i64.wrap (((BitVec.ofInt 64 (((r-32768)*2:Nat):Int) ^^^ BitVec.ofInt 64 4129).toNat:Nat):Int)=_:=x;rw[x,<-e];exact Jc s i hi hl v j (k+1) (pG r) (by omega) (Ff hr) H'
   .have e:pG r=r*2:=au (by omega)
    rw[aG (by omega) (by omega),show(r:Int)*2=((pG r:Nat):Int) by rw[e];omega];exact⟨o5 _ _,Jc s i hi hl v j (k+1) (pG r) (by omega) (Ff hr) H'⟩
theorem WM(s:List UInt8)(hl:s.length<=1099511627776):∀ (m i r:Nat) (v:Nat),i+m=s.length->r<65536->v=AX (s.drop i) r->
  t9 pP (x9 pP 254) (J v) (x8 pP 254 0) (x7 26 [(0,.str s),(3,J r),(4,J i),(5,J 8)]) []
 |m,i,r,v,hi,hr,hv=>by
  refine o6 eH (n:=1000) (hint:=.unit) (keep:=x6 26 [0,3,4,5]) (p:=WN) rfl ?_;erw [cb3 s r i 8]
  have t0:(i:Int).toNat=i:=by omega
  rw[t0]
  refine o7 (λa=>?_) λa=>?_
  .match m,hi with
   |0,hi=>omega
   |m+1,hi=>
    have hb:=(s.getD i 0).toNat_lt;rw[uY (d:=(0:UInt8)) (by omega:i<s.length)]at hv;have hv:v=AX (s.drop (i+1)) (wQ 8 (r ^^^ (s.getD i 0).toNat*256)):=hv;have hx:=Fe (s.getD i 0) hr;refine x0 (by simp;omega) ?_;rw[aG (x:=((s.getD i 0).toNat:Int)) (by omega) (by omega),aG (x:=((s.getD i 0).toNat:Int)*256) (by omega) (by omega),show(((s.getD i 0).toNat:Nat):Int)*256=(((s.getD i 0).toNat*256:Nat):Int) by omega,S6 hr (by omega)];exact⟨o5 _ _,Jc s i (by omega) hl _ 8 0 _ rfl hx (WM s hl m (i+1) _ v (by omega) (Cy 8 hx) hv)⟩
  .have z:s.drop i=[] :=AD (by omega)
   rw[z]at hv;have hv:v=r:=hv;subst hv;exact rfl
def xD5(s:List UInt8)(hl:s.length<=1099511627776):SCall pP 254 [.str s] (J (qO s)):=by
 refine s8 rfl rfl (by kernel_rfl) (o6 eH (n:=1000) (hint:=.unit) (keep:=x6 26 [0,3,4]) (p:=WQ) (boxes:=[]) rfl ?_);have q:=cb0 s;unfold v6 v7 at q;erw [q];refine⟨o5 _ _,?_⟩;refine o6 eH (n:=1000) (hint:=.unit) (keep:=x6 26 [0,3,4,5]) (p:=WP) rfl ?_;erw [cb1 s 65535 0]
 refine o7 (λa=>?_) λa=>?_
 .have hb:=(s.getD 0 0).toNat_lt
  have hx:=Fe (s.getD 0 0) (show 65535<65536 by decide);refine x0 (by simp;omega) ?_;rw[show(0:Int).toNat=0 from rfl,aG (x:=((s.getD 0 0).toNat:Int)) (by omega) (by omega),aG (x:=((s.getD 0 0).toNat:Int)*256) (by omega) (by omega),show(((s.getD 0 0).toNat:Nat):Int)*256=(((s.getD 0 0).toNat*256:Nat):Int) by omega];have x:=S6 (a:=65535) (b:=(s.getD 0 0).toNat*256) (by decide) (by omega);have x:i64.wrap (((BitVec.ofInt 64 65535 ^^^ BitVec.ofInt 64 (((s.getD 0 0).toNat*256:Nat):Int)).toNat:Nat):Int)=_:=x;rw[x];refine⟨o5 _ _,Jc s 0 (by omega) hl _ 8 0 _ rfl hx (WM s hl (s.length-1) 1 _ _ (by omega) (Cy 8 hx) ?_)⟩;have e:=uY (d:=(0:UInt8)) (show 0<s.length by omega);rw[NG]at e;unfold qO
  conv=>lhs;rw[e]
  rfl
 .have z:s=[] :=Ca.1 (by omega)
  subst z;rfl
def XH:ax:=.all
def nu0(s:List UInt8):o8 (Env.of pP (j9 [])) 1000 (x9 pP 335) .unit (x6 19 [0,3,4]) (v7 pP 335) XH (v6 pP 335 [.str s]) [] =(.ai (.at (x8 pP 335 0) 19 (x7 19 [(0,SV.str s),(3,.int .u64 0),(4,J 0)]) [])):=by kernel_rfl
def XG:ax:=.ah (.all) (.all)
def nu1(s:List UInt8)(u i:Int):o8 (Env.of pP (j9 [])) 1000 (x9 pP 335) .unit (x6 19 [0,3,4]) (x8 pP 335 0) XG (x7 19 [(0,.str s),(3,.int .u64 u),(4,J i)]) [] =(.ag (i< (↑s.length:Int)) (.aj (0<=i&&i< (↑s.length:Int)) (.ai (.at (x8 pP 335 0) 19 (x7 19 [(0,SV.str s),(3,.int .u64 (u64.wrap (u64.wrap (u*256)+u64.wrap (↑(s.getD i.toNat 0).toNat:Int)))),(4,J (i64.wrap (i+1)))]) []))) (.ai (.done (.int .u64 u)))):=by kernel_rfl
def mZ:Int->List UInt8->Int
 |u,[] =>u
 |u,b::l=>mZ (u64.wrap (u64.wrap (u*256)+u64.wrap (b.toNat:Int))) l
def zI:aB:=⟨335,λargs=>match args with
 |[.str s] =>some (.aj ((s.length:Int)<=100000) (.ai (.int .u64 (mZ 0 s))))
 |_=>none⟩
def jI7:ax:=.ln 4 (.ah (.ln 5 pA) (.ln 11 (.ah .all (.go (.ar (.go pA))))))
def wu1(n:Int):o8 (Env.of pP (j9 [])) 1000 (x9 pP 298) .unit (x6 25 []) (v7 pP 298) jI7 (v6 pP 298 [J n,J 1]) [] =(.ag (n<0) (.ai (.done (.tuple [SV.str [],J 3]))) (rT (.ag (!decide (u64.wrap n<256)) (.ai (.done (.tuple [SV.str [],J 3]))) (rT (rT (.aj ((0+ [u8.wrap ((u64.wrap n).fdiv 1)].length)*1<=140737488355328) (.ai (.done (.tuple [SV.str (List.map (λn=>UInt8.ofNat (Int.toNat n)) [u8.wrap ((u64.wrap n).fdiv 1)]),J 0]))))))))):=by kernel_rfl
def jJ3:ax:=.ln 4 (.ah (.ln 4 pA) (.ln 11 (.ah .all (.go (.ar (.go pA))))))
def jJ2(n:Int):o8 (Env.of pP (j9 [])) 1000 (x9 pP 279) .unit (x6 27 []) (v7 pP 279) jJ3 (v6 pP 279 [J n,J 1]) [] =(.ag (n<0) (.ai (.done (.tuple [SV.str [],J 3]))) (rT (.ag (n>=256) (.ai (.done (.tuple [SV.str [],J 3]))) (rT (rT (rT (rT (rT (.ai (.done (.tuple [SV.str (List.map (λn=>UInt8.ofNat (Int.toNat n)) ((List.replicate 1 0).set 0 (u8.wrap ((u64.wrap n).tmod 256)))),J 0]))))))))))):=by kernel_rfl
def jI8:ax:=.ln 4 (.ah (.ln 5 pA) (.ln 11 (.ah .all (.go (.ar (.go (.ar (.go pA))))))))
def wu2(n:Int):o8 (Env.of pP (j9 [])) 1000 (x9 pP 298) .unit (x6 25 []) (v7 pP 298) jI8 (v6 pP 298 [J n,J 2]) [] =(.ag (n<0) (.ai (.done (.tuple [SV.str [],J 3]))) (rT (.ag (!decide (u64.wrap n<65536)) (.ai (.done (.tuple [SV.str [],J 3]))) (rT (rT (.aj ((0+ [u8.wrap ((u64.wrap n).fdiv 256)].length)*1<=140737488355328) (rT (.aj (([u8.wrap ((u64.wrap n).fdiv 256)].length+ [u8.wrap ((u64.wrap n).fdiv 1)].length)*1<=140737488355328) (.ai (.done (.tuple [SV.str (List.map (λn=>UInt8.ofNat (Int.toNat n)) ([u8.wrap ((u64.wrap n).fdiv 256)] ++[u8.wrap ((u64.wrap n).fdiv 1)])),J 0]))))))))))):=by kernel_rfl
def jJ5:ax:=.ln 4 (.ah (.ln 4 pA) (.ln 11 (.ah .all (.go (.ar (.go (.ar (.go pA))))))))
def jJ4(n:Int):o8 (Env.of pP (j9 [])) 1000 (x9 pP 279) .unit (x6 27 []) (v7 pP 279) jJ5 (v6 pP 279 [J n,J 2]) [] =(.ag (n<0) (.ai (.done (.tuple [SV.str [],J 3]))) (rT (.ag (n>=65536) (.ai (.done (.tuple [SV.str [],J 3]))) (rT (rT (rT (rT (rT (rT (.aj (0< (↑((List.replicate 2 0).set 1 (u8.wrap ((u64.wrap n).tmod 256))).length:Int)) (.aj (0< ((List.replicate 2 0).set 1 (u8.wrap ((u64.wrap n).tmod 256))).length) (rT (.ai (.done (.tuple [SV.str (List.map (λn=>UInt8.ofNat (Int.toNat n)) (((List.replicate 2 0).set 1 (u8.wrap ((u64.wrap n).tmod 256))).set 0 (u8.wrap ((u64.wrap ((u64.wrap n).tdiv 256)).tmod 256)))),J 0]))))))))))))))):=by kernel_rfl
def jI9:ax:=.ln 4 (.ah (.ln 5 pA) (.ln 11 (.ah .all (.go (.ar (.go (.ar (.go (.ar (.go (.ar (.go pA))))))))))))
def wu4(n:Int):o8 (Env.of pP (j9 [])) 1000 (x9 pP 298) .unit (x6 25 []) (v7 pP 298) jI9 (v6 pP 298 [J n,J 4]) [] =(.ag (n<0) (.ai (.done (.tuple [SV.str [],J 3]))) (rT (.ag (!decide (u64.wrap n<4294967296)) (.ai (.done (.tuple [SV.str [],J 3]))) (rT (rT (.aj ((0+ [u8.wrap ((u64.wrap n).fdiv 16777216)].length)*1<=140737488355328) (rT (.aj (([u8.wrap ((u64.wrap n).fdiv 16777216)].length+ [u8.wrap ((u64.wrap n).fdiv 65536)].length)*1<=140737488355328) (rT (.aj ((([u8.wrap ((u64.wrap n).fdiv 16777216)] ++[u8.wrap ((u64.wrap n).fdiv 65536)]).length+ [u8.wrap ((u64.wrap n).fdiv 256)].length)*1<=140737488355328) (rT (.aj ((([u8.wrap ((u64.wrap n).fdiv 16777216)] ++[u8.wrap ((u64.wrap n).fdiv 65536)] ++[u8.wrap ((u64.wrap n).fdiv 256)]).length+ [u8.wrap ((u64.wrap n).fdiv 1)].length)*1<=140737488355328) (.ai (.done (.tuple [SV.str (List.map (λn=>UInt8.ofNat (Int.toNat n)) ([u8.wrap ((u64.wrap n).fdiv 16777216)] ++[u8.wrap ((u64.wrap n).fdiv 65536)] ++[u8.wrap ((u64.wrap n).fdiv 256)] ++[u8.wrap ((u64.wrap n).fdiv 1)])),J 0]))))))))))))))):=by kernel_rfl
def jJ7:ax:=.ln 4 (.ah (.ln 4 pA) (.ln 11 (.ah .all (.go (.ar (.go (.ar (.go (.ar (.go (.ar (.go pA))))))))))))
def jJ6(n:Int):o8 (Env.of pP (j9 [])) 1000 (x9 pP 279) .unit (x6 27 []) (v7 pP 279) jJ7 (v6 pP 279 [J n,J 4]) [] =(.ag (n<0) (.ai (.done (.tuple [SV.str [],J 3]))) (rT (.ag (n>=4294967296) (.ai (.done (.tuple [SV.str [],J 3]))) (rT (rT (rT (rT (rT (rT (.aj (2< (↑((List.replicate 4 0).set 3 (u8.wrap ((u64.wrap n).tmod 256))).length:Int)) (.aj (2< ((List.replicate 4 0).set 3 (u8.wrap ((u64.wrap n).tmod 256))).length) (rT (rT (.aj (1< (↑(((List.replicate 4 0).set 3 (u8.wrap ((u64.wrap n).tmod 256))).set 2 (u8.wrap ((u64.wrap ((u64.wrap n).tdiv 256)).tmod 256))).length:Int)) (.aj (1< (((List.replicate 4 0).set 3 (u8.wrap ((u64.wrap n).tmod 256))).set 2 (u8.wrap ((u64.wrap ((u64.wrap n).tdiv 256)).tmod 256))).length) (rT (rT (.aj (0< (↑((((List.replicate 4 0).set 3 (u8.wrap ((u64.wrap n).tmod 256))).set 2 (u8.wrap ((u64.wrap ((u64.wrap n).tdiv 256)).tmod 256))).set 1 (u8.wrap ((u64.wrap ((u64.wrap ((u64.wrap n).tdiv 256)).tdiv 256)).tmod 256))).length:Int)) (.aj (0< ((((List.replicate 4 0).set 3 (u8.wrap ((u64.wrap n).tmod 256))).set 2 (u8.wrap ((u64.wrap ((u64.wrap n).tdiv 256)).tmod 256))).set 1 (u8.wrap ((u64.wrap ((u64.wrap ((u64.wrap n).tdiv 256)).tdiv 256)).tmod 256))).length) (rT (.ai (.done (.tuple [SV.str (List.map (λn=>UInt8.ofNat (Int.toNat n)) (((((List.replicate 4 0).set 3 (u8.wrap ((u64.wrap n).tmod 256))).set 2 (u8.wrap ((u64.wrap ((u64.wrap n).tdiv 256)).tmod 256))).set 1 (u8.wrap ((u64.wrap ((u64.wrap ((u64.wrap n).tdiv 256)).tdiv 256)).tmod 256))).set 0 (u8.wrap ((u64.wrap ((u64.wrap ((u64.wrap ((u64.wrap n).tdiv 256)).tdiv 256)).tdiv 256)).tmod 256)))),J 0]))))))))))))))))))))))):=by kernel_rfl
def jJ1:ax:=.ln 4 (.ah (.ln 5 pA) (.ln 11 (.ah .all (.go (.ar (.go (.ar (.go (.ar (.go (.ar (.go (.ar (.go (.ar (.go pA))))))))))))))))
def wu6(n:Int):o8 (Env.of pP (j9 [])) 1000 (x9 pP 298) .unit (x6 25 []) (v7 pP 298) jJ1 (v6 pP 298 [J n,J 6]) [] =(.ag (n<0) (.ai (.done (.tuple [SV.str [],J 3]))) (rT (.ag (!decide (u64.wrap n<281474976710656)) (.ai (.done (.tuple [SV.str [],J 3]))) (rT (rT (.aj ((0+ [u8.wrap ((u64.wrap n).fdiv 1099511627776)].length)*1<=140737488355328) (rT (.aj (([u8.wrap ((u64.wrap n).fdiv 1099511627776)].length+ [u8.wrap ((u64.wrap n).fdiv 4294967296)].length)*1<=140737488355328) (rT (.aj ((([u8.wrap ((u64.wrap n).fdiv 1099511627776)] ++[u8.wrap ((u64.wrap n).fdiv 4294967296)]).length+ [u8.wrap ((u64.wrap n).fdiv 16777216)].length)*1<=140737488355328) (rT (.aj ((([u8.wrap ((u64.wrap n).fdiv 1099511627776)] ++[u8.wrap ((u64.wrap n).fdiv 4294967296)] ++[u8.wrap ((u64.wrap n).fdiv 16777216)]).length+ [u8.wrap ((u64.wrap n).fdiv 65536)].length)*1<=140737488355328) (rT (.aj ((([u8.wrap ((u64.wrap n).fdiv 1099511627776)] ++[u8.wrap ((u64.wrap n).fdiv 4294967296)] ++[u8.wrap ((u64.wrap n).fdiv 16777216)] ++[u8.wrap ((u64.wrap n).fdiv 65536)]).length+ [u8.wrap ((u64.wrap n).fdiv 256)].length)*1<=140737488355328) (rT (.aj ((([u8.wrap ((u64.wrap n).fdiv 1099511627776)] ++[u8.wrap ((u64.wrap n).fdiv 4294967296)] ++[u8.wrap ((u64.wrap n).fdiv 16777216)] ++[u8.wrap ((u64.wrap n).fdiv 65536)] ++[u8.wrap ((u64.wrap n).fdiv 256)]).length+ [u8.wrap ((u64.wrap n).fdiv 1)].length)*1<=140737488355328) (.ai (.done (.tuple [SV.str (List.map (λn=>UInt8.ofNat (Int.toNat n)) ([u8.wrap ((u64.wrap n).fdiv 1099511627776)] ++[u8.wrap ((u64.wrap n).fdiv 4294967296)] ++[u8.wrap ((u64.wrap n).fdiv 16777216)] ++[u8.wrap ((u64.wrap n).fdiv 65536)] ++[u8.wrap ((u64.wrap n).fdiv 256)] ++[u8.wrap ((u64.wrap n).fdiv 1)])),J 0]))))))))))))))))))):=by kernel_rfl
def jJ9:ax:=.ln 4 (.ah (.ln 4 pA) (.ln 11 (.ah .all (.go (.ar (.go (.ar (.go (.ar (.go (.ar (.go (.ar (.go (.ar (.go pA))))))))))))))))
def jJ8(n:Int):o8 (Env.of pP (j9 [])) 1000 (x9 pP 279) .unit (x6 27 []) (v7 pP 279) jJ9 (v6 pP 279 [J n,J 6]) [] =(.ag (n<0) (.ai (.done (.tuple [SV.str [],J 3]))) (rT (.ag (n>=281474976710656) (.ai (.done (.tuple [SV.str [],J 3]))) (rT (rT (rT (rT (rT (rT (.aj (4< (↑((List.replicate 6 0).set 5 (u8.wrap ((u64.wrap n).tmod 256))).length:Int)) (.aj (4< ((List.replicate 6 0).set 5 (u8.wrap ((u64.wrap n).tmod 256))).length) (rT (rT (.aj (3< (↑(((List.replicate 6 0).set 5 (u8.wrap ((u64.wrap n).tmod 256))).set 4 (u8.wrap ((u64.wrap ((u64.wrap n).tdiv 256)).tmod 256))).length:Int)) (.aj (3< (((List.replicate 6 0).set 5 (u8.wrap ((u64.wrap n).tmod 256))).set 4 (u8.wrap ((u64.wrap ((u64.wrap n).tdiv 256)).tmod 256))).length) (rT (rT (.aj (2< (↑((((List.replicate 6 0).set 5 (u8.wrap ((u64.wrap n).tmod 256))).set 4 (u8.wrap ((u64.wrap ((u64.wrap n).tdiv 256)).tmod 256))).set 3 (u8.wrap ((u64.wrap ((u64.wrap ((u64.wrap n).tdiv 256)).tdiv 256)).tmod 256))).length:Int)) (.aj (2< ((((List.replicate 6 0).set 5 (u8.wrap ((u64.wrap n).tmod 256))).set 4 (u8.wrap ((u64.wrap ((u64.wrap n).tdiv 256)).tmod 256))).set 3 (u8.wrap ((u64.wrap ((u64.wrap ((u64.wrap n).tdiv 256)).tdiv 256)).tmod 256))).length) (rT (rT (.aj (1< (↑(((((List.replicate 6 0).set 5 (u8.wrap ((u64.wrap n).tmod 256))).set 4 (u8.wrap ((u64.wrap ((u64.wrap n).tdiv 256)).tmod 256))).set 3 (u8.wrap ((u64.wrap ((u64.wrap ((u64.wrap n).tdiv 256)).tdiv 256)).tmod 256))).set 2 (u8.wrap ((u64.wrap ((u64.wrap ((u64.wrap ((u64.wrap n).tdiv 256)).tdiv 256)).tdiv 256)).tmod 256))).length:Int)) (.aj (1< (((((List.replicate 6 0).set 5 (u8.wrap ((u64.wrap n).tmod 256))).set 4 (u8.wrap ((u64.wrap ((u64.wrap n).tdiv 256)).tmod 256))).set 3 (u8.wrap ((u64.wrap ((u64.wrap ((u64.wrap n).tdiv 256)).tdiv 256)).tmod 256))).set 2 (u8.wrap ((u64.wrap ((u64.wrap ((u64.wrap ((u64.wrap n).tdiv 256)).tdiv 256)).tdiv 256)).tmod 256))).length) (rT (rT (.aj (0< (↑((((((List.replicate 6 0).set 5 (u8.wrap ((u64.wrap n).tmod 256))).set 4 (u8.wrap ((u64.wrap ((u64.wrap n).tdiv 256)).tmod 256))).set 3 (u8.wrap ((u64.wrap ((u64.wrap ((u64.wrap n).tdiv 256)).tdiv 256)).tmod 256))).set 2 (u8.wrap ((u64.wrap ((u64.wrap ((u64.wrap ((u64.wrap n).tdiv 256)).tdiv 256)).tdiv 256)).tmod 256))).set 1 (u8.wrap ((u64.wrap ((u64.wrap ((u64.wrap ((u64.wrap ((u64.wrap n).tdiv 256)).tdiv 256)).tdiv 256)).tdiv 256)).tmod 256))).length:Int)) (.aj (0< ((((((List.replicate 6 0).set 5 (u8.wrap ((u64.wrap n).tmod 256))).set 4 (u8.wrap ((u64.wrap ((u64.wrap n).tdiv 256)).tmod 256))).set 3 (u8.wrap ((u64.wrap ((u64.wrap ((u64.wrap n).tdiv 256)).tdiv 256)).tmod 256))).set 2 (u8.wrap ((u64.wrap ((u64.wrap ((u64.wrap ((u64.wrap n).tdiv 256)).tdiv 256)).tdiv 256)).tmod 256))).set 1 (u8.wrap ((u64.wrap ((u64.wrap ((u64.wrap ((u64.wrap ((u64.wrap n).tdiv 256)).tdiv 256)).tdiv 256)).tdiv 256)).tmod 256))).length) (rT (.ai (.done (.tuple [SV.str (List.map (λn=>UInt8.ofNat (Int.toNat n)) (((((((List.replicate 6 0).set 5 (u8.wrap ((u64.wrap n).tmod 256))).set 4 (u8.wrap ((u64.wrap ((u64.wrap n).tdiv 256)).tmod 256))).set 3 (u8.wrap ((u64.wrap ((u64.wrap ((u64.wrap n).tdiv 256)).tdiv 256)).tmod 256))).set 2 (u8.wrap ((u64.wrap ((u64.wrap ((u64.wrap ((u64.wrap n).tdiv 256)).tdiv 256)).tdiv 256)).tmod 256))).set 1 (u8.wrap ((u64.wrap ((u64.wrap ((u64.wrap ((u64.wrap ((u64.wrap n).tdiv 256)).tdiv 256)).tdiv 256)).tdiv 256)).tmod 256))).set 0 (u8.wrap ((u64.wrap ((u64.wrap ((u64.wrap ((u64.wrap ((u64.wrap ((u64.wrap n).tdiv 256)).tdiv 256)).tdiv 256)).tdiv 256)).tdiv 256)).tmod 256)))),J 0]))))))))))))))))))))))))))))))):=by kernel_rfl
def jH0:ax:=.ln 9 (.ah (.ln 5 pA) (.ln 5 (.ah .all (.go (.ar (.go (.ar (.go (.ar (.go (.ar (.go pA))))))))))))
def wi4(n:Int):o8 (Env.of pP (j9 [])) 1000 (x9 pP 299) .unit (x6 32 []) (v7 pP 299) jH0 (v6 pP 299 [J n,J 4]) [] =(rT (.ag (n < -2147483648) (.ai (.done (.tuple [SV.str [],J 3]))) (.ag (n>=2147483648) (.ai (.done (.tuple [SV.str [],J 3]))) (rT (rT (.aj ((0+ [u8.wrap ((u64.wrap n).fdiv 16777216)].length)*1<=140737488355328) (rT (.aj (([u8.wrap ((u64.wrap n).fdiv 16777216)].length+ [u8.wrap ((u64.wrap n).fdiv 65536)].length)*1<=140737488355328) (rT (.aj ((([u8.wrap ((u64.wrap n).fdiv 16777216)] ++[u8.wrap ((u64.wrap n).fdiv 65536)]).length+ [u8.wrap ((u64.wrap n).fdiv 256)].length)*1<=140737488355328) (rT (.aj ((([u8.wrap ((u64.wrap n).fdiv 16777216)] ++[u8.wrap ((u64.wrap n).fdiv 65536)] ++[u8.wrap ((u64.wrap n).fdiv 256)]).length+ [u8.wrap ((u64.wrap n).fdiv 1)].length)*1<=140737488355328) (.ai (.done (.tuple [SV.str (List.map (λn=>UInt8.ofNat (Int.toNat n)) ([u8.wrap ((u64.wrap n).fdiv 16777216)] ++[u8.wrap ((u64.wrap n).fdiv 65536)] ++[u8.wrap ((u64.wrap n).fdiv 256)] ++[u8.wrap ((u64.wrap n).fdiv 1)])),J 0]))))))))))))))):=by kernel_rfl
def jH2:ax:=.ln 13 (.ah (.ln 9 pA) (.ln 9 (.ah .all (.go (.ar (.go (.ar (.go (.ar (.go (.ar (.go pA))))))))))))
def jH1(n:Int):o8 (Env.of pP (j9 [])) 1000 (x9 pP 280) .unit (x6 34 []) (v7 pP 280) jH2 (v6 pP 280 [J n,J 4]) [] =(rT (.ag (n < -2147483648) (.ai (.done (.tuple [SV.str [],J 3]))) (rT (.ag (n>=2147483648) (.ai (.done (.tuple [SV.str [],J 3]))) (rT (rT (rT (rT (rT (rT (.aj (2< (↑((List.replicate 4 0).set 3 (u8.wrap ((u64.wrap n).tmod 256))).length:Int)) (.aj (2< ((List.replicate 4 0).set 3 (u8.wrap ((u64.wrap n).tmod 256))).length) (rT (rT (.aj (1< (↑(((List.replicate 4 0).set 3 (u8.wrap ((u64.wrap n).tmod 256))).set 2 (u8.wrap ((u64.wrap ((u64.wrap n).tdiv 256)).tmod 256))).length:Int)) (.aj (1< (((List.replicate 4 0).set 3 (u8.wrap ((u64.wrap n).tmod 256))).set 2 (u8.wrap ((u64.wrap ((u64.wrap n).tdiv 256)).tmod 256))).length) (rT (rT (.aj (0< (↑((((List.replicate 4 0).set 3 (u8.wrap ((u64.wrap n).tmod 256))).set 2 (u8.wrap ((u64.wrap ((u64.wrap n).tdiv 256)).tmod 256))).set 1 (u8.wrap ((u64.wrap ((u64.wrap ((u64.wrap n).tdiv 256)).tdiv 256)).tmod 256))).length:Int)) (.aj (0< ((((List.replicate 4 0).set 3 (u8.wrap ((u64.wrap n).tmod 256))).set 2 (u8.wrap ((u64.wrap ((u64.wrap n).tdiv 256)).tmod 256))).set 1 (u8.wrap ((u64.wrap ((u64.wrap ((u64.wrap n).tdiv 256)).tdiv 256)).tmod 256))).length) (rT (.ai (.done (.tuple [SV.str (List.map (λn=>UInt8.ofNat (Int.toNat n)) (((((List.replicate 4 0).set 3 (u8.wrap ((u64.wrap n).tmod 256))).set 2 (u8.wrap ((u64.wrap ((u64.wrap n).tdiv 256)).tmod 256))).set 1 (u8.wrap ((u64.wrap ((u64.wrap ((u64.wrap n).tdiv 256)).tdiv 256)).tmod 256))).set 0 (u8.wrap ((u64.wrap ((u64.wrap ((u64.wrap ((u64.wrap n).tdiv 256)).tdiv 256)).tdiv 256)).tmod 256)))),J 0])))))))))))))))))))))))):=by kernel_rfl
def Mq(s:List UInt8)(a:Int):Int:=u64.wrap (↑(BitVec.ofInt 64 0 |||BitVec.ofInt 64 (u64.wrap (↑(s.getD (i64.wrap (a+0)).toNat 0).toNat:Int))).toNat:Int)
def GX(s:List UInt8)(a:Int):Int:=u64.wrap (↑(BitVec.ofInt 64 (u64.wrap (u64.wrap (↑(BitVec.ofInt 64 (u64.wrap (u64.wrap (↑(BitVec.ofInt 64 (u64.wrap (u64.wrap (↑(BitVec.ofInt 64 0 |||BitVec.ofInt 64 (u64.wrap (↑(s.getD (i64.wrap (a+0)).toNat 0).toNat:Int))).toNat:Int)*256)) |||BitVec.ofInt 64 (u64.wrap (↑(s.getD (i64.wrap (a+1)).toNat 0).toNat:Int))).toNat:Int)*256)) |||BitVec.ofInt 64 (u64.wrap (↑(s.getD (i64.wrap (a+2)).toNat 0).toNat:Int))).toNat:Int)*256)) |||BitVec.ofInt 64 (u64.wrap (↑(s.getD (i64.wrap (a+3)).toNat 0).toNat:Int))).toNat:Int)
def Mp(s:List UInt8)(a:Int):Int:=u64.wrap (↑(BitVec.ofInt 64 (u64.wrap (u64.wrap (↑(BitVec.ofInt 64 (u64.wrap (u64.wrap (↑(BitVec.ofInt 64 (u64.wrap (u64.wrap (↑(BitVec.ofInt 64 (u64.wrap (u64.wrap (↑(BitVec.ofInt 64 (u64.wrap (u64.wrap (↑(BitVec.ofInt 64 0 |||BitVec.ofInt 64 (u64.wrap (↑(s.getD (i64.wrap (a+0)).toNat 0).toNat:Int))).toNat:Int)*256)) |||BitVec.ofInt 64 (u64.wrap (↑(s.getD (i64.wrap (a+1)).toNat 0).toNat:Int))).toNat:Int)*256)) |||BitVec.ofInt 64 (u64.wrap (↑(s.getD (i64.wrap (a+2)).toNat 0).toNat:Int))).toNat:Int)*256)) |||BitVec.ofInt 64 (u64.wrap (↑(s.getD (i64.wrap (a+3)).toNat 0).toNat:Int))).toNat:Int)*256)) |||BitVec.ofInt 64 (u64.wrap (↑(s.getD (i64.wrap (a+4)).toNat 0).toNat:Int))).toNat:Int)*256)) |||BitVec.ofInt 64 (u64.wrap (↑(s.getD (i64.wrap (a+5)).toNat 0).toNat:Int))).toNat:Int)
def ju3:ax:=.ah (.ln 9 pA) (.ln 4 (.ah (.ln 4 pA) (.ln 7 (.ah pA (.go (.ar (.go (.ar (.ar (.ah .all .all))))))))))
def tw1(s:List UInt8)(a:Int):o8 (Env.of pP (j9 [])) 1000 (x9 pP 282) .unit (x6 30 []) (v7 pP 282) ju3 (v6 pP 282 [.str s,J a,J 1]) [] =(.ag (a<0) (.ai (.done (.tuple [J 0,J 0,J 1]))) (.ag (a> (↑s.length:Int)) (.ai (.done (.tuple [J 0,J 0,J 1]))) (.ag (i64.wrap ((↑s.length:Int)-a)<1) (.ai (.done (.tuple [J 0,J 0,J 6]))) (rT (.aj (0<=i64.wrap (a+0)&&i64.wrap (a+0)< (↑s.length:Int)) (.ag (Mq s a>=9223372036854775808) (.ai (.done (.tuple [J 0,J 0,J 3]))) (.ai (.done (.tuple [J (i64.wrap (Mq s a)),J (i64.wrap (a+1)),J 0]))))))))):=by kernel_rfl
def ju7:ax:=.ah (.ln 9 pA) (.ln 4 (.ah (.ln 4 pA) (.ln 7 (.ah pA (.ar (.ah .all .all))))))
def ju6(s:List UInt8)(a:Int):o8 (Env.of pP (j9 [zI])) 1000 (x9 pP 321) .unit (x6 31 []) (v7 pP 321) ju7 (v6 pP 321 [.str s,J a,J 1]) [] =(.ag (a<0) (.ai (.done (.tuple [J 0,J 0,J 1]))) (.ag (a> (↑s.length:Int)) (.ai (.done (.tuple [J 0,J 0,J 1]))) (.ag (i64.wrap ((↑s.length:Int)-a)<1) (.ai (.done (.tuple [J 0,J 0,J 6]))) (.aj (0<=i64.wrap (a+1)&&i64.wrap (a+1)<=(↑s.length:Int)&&0<=a&&a<=i64.wrap (a+1)) (.aj ((↑(List.drop a.toNat (List.take (i64.wrap (a+1)).toNat s)).length:Int)<=100000) (.ag (mZ 0 (List.drop a.toNat (List.take (i64.wrap (a+1)).toNat s))>=9223372036854775808) (.ai (.done (.tuple [J 0,J 0,J 3]))) (.ai (.done (.tuple [J (i64.wrap (mZ 0 (List.drop a.toNat (List.take (i64.wrap (a+1)).toNat s)))),J (i64.wrap (a+1)),J 0]))))))))):=by kernel_rfl
def ju4:ax:=.ah (.ln 9 pA) (.ln 4 (.ah (.ln 4 pA) (.ln 7 (.ah pA (.go (.ar (.go (.ar (.go (.ar (.go (.ar (.go (.ar (.ar (.ah .all .all))))))))))))))))
def tw4(s:List UInt8)(a:Int):o8 (Env.of pP (j9 [])) 1000 (x9 pP 282) .unit (x6 30 []) (v7 pP 282) ju4 (v6 pP 282 [.str s,J a,J 4]) [] =(.ag (a<0) (.ai (.done (.tuple [J 0,J 0,J 1]))) (.ag (a> (↑s.length:Int)) (.ai (.done (.tuple [J 0,J 0,J 1]))) (.ag (i64.wrap ((↑s.length:Int)-a)<4) (.ai (.done (.tuple [J 0,J 0,J 6]))) (rT (.aj (0<=i64.wrap (a+0)&&i64.wrap (a+0)< (↑s.length:Int)) (rT (.aj (0<=i64.wrap (a+1)&&i64.wrap (a+1)< (↑s.length:Int)) (rT (.aj (0<=i64.wrap (a+2)&&i64.wrap (a+2)< (↑s.length:Int)) (rT (.aj (0<=i64.wrap (a+3)&&i64.wrap (a+3)< (↑s.length:Int)) (.ag (GX s a>=9223372036854775808) (.ai (.done (.tuple [J 0,J 0,J 3]))) (.ai (.done (.tuple [J (i64.wrap (GX s a)),J (i64.wrap (a+4)),J 0]))))))))))))))):=by kernel_rfl
def ju9:ax:=.ah (.ln 9 pA) (.ln 4 (.ah (.ln 4 pA) (.ln 7 (.ah pA (.ar (.ah .all .all))))))
def ju8(s:List UInt8)(a:Int):o8 (Env.of pP (j9 [zI])) 1000 (x9 pP 321) .unit (x6 31 []) (v7 pP 321) ju9 (v6 pP 321 [.str s,J a,J 4]) [] =(.ag (a<0) (.ai (.done (.tuple [J 0,J 0,J 1]))) (.ag (a> (↑s.length:Int)) (.ai (.done (.tuple [J 0,J 0,J 1]))) (.ag (i64.wrap ((↑s.length:Int)-a)<4) (.ai (.done (.tuple [J 0,J 0,J 6]))) (.aj (0<=i64.wrap (a+4)&&i64.wrap (a+4)<=(↑s.length:Int)&&0<=a&&a<=i64.wrap (a+4)) (.aj ((↑(List.drop a.toNat (List.take (i64.wrap (a+4)).toNat s)).length:Int)<=100000) (.ag (mZ 0 (List.drop a.toNat (List.take (i64.wrap (a+4)).toNat s))>=9223372036854775808) (.ai (.done (.tuple [J 0,J 0,J 3]))) (.ai (.done (.tuple [J (i64.wrap (mZ 0 (List.drop a.toNat (List.take (i64.wrap (a+4)).toNat s)))),J (i64.wrap (a+4)),J 0]))))))))):=by kernel_rfl
def ju5:ax:=.ah (.ln 9 pA) (.ln 4 (.ah (.ln 4 pA) (.ln 7 (.ah pA (.go (.ar (.go (.ar (.go (.ar (.go (.ar (.go (.ar (.go (.ar (.go (.ar (.ar (.ah .all .all))))))))))))))))))))
def tw6(s:List UInt8)(a:Int):o8 (Env.of pP (j9 [])) 1000 (x9 pP 282) .unit (x6 30 []) (v7 pP 282) ju5 (v6 pP 282 [.str s,J a,J 6]) [] =(.ag (a<0) (.ai (.done (.tuple [J 0,J 0,J 1]))) (.ag (a> (↑s.length:Int)) (.ai (.done (.tuple [J 0,J 0,J 1]))) (.ag (i64.wrap ((↑s.length:Int)-a)<6) (.ai (.done (.tuple [J 0,J 0,J 6]))) (rT (.aj (0<=i64.wrap (a+0)&&i64.wrap (a+0)< (↑s.length:Int)) (rT (.aj (0<=i64.wrap (a+1)&&i64.wrap (a+1)< (↑s.length:Int)) (rT (.aj (0<=i64.wrap (a+2)&&i64.wrap (a+2)< (↑s.length:Int)) (rT (.aj (0<=i64.wrap (a+3)&&i64.wrap (a+3)< (↑s.length:Int)) (rT (.aj (0<=i64.wrap (a+4)&&i64.wrap (a+4)< (↑s.length:Int)) (rT (.aj (0<=i64.wrap (a+5)&&i64.wrap (a+5)< (↑s.length:Int)) (.ag (Mp s a>=9223372036854775808) (.ai (.done (.tuple [J 0,J 0,J 3]))) (.ai (.done (.tuple [J (i64.wrap (Mp s a)),J (i64.wrap (a+6)),J 0]))))))))))))))))))):=by kernel_rfl
def jv1:ax:=.ah (.ln 9 pA) (.ln 4 (.ah (.ln 4 pA) (.ln 7 (.ah pA (.ar (.ah .all .all))))))
def jv0(s:List UInt8)(a:Int):o8 (Env.of pP (j9 [zI])) 1000 (x9 pP 321) .unit (x6 31 []) (v7 pP 321) jv1 (v6 pP 321 [.str s,J a,J 6]) [] =(.ag (a<0) (.ai (.done (.tuple [J 0,J 0,J 1]))) (.ag (a> (↑s.length:Int)) (.ai (.done (.tuple [J 0,J 0,J 1]))) (.ag (i64.wrap ((↑s.length:Int)-a)<6) (.ai (.done (.tuple [J 0,J 0,J 6]))) (.aj (0<=i64.wrap (a+6)&&i64.wrap (a+6)<=(↑s.length:Int)&&0<=a&&a<=i64.wrap (a+6)) (.aj ((↑(List.drop a.toNat (List.take (i64.wrap (a+6)).toNat s)).length:Int)<=100000) (.ag (mZ 0 (List.drop a.toNat (List.take (i64.wrap (a+6)).toNat s))>=9223372036854775808) (.ai (.done (.tuple [J 0,J 0,J 3]))) (.ai (.done (.tuple [J (i64.wrap (mZ 0 (List.drop a.toNat (List.take (i64.wrap (a+6)).toNat s)))),J (i64.wrap (a+6)),J 0]))))))))):=by kernel_rfl
def jm2:ax:=.ah (.ln 9 pA) (.ln 4 (.ah (.ln 4 pA) (.ln 7 (.ah pA (.go (.ar (.go (.ar (.go (.ar (.go (.ar (.go (.ar pA))))))))))))))
def ti4(s:List UInt8)(a:Int):o8 (Env.of pP (j9 [])) 1000 (x9 pP 284) .unit (x6 34 []) (v7 pP 284) jm2 (v6 pP 284 [.str s,J a,J 4]) [] =(.ag (a<0) (.ai (.done (.tuple [J 0,J 0,J 1]))) (.ag (a> (↑s.length:Int)) (.ai (.done (.tuple [J 0,J 0,J 1]))) (.ag (i64.wrap ((↑s.length:Int)-a)<4) (.ai (.done (.tuple [J 0,J 0,J 6]))) (rT (.aj (0<=i64.wrap (a+0)&&i64.wrap (a+0)< (↑s.length:Int)) (rT (.aj (0<=i64.wrap (a+1)&&i64.wrap (a+1)< (↑s.length:Int)) (rT (.aj (0<=i64.wrap (a+2)&&i64.wrap (a+2)< (↑s.length:Int)) (rT (.aj (0<=i64.wrap (a+3)&&i64.wrap (a+3)< (↑s.length:Int)) (rT (rT (.ai (.done (.tuple [J ((i64.wrap (u64.wrap (GX s a*4294967296))).fdiv 4294967296),J (i64.wrap (a+4)),J 0])))))))))))))))):=by kernel_rfl
def jm4:ax:=.ah (.ln 9 pA) (.ln 4 (.ah (.ln 4 pA) (.ln 7 (.ah pA (.ln 5 (.ah .all .all))))))
def jm3(s:List UInt8)(a:Int):o8 (Env.of pP (j9 [zI])) 1000 (x9 pP 322) .unit (x6 46 []) (v7 pP 322) jm4 (v6 pP 322 [.str s,J a,J 4]) [] =(.ag (a<0) (.ai (.done (.tuple [J 0,J 0,J 1]))) (.ag (a> (↑s.length:Int)) (.ai (.done (.tuple [J 0,J 0,J 1]))) (.ag (i64.wrap ((↑s.length:Int)-a)<4) (.ai (.done (.tuple [J 0,J 0,J 6]))) (.aj (0<=i64.wrap (a+4)&&i64.wrap (a+4)<=(↑s.length:Int)&&0<=a&&a<=i64.wrap (a+4)) (.aj ((↑(List.drop a.toNat (List.take (i64.wrap (a+4)).toNat s)).length:Int)<=100000) (.aj (0< (↑(List.drop a.toNat (List.take (i64.wrap (a+4)).toNat s)).length:Int)) (.ag ((↑((List.drop a.toNat (List.take (i64.wrap (a+4)).toNat s)).getD 0 0).toNat:Int)>=128) (rT (.ai (.done (.tuple [J (i64.wrap (i64.wrap (mZ 0 (List.drop a.toNat (List.take (i64.wrap (a+4)).toNat s)))-4294967296)),J (i64.wrap (a+4)),J 0])))) (.ai (.done (.tuple [J (i64.wrap (mZ 0 (List.drop a.toNat (List.take (i64.wrap (a+4)).toNat s)))),J (i64.wrap (a+4)),J 0])))))))))):=by kernel_rfl
def Zc:ax:=.ah (.ar (.ar pA)) (.ar (.ar (.ah .all (.ah .all .all))))
def y62(s:List UInt8)(n:Int):o8 (Env.of pP (j9 [])) 1000 (x9 pP 253) .unit (x6 24 []) (v7 pP 253) Zc (v6 pP 253 [.str s,J n]) [] =(.ag (n<0) (.ai (.done (.tuple [SV.str [],J 1]))) (.ag (n>65536) (.ai (.done (.tuple [SV.str [],J 1]))) (.ag ((↑s.length:Int)>n) (.ai (.done (.tuple [SV.str [],J 2]))) (.aj (0<=i64.wrap (n-(↑s.length:Int))&&i64.wrap (n-(↑s.length:Int))==i64.wrap (n-(↑s.length:Int))&&1*i64.wrap (n-(↑s.length:Int))<=140737488355328&&i64.wrap (n-(↑s.length:Int))<=(9223372036854775807:Int)) (.aj (((s.length+(List.map (λn=>UInt8.ofNat (Int.toNat n)) (List.replicate (i64.wrap (n-(↑s.length:Int))).toNat (0:Int))).length:Nat):Int)<=(9223372036854775807:Int)) (.ai (.done (.tuple [SV.str (s++List.map (λn=>UInt8.ofNat (Int.toNat n)) (List.replicate (i64.wrap (n-(↑s.length:Int))).toNat (0:Int))),J 0])))))))):=by kernel_rfl
def Eg(x:Int):u8.wrap x=x % 256:=by
 have h2:IntKind.wrap .u8 x=if false&&x % 256>=128 then x % 256-256 else x % 256:=rfl
 rw[h2];simp
def uh(x:Int):u64.wrap x=x % 18446744073709551616:=by
 have h2:IntKind.wrap .u64 x=if false&&x % 18446744073709551616>=9223372036854775808 then x % 18446744073709551616-18446744073709551616 else x % 18446744073709551616:=rfl
 rw[h2];simp
variable{x:Int}
def rD(h0:0<=x)(h1:x<18446744073709551616):u64.wrap x=x:=by rw[uh];omega
def ED(hk:0<=k):x.fdiv k=x / k:=uP x hk
def aK(n:Int):Nat->List UInt8
 |0=>[]
 |w+1=>UInt8.ofNat (n / 256 ^ w % 256).toNat::aK n w
theorem mQ(n:Int):∀w,(aK n w).length=w
 |0=>rfl
 |w+1=>rQ (· +1) (mQ n w)
def bq(n:Int)(hk:0<=k)(h0:0<=n)(h1:n<18446744073709551616):u8.wrap ((u64.wrap n).fdiv k)=n / k % 256:=by rw[Eg,rD h0 h1,ED hk]
def tmN(hx:0<=x):x.tmod 256=x % 256:=aBO hx
def tdN(hx:0<=x):x.tdiv 256=x / 256:=EQ hx
def sC(h0:0<=x)(h1:x<18446744073709551616):u64.wrap (x.tdiv 256)=x / 256:=by rw[tdN h0,uh];omega
def nX(h0:0<=x):u8.wrap (x.tmod 256)=x % 256:=by rw[tmN h0,Eg];omega
def bE(s:List UInt8)(a:Nat):Nat->Int
 |0=>0
 |w+1=>bE s a w*256+(s.getD (a+w) 0).toNat
def tk(s:List UInt8)(a w:Nat):Int:=match s with
 |[] =>bE [] a w
 |b::l=>bE (b::l) a w
def zY(s:List UInt8)(a w:Nat):tk s a w=bE s a w:=by cases s<;>rfl
def m6(s:List UInt8)(i:Nat):(0:Int)<=((s.getD i 0).toNat:Int)/\((s.getD i 0).toNat:Int)<256:=by
 have:=(s.getD i 0).toNat_lt;omega
def xb{b:Int}(h0:0<=x)(h1:x<72057594037927936)(b0:0<=b)(b1:b<256):u64.wrap (((BitVec.ofInt 64 (u64.wrap (x*256)) |||BitVec.ofInt 64 (u64.wrap b)).toNat:Nat):Int)=x*256+b:=by
 rw[rD (x:=x*256) (by omega) (by omega),rD b0 (by omega)];obtain⟨m,rfl⟩:=ox h0;obtain⟨k,rfl⟩:=ox b0;rw[aix,Io,Io]
 have e1:((m:Int)*256 % ((2:Nat) ^ 64:Nat)).toNat=m <<< 8:=by
  rw[Nat.shiftLeft_eq];have:((2 ^ 64:Nat):Int)=18446744073709551616:=rfl;rw[this];omega
 have e2:((k:Int) % ((2:Nat) ^ 64:Nat)).toNat=k:=by
  have:((2 ^ 64:Nat):Int)=18446744073709551616:=rfl;rw[this];omega
 rw[e1,e2,<-Nat.shiftLeft_add_eq_or_of_lt (show k<2 ^ 8 by omega),Nat.shiftLeft_eq,rD (by omega) (by omega)]
 push_cast
 rfl
def Sl{b:Int}(b0:0<=b)(b1:b<256):u64.wrap (((BitVec.ofInt 64 0 |||BitVec.ofInt 64 (u64.wrap b)).toNat:Nat):Int)=b:=by
 have:=xb (x:=0) (b:=b) (by omega) (by omega) b0 b1;rw[show u64.wrap ((0:Int)*256)=0 from rfl]at this;rw[this];omega
def sg(x:Int):Int:=if x<2147483648 then x else x-4294967296
def ja0(h0:0<=x)(h1:x<4294967296):(i64.wrap (u64.wrap (x*4294967296))).fdiv 4294967296=sg x:=by
 rw[ED (by omega),rD (by omega) (by omega)];unfold sg
 split;.rw[aG (by omega) (by omega)];omega
 .have:i64.wrap (x*4294967296)=x*4294967296-18446744073709551616:=by
   unfold IntKind.wrap;have e:(x*4294967296) % (2 ^ i64.bits:Int)=x*4294967296:=aiq (by omega) (by show x*4294967296<18446744073709551616;omega);simp only[e];rw[ay (by simp[IntKind.signed,IntKind.bits];omega)];rfl
  rw[this];omega
def sq{s:List UInt8}(hi:i<s.length):s.drop i=s.getD i 0::s.drop (i+1):=uY hi
theorem XF(s:List UInt8)(hs:s.length<=100000):∀ (n i:Nat) (u v:Int),i+n=s.length->v=mZ u (s.drop i)->t9 pP (x9 pP 335) (.int .u64 v) (x8 pP 335 0) (x7 19 [(0,.str s),(3,.int .u64 u),(4,J i)]) []
 |n,i,u,v,hi,hv=>by
  refine o6 eH (n:=1000) (hint:=.unit) (keep:=x6 19 [0,3,4]) (p:=XG) rfl ?_;erw [nu1 s u (i:Int)]
  have t0:(i:Int).toNat=i:=by omega
  have w1:i64.wrap ((i:Int)+1)=((i+1:Nat):Int):=by rw[aG (by omega) (by omega)];omega
  rw[t0,w1]
  refine o7 (λa=>?_) λa=>?_
  .match n,hi with
   |0,hi=>omega
   |n+1,hi=>
    rw[sq (by omega:i<s.length)]at hv;exact x0 (by simp;omega) ⟨o5 _ _,XF s hs n (i+1) _ v (by omega) hv⟩
  .rw[AD (by omega)]at hv
   subst hv;rfl
def xP7(s:List UInt8)(hs:s.length<=100000):SCall pP 335 [.str s] (.int .u64 (mZ 0 s)):=by
 refine s8 rfl rfl (by kernel_rfl) (o6 eH (n:=1000) (hint:=.unit) (keep:=x6 19 [0,3,4]) (p:=XH) (boxes:=[]) rfl ?_);have e:=nu0 s;unfold v6 v7 at e;erw [e];exact⟨o5 _ _,XF s hs s.length 0 0 _ (by omega) rfl⟩
def yE6:zI.ok pP:=λargs t ht=>by
 simp only[zI]at ht
 split at ht
 .cases ht
  intro h;exact xP7 _ (by have:=bG h;omega)
 .cases ht
def L2:cV pP (Env.of pP (j9 [zI])):=kW (l:=[zI]) ⟨yE6,trivial⟩
def x57(n:Int)(h0:0<=n)(h1:n<256):SCall pP 298 [J n,J 1] (.tuple [.str (aK n 1),J 0]):=by
 refine s8 rfl rfl (by kernel_rfl) (o6 eH (n:=1000) (hint:=.unit) (keep:=x6 25 []) (p:=jI7) (boxes:=[]) rfl ?_);have e:=wu1 n;unfold v6 v7 at e;erw [e];rw[bq n (k:=1) (by decide) h0 (by omega)];rw[rD h0 (by omega)]
 repeat' first
  |exact rfl
  |refine x0 rfl ?_
  |refine o7 (λh=>absurd h (by omega)) (λ_=>?_)
  |refine d8 (λh=>absurd (cO h) (by omega)) (λ_=>?_)
def x61(n:Int)(h0:0<=n)(h1:n<256):SCall pP 279 [J n,J 1] (.tuple [.str (aK n 1),J 0]):=by
 refine s8 rfl rfl (by kernel_rfl) (o6 eH (n:=1000) (hint:=.unit) (keep:=x6 27 []) (p:=jJ3) (boxes:=[]) rfl ?_);have e:=jJ2 n;unfold v6 v7 at e;erw [e];rw[rD h0 (by omega)]
 have m0:u8.wrap ((n).tmod 256)=n / 1 % 256:=by rw[nX (by omega)];try omega
 rw[m0]
 repeat' first
  |exact rfl
  |refine x0 rfl ?_
  |refine o7 (λh=>absurd h (by omega)) (λ_=>?_)
  |refine d8 (λh=>absurd (cO h) (by omega)) (λ_=>?_)
def x58(n:Int)(h0:0<=n)(h1:n<65536):SCall pP 298 [J n,J 2] (.tuple [.str (aK n 2),J 0]):=by
 refine s8 rfl rfl (by kernel_rfl) (o6 eH (n:=1000) (hint:=.unit) (keep:=x6 25 []) (p:=jI8) (boxes:=[]) rfl ?_);have e:=wu2 n;unfold v6 v7 at e;erw [e];rw[bq n (k:=256) (by decide) h0 (by omega),bq n (k:=1) (by decide) h0 (by omega)];rw[rD h0 (by omega)]
 repeat' first
  |exact rfl
  |refine x0 rfl ?_
  |refine o7 (λh=>absurd h (by omega)) (λ_=>?_)
  |refine d8 (λh=>absurd (cO h) (by omega)) (λ_=>?_)
def x62(n:Int)(h0:0<=n)(h1:n<65536):SCall pP 279 [J n,J 2] (.tuple [.str (aK n 2),J 0]):=by
 refine s8 rfl rfl (by kernel_rfl) (o6 eH (n:=1000) (hint:=.unit) (keep:=x6 27 []) (p:=jJ5) (boxes:=[]) rfl ?_);have e:=jJ4 n;unfold v6 v7 at e;erw [e];rw[rD h0 (by omega)]
 have m0:u8.wrap ((n).tmod 256)=n / 1 % 256:=by rw[nX (by omega)];try omega
 rw[m0]
 have d1:u64.wrap ((n).tdiv 256)=n / 256:=by rw[sC (by omega) (by omega)];try omega
 rw[d1]
 have m1:u8.wrap ((n / 256).tmod 256)=n / 256 % 256:=by rw[nX (by omega)];try omega
 rw[m1]
 repeat' first
  |exact rfl
  |refine x0 rfl ?_
  |refine o7 (λh=>absurd h (by omega)) (λ_=>?_)
  |refine d8 (λh=>absurd (cO h) (by omega)) (λ_=>?_)
def x59(n:Int)(h0:0<=n)(h1:n<4294967296):SCall pP 298 [J n,J 4] (.tuple [.str (aK n 4),J 0]):=by
 refine s8 rfl rfl (by kernel_rfl) (o6 eH (n:=1000) (hint:=.unit) (keep:=x6 25 []) (p:=jI9) (boxes:=[]) rfl ?_);have e:=wu4 n;unfold v6 v7 at e;erw [e];rw[bq n (k:=16777216) (by decide) h0 (by omega),bq n (k:=65536) (by decide) h0 (by omega),bq n (k:=256) (by decide) h0 (by omega),bq n (k:=1) (by decide) h0 (by omega)];rw[rD h0 (by omega)]
 repeat' first
  |exact rfl
  |refine x0 rfl ?_
  |refine o7 (λh=>absurd h (by omega)) (λ_=>?_)
  |refine d8 (λh=>absurd (cO h) (by omega)) (λ_=>?_)
def x63(n:Int)(h0:0<=n)(h1:n<4294967296):SCall pP 279 [J n,J 4] (.tuple [.str (aK n 4),J 0]):=by
 refine s8 rfl rfl (by kernel_rfl) (o6 eH (n:=1000) (hint:=.unit) (keep:=x6 27 []) (p:=jJ7) (boxes:=[]) rfl ?_);have e:=jJ6 n;unfold v6 v7 at e;erw [e];rw[rD h0 (by omega)]
 have m0:u8.wrap ((n).tmod 256)=n / 1 % 256:=by rw[nX (by omega)];try omega
 rw[m0]
 have d1:u64.wrap ((n).tdiv 256)=n / 256:=by rw[sC (by omega) (by omega)];try omega
 rw[d1]
 have m1:u8.wrap ((n / 256).tmod 256)=n / 256 % 256:=by rw[nX (by omega)];try omega
 rw[m1]
 have d2:u64.wrap ((n / 256).tdiv 256)=n / 65536:=by rw[sC (by omega) (by omega)];try omega
 rw[d2]
 have m2:u8.wrap ((n / 65536).tmod 256)=n / 65536 % 256:=by rw[nX (by omega)];try omega
 rw[m2]
 have d3:u64.wrap ((n / 65536).tdiv 256)=n / 16777216:=by rw[sC (by omega) (by omega)];try omega
 rw[d3]
 have m3:u8.wrap ((n / 16777216).tmod 256)=n / 16777216 % 256:=by rw[nX (by omega)];try omega
 rw[m3]
 repeat' first
  |exact rfl
  |refine x0 rfl ?_
  |refine o7 (λh=>absurd h (by omega)) (λ_=>?_)
  |refine d8 (λh=>absurd (cO h) (by omega)) (λ_=>?_)
def x60(n:Int)(h0:0<=n)(h1:n<281474976710656):SCall pP 298 [J n,J 6] (.tuple [.str (aK n 6),J 0]):=by
 refine s8 rfl rfl (by kernel_rfl) (o6 eH (n:=1000) (hint:=.unit) (keep:=x6 25 []) (p:=jJ1) (boxes:=[]) rfl ?_);have e:=wu6 n;unfold v6 v7 at e;erw [e];rw[bq n (k:=1099511627776) (by decide) h0 (by omega),bq n (k:=4294967296) (by decide) h0 (by omega),bq n (k:=16777216) (by decide) h0 (by omega),bq n (k:=65536) (by decide) h0 (by omega),bq n (k:=256) (by decide) h0 (by omega),bq n (k:=1) (by decide) h0 (by omega)];rw[rD h0 (by omega)]
 repeat' first
  |exact rfl
  |refine x0 rfl ?_
  |refine o7 (λh=>absurd h (by omega)) (λ_=>?_)
  |refine d8 (λh=>absurd (cO h) (by omega)) (λ_=>?_)
def x64(n:Int)(h0:0<=n)(h1:n<281474976710656):SCall pP 279 [J n,J 6] (.tuple [.str (aK n 6),J 0]):=by
 refine s8 rfl rfl (by kernel_rfl) (o6 eH (n:=1000) (hint:=.unit) (keep:=x6 27 []) (p:=jJ9) (boxes:=[]) rfl ?_);have e:=jJ8 n;unfold v6 v7 at e;erw [e];rw[rD h0 (by omega)]
 have m0:u8.wrap ((n).tmod 256)=n / 1 % 256:=by rw[nX (by omega)];try omega
 rw[m0]
 have d1:u64.wrap ((n).tdiv 256)=n / 256:=by rw[sC (by omega) (by omega)];try omega
 rw[d1]
 have m1:u8.wrap ((n / 256).tmod 256)=n / 256 % 256:=by rw[nX (by omega)];try omega
 rw[m1]
 have d2:u64.wrap ((n / 256).tdiv 256)=n / 65536:=by rw[sC (by omega) (by omega)];try omega
 rw[d2]
 have m2:u8.wrap ((n / 65536).tmod 256)=n / 65536 % 256:=by rw[nX (by omega)];try omega
 rw[m2]
 have d3:u64.wrap ((n / 65536).tdiv 256)=n / 16777216:=by rw[sC (by omega) (by omega)];try omega
 rw[d3]
 have m3:u8.wrap ((n / 16777216).tmod 256)=n / 16777216 % 256:=by rw[nX (by omega)];try omega
 rw[m3]
 have d4:u64.wrap ((n / 16777216).tdiv 256)=n / 4294967296:=by rw[sC (by omega) (by omega)];try omega
 rw[d4]
 have m4:u8.wrap ((n / 4294967296).tmod 256)=n / 4294967296 % 256:=by rw[nX (by omega)];try omega
 rw[m4]
 have d5:u64.wrap ((n / 4294967296).tdiv 256)=n / 1099511627776:=by rw[sC (by omega) (by omega)];try omega
 rw[d5]
 have m5:u8.wrap ((n / 1099511627776).tmod 256)=n / 1099511627776 % 256:=by rw[nX (by omega)];try omega
 rw[m5]
 repeat' first
  |exact rfl
  |refine x0 rfl ?_
  |refine o7 (λh=>absurd h (by omega)) (λ_=>?_)
  |refine d8 (λh=>absurd (cO h) (by omega)) (λ_=>?_)
end Go.Proofs.YtnkaepnblikcdaaGreat
set_option maxHeartbeats 4000000
namespace Go.Proofs.YtnkaepnblikcdaaGreat
open Go.Sx
def qh{i n:Nat}(h:i<n):(0<=((i:Nat):Int)&&((i:Nat):Int)< ((n:Nat):Int))=true:=by simp;omega
def f8{x:Int}(h0: -9000000000000000000<=x)(h1:x<=9000000000000000000):i64.wrap x=x:=aG (by omega) (by omega)
def x51(n:Int)(h0: -2147483648<=n)(h1:n<2147483648):SCall pP 299 [J n,J 4] (.tuple [.str (aK n 4),J 0]):=by
 refine s8 rfl rfl (by kernel_rfl) (o6 eH (n:=1000) (hint:=.unit) (keep:=x6 32 []) (p:=jH0) (boxes:=[]) rfl ?_);have e:=wi4 n;unfold v6 v7 at e;erw [e]
 have q3:u8.wrap ((u64.wrap n).fdiv 16777216)=n / 16777216 % 256:=by rw[Eg,uh,ED (by omega)];omega
 have q2:u8.wrap ((u64.wrap n).fdiv 65536)=n / 65536 % 256:=by rw[Eg,uh,ED (by omega)];omega
 have q1:u8.wrap ((u64.wrap n).fdiv 256)=n / 256 % 256:=by rw[Eg,uh,ED (by omega)];omega
 have q0:u8.wrap ((u64.wrap n).fdiv 1)=n / 1 % 256:=by rw[Eg,uh,ED (by omega)];omega
 rw[q3,q2,q1,q0]
 repeat' first
  |exact rfl
  |refine x0 rfl ?_
  |refine o7 (λh=>absurd h (by omega)) (λ_=>?_)
  |refine d8 (λh=>absurd (cO h) (by omega)) (λ_=>?_)
def x52(n:Int)(h0: -2147483648<=n)(h1:n<2147483648):SCall pP 280 [J n,J 4] (.tuple [.str (aK n 4),J 0]):=by
 refine s8 rfl rfl (by kernel_rfl) (o6 eH (n:=1000) (hint:=.unit) (keep:=x6 34 []) (p:=jH2) (boxes:=[]) rfl ?_);have e:=jH1 n;unfold v6 v7 at e;erw [e]
 have hr:0<=u64.wrap n/\u64.wrap n<18446744073709551616:=by rw[uh];omega
 have hm:u64.wrap n=n % 18446744073709551616:=uh n;generalize u64.wrap n=m at hr hm ⊢
 have d1:u64.wrap (m.tdiv 256)=m / 256:=by rw[sC (by omega) (by omega)]
 have d2:u64.wrap ((m / 256).tdiv 256)=m / 65536:=by rw[sC (by omega) (by omega)];omega
 have d3:u64.wrap ((m / 65536).tdiv 256)=m / 16777216:=by rw[sC (by omega) (by omega)];omega
 have m0:u8.wrap (m.tmod 256)=n / 1 % 256:=by rw[nX (by omega)];omega
 have m1:u8.wrap ((m / 256).tmod 256)=n / 256 % 256:=by rw[nX (by omega)];omega
 have m2:u8.wrap ((m / 65536).tmod 256)=n / 65536 % 256:=by rw[nX (by omega)];omega
 have m3:u8.wrap ((m / 16777216).tmod 256)=n / 16777216 % 256:=by rw[nX (by omega)];omega
 rw[d1,d2,d3,m0,m1,m2,m3]
 repeat' first
  |exact rfl
  |refine x0 rfl ?_
  |refine o7 (λh=>absurd h (by omega)) (λ_=>?_)
  |refine d8 (λh=>absurd (cO h) (by omega)) (λ_=>?_)
def jp9(s:List UInt8)(a:Nat):0<=bE s a 1/\bE s a 1<256:=by
 have q0:=m6 s a;simp only[bE,wq];omega
variable{s:List UInt8}{a:Nat}
def dk1(h:a+1<=s.length):List.drop a (List.take (a+1) s)=[s.getD a 0] :=by
 rw[UU,show a+1-a=1 by omega];rw[sq (show a<s.length by omega)];rfl
def nk1(h:a+1<=s.length):mZ 0 (List.drop a (List.take (a+1) s))=bE s a 1:=by
 have q0:=m6 s a;rw[dk1 h];simp only[mZ,uh,bE,wq];omega
def Mr(s:List UInt8)(a:Nat):0<=bE s a 4/\bE s a 4<4294967296:=by
 have q0:=m6 s a;have q1:=m6 s (a+1);have q2:=m6 s (a+2);have q3:=m6 s (a+3);simp only[bE,wq];omega
def Ut(h:a+4<=s.length):List.drop a (List.take (a+4) s)=[s.getD a 0,s.getD (a+1) 0,s.getD (a+2) 0,s.getD (a+3) 0] :=by
 rw[UU,show a+4-a=4 by omega];rw[sq (show a<s.length by omega),sq (show a+1<s.length by omega),sq (show a+1+1<s.length by omega),sq (show a+1+1+1<s.length by omega)];rfl
def nk4(h:a+4<=s.length):mZ 0 (List.drop a (List.take (a+4) s))=bE s a 4:=by
 have q0:=m6 s a;have q1:=m6 s (a+1);have q2:=m6 s (a+2);have q3:=m6 s (a+3);rw[Ut h];simp only[mZ,uh,bE,wq];omega
def jq1(s:List UInt8)(a:Nat):0<=bE s a 6/\bE s a 6<281474976710656:=by
 have q0:=m6 s a;have q1:=m6 s (a+1);have q2:=m6 s (a+2);have q3:=m6 s (a+3);have q4:=m6 s (a+4);have q5:=m6 s (a+5);simp only[bE,wq];omega
def dk6(h:a+6<=s.length):List.drop a (List.take (a+6) s)=[s.getD a 0,s.getD (a+1) 0,s.getD (a+2) 0,s.getD (a+3) 0,s.getD (a+4) 0,s.getD (a+5) 0] :=by
 rw[UU,show a+6-a=6 by omega];rw[sq (show a<s.length by omega),sq (show a+1<s.length by omega),sq (show a+1+1<s.length by omega),sq (show a+1+1+1<s.length by omega),sq (show a+1+1+1+1<s.length by omega),sq (show a+1+1+1+1+1<s.length by omega)];rfl
def nk6(h:a+6<=s.length):mZ 0 (List.drop a (List.take (a+6) s))=bE s a 6:=by
 have q0:=m6 s a;have q1:=m6 s (a+1);have q2:=m6 s (a+2);have q3:=m6 s (a+3);have q4:=m6 s (a+4);have q5:=m6 s (a+5);rw[dk6 h];simp only[mZ,uh,bE,wq];omega
def jq3(s:List UInt8)(a:Nat)(h:a<=100000):Mq s (a:Int)=bE s a 1:=by
 have q0:=m6 s (a+0)
 have k0:(i64.wrap ((a:Int)+0)).toNat=a+0:=by rw[f8 (by omega) (by omega)];omega
 unfold Mq;rw[k0];rw[Sl q0.1 q0.2]
 have p0:bE s a 1=((s.getD (a+0) 0).toNat:Int):=by simp only[bE,UV,UW]
 have l0:0<=bE s a 1/\bE s a 1<256:=by rw[p0];exact q0
 rw[<-p0]
def jq5(s:List UInt8)(a:Nat)(h:a<=100000):GX s (a:Int)=bE s a 4:=by
 have q0:=m6 s (a+0)
 have k0:(i64.wrap ((a:Int)+0)).toNat=a+0:=by rw[f8 (by omega) (by omega)];omega
 have q1:=m6 s (a+1)
 have k1:(i64.wrap ((a:Int)+1)).toNat=a+1:=by rw[f8 (by omega) (by omega)];omega
 have q2:=m6 s (a+2)
 have k2:(i64.wrap ((a:Int)+2)).toNat=a+2:=by rw[f8 (by omega) (by omega)];omega
 have q3:=m6 s (a+3)
 have k3:(i64.wrap ((a:Int)+3)).toNat=a+3:=by rw[f8 (by omega) (by omega)];omega
 unfold GX;rw[k0,k1,k2,k3];rw[Sl q0.1 q0.2]
 have p0:bE s a 1=((s.getD (a+0) 0).toNat:Int):=by simp only[bE,UV,UW]
 have l0:0<=bE s a 1/\bE s a 1<256:=by rw[p0];exact q0
 rw[<-p0];rw[xb (x:=bE s a 1) (b:=((s.getD (a+1) 0).toNat:Int)) (by omega) (by omega) q1.1 q1.2];have p1:bE s a 2=bE s a 1*256+((s.getD (a+1) 0).toNat:Int):=rfl
 have l1:0<=bE s a 2/\bE s a 2<65536:=by omega
 rw[<-p1];rw[xb (x:=bE s a 2) (b:=((s.getD (a+2) 0).toNat:Int)) (by omega) (by omega) q2.1 q2.2];have p2:bE s a 3=bE s a 2*256+((s.getD (a+2) 0).toNat:Int):=rfl
 have l2:0<=bE s a 3/\bE s a 3<16777216:=by omega
 rw[<-p2];rw[xb (x:=bE s a 3) (b:=((s.getD (a+3) 0).toNat:Int)) (by omega) (by omega) q3.1 q3.2];have p3:bE s a 4=bE s a 3*256+((s.getD (a+3) 0).toNat:Int):=rfl
 have l3:0<=bE s a 4/\bE s a 4<4294967296:=by omega
 rw[<-p3]
def jq7(s:List UInt8)(a:Nat)(h:a<=100000):Mp s (a:Int)=bE s a 6:=by
 have q0:=m6 s (a+0)
 have k0:(i64.wrap ((a:Int)+0)).toNat=a+0:=by rw[f8 (by omega) (by omega)];omega
 have q1:=m6 s (a+1)
 have k1:(i64.wrap ((a:Int)+1)).toNat=a+1:=by rw[f8 (by omega) (by omega)];omega
 have q2:=m6 s (a+2)
 have k2:(i64.wrap ((a:Int)+2)).toNat=a+2:=by rw[f8 (by omega) (by omega)];omega
 have q3:=m6 s (a+3)
 have k3:(i64.wrap ((a:Int)+3)).toNat=a+3:=by rw[f8 (by omega) (by omega)];omega
 have q4:=m6 s (a+4)
 have k4:(i64.wrap ((a:Int)+4)).toNat=a+4:=by rw[f8 (by omega) (by omega)];omega
 have q5:=m6 s (a+5)
 have k5:(i64.wrap ((a:Int)+5)).toNat=a+5:=by rw[f8 (by omega) (by omega)];omega
 unfold Mp;rw[k0,k1,k2,k3,k4,k5];rw[Sl q0.1 q0.2]
 have p0:bE s a 1=((s.getD (a+0) 0).toNat:Int):=by simp only[bE,UV,UW]
 have l0:0<=bE s a 1/\bE s a 1<256:=by rw[p0];exact q0
 rw[<-p0];rw[xb (x:=bE s a 1) (b:=((s.getD (a+1) 0).toNat:Int)) (by omega) (by omega) q1.1 q1.2];have p1:bE s a 2=bE s a 1*256+((s.getD (a+1) 0).toNat:Int):=rfl
 have l1:0<=bE s a 2/\bE s a 2<65536:=by omega
 rw[<-p1];rw[xb (x:=bE s a 2) (b:=((s.getD (a+2) 0).toNat:Int)) (by omega) (by omega) q2.1 q2.2];have p2:bE s a 3=bE s a 2*256+((s.getD (a+2) 0).toNat:Int):=rfl
 have l2:0<=bE s a 3/\bE s a 3<16777216:=by omega
 rw[<-p2];rw[xb (x:=bE s a 3) (b:=((s.getD (a+3) 0).toNat:Int)) (by omega) (by omega) q3.1 q3.2];have p3:bE s a 4=bE s a 3*256+((s.getD (a+3) 0).toNat:Int):=rfl
 have l3:0<=bE s a 4/\bE s a 4<4294967296:=by omega
 rw[<-p3];rw[xb (x:=bE s a 4) (b:=((s.getD (a+4) 0).toNat:Int)) (by omega) (by omega) q4.1 q4.2];have p4:bE s a 5=bE s a 4*256+((s.getD (a+4) 0).toNat:Int):=rfl
 have l4:0<=bE s a 5/\bE s a 5<1099511627776:=by omega
 rw[<-p4];rw[xb (x:=bE s a 5) (b:=((s.getD (a+5) 0).toNat:Int)) (by omega) (by omega) q5.1 q5.2];have p5:bE s a 6=bE s a 5*256+((s.getD (a+5) 0).toNat:Int):=rfl
 have l5:0<=bE s a 6/\bE s a 6<281474976710656:=by omega
 rw[<-p5]
def x28(s:List UInt8)(a:Nat)(h:a+1<=s.length)(hs:s.length<=100000):SCall pP 282 [.str s,J (a:Int),J 1] (.tuple [J (tk s a 1),J ((a+1:Nat):Int),J 0]):=by
 refine s8 rfl rfl (by kernel_rfl) (o6 eH (n:=1000) (hint:=.unit) (keep:=x6 30 []) (p:=ju3) (boxes:=[]) rfl ?_);have e:=tw1 s (a:Int);unfold v6 v7 at e;erw [e]
 have n0:((a:Int)).toNat=a:=by omega
 have jw:i64.wrap ((a:Int)+1)=((a+1:Nat):Int):=by rw[f8 (by omega) (by omega)];omega
 have jl:i64.wrap ((s.length:Int)-(a:Int))=(s.length:Int)-(a:Int):=f8 (by omega) (by omega);have tl:=jp9 s a;rw[zY]
 have j0:i64.wrap ((a:Int)+0)=((a+0:Nat):Int):=by rw[f8 (by omega) (by omega)];omega
 have k0:((a+0:Nat):Int).toNat=a+0:=by omega
 have q0:=m6 s (a+0);rw[jq3 s a (by omega)];rw[j0,jw,jl];rw[f8 (x:=bE s a 1) (by omega) (by omega)]
 exact o7 (λh=>absurd h (by omega)) λ_=>o7 (λh=>absurd h (by omega)) λ_=>o7 (λh=>absurd h (by omega)) λ_=>x0 rfl (x0 (qh (by omega)) (o7 (λh=>absurd h (by omega)) λ_=>rfl))
def x31(s:List UInt8)(a:Nat)(h:a+1<=s.length)(hs:s.length<=100000):SCall pP 321 [.str s,J (a:Int),J 1] (.tuple [J (tk s a 1),J ((a+1:Nat):Int),J 0]):=by
 refine s8 rfl rfl (by kernel_rfl) (o6 L2 (n:=1000) (hint:=.unit) (keep:=x6 31 []) (p:=ju7) (boxes:=[]) rfl ?_);have e:=ju6 s (a:Int);unfold v6 v7 at e;erw [e]
 have n0:((a:Int)).toNat=a:=by omega
 have jw:i64.wrap ((a:Int)+1)=((a+1:Nat):Int):=by rw[f8 (by omega) (by omega)];omega
 have jl:i64.wrap ((s.length:Int)-(a:Int))=(s.length:Int)-(a:Int):=f8 (by omega) (by omega);have tl:=jp9 s a;rw[zY];rw[jw,jl,n0,show((a+1:Nat):Int).toNat=a+1 by omega,nk1 h];rw[f8 (x:=bE s a 1) (by omega) (by omega)]
 exact o7 (λh=>absurd h (by omega)) λ_=>o7 (λh=>absurd h (by omega)) λ_=>o7 (λh=>absurd h (by omega)) λ_=>x0 (by simp<;>omega) (x0 (bn (by rw[dk1 h];simp)) (o7 (λh=>absurd h (by omega)) λ_=>rfl))
def x30(s:List UInt8)(a:Nat)(h:a+6<=s.length)(hs:s.length<=100000):SCall pP 282 [.str s,J (a:Int),J 6] (.tuple [J (tk s a 6),J ((a+6:Nat):Int),J 0]):=by
 refine s8 rfl rfl (by kernel_rfl) (o6 eH (n:=1000) (hint:=.unit) (keep:=x6 30 []) (p:=ju5) (boxes:=[]) rfl ?_);have e:=tw6 s (a:Int);unfold v6 v7 at e;erw [e]
 have n0:((a:Int)).toNat=a:=by omega
 have jw:i64.wrap ((a:Int)+6)=((a+6:Nat):Int):=by rw[f8 (by omega) (by omega)];omega
 have jl:i64.wrap ((s.length:Int)-(a:Int))=(s.length:Int)-(a:Int):=f8 (by omega) (by omega);have tl:=jq1 s a;rw[zY]
 have j0:i64.wrap ((a:Int)+0)=((a+0:Nat):Int):=by rw[f8 (by omega) (by omega)];omega
 have k0:((a+0:Nat):Int).toNat=a+0:=by omega
 have q0:=m6 s (a+0)
 have j1:i64.wrap ((a:Int)+1)=((a+1:Nat):Int):=by rw[f8 (by omega) (by omega)];omega
 have k1:((a+1:Nat):Int).toNat=a+1:=by omega
 have q1:=m6 s (a+1)
 have j2:i64.wrap ((a:Int)+2)=((a+2:Nat):Int):=by rw[f8 (by omega) (by omega)];omega
 have k2:((a+2:Nat):Int).toNat=a+2:=by omega
 have q2:=m6 s (a+2)
 have j3:i64.wrap ((a:Int)+3)=((a+3:Nat):Int):=by rw[f8 (by omega) (by omega)];omega
 have k3:((a+3:Nat):Int).toNat=a+3:=by omega
 have q3:=m6 s (a+3)
 have j4:i64.wrap ((a:Int)+4)=((a+4:Nat):Int):=by rw[f8 (by omega) (by omega)];omega
 have k4:((a+4:Nat):Int).toNat=a+4:=by omega
 have q4:=m6 s (a+4)
 have j5:i64.wrap ((a:Int)+5)=((a+5:Nat):Int):=by rw[f8 (by omega) (by omega)];omega
 have k5:((a+5:Nat):Int).toNat=a+5:=by omega
 have q5:=m6 s (a+5);rw[jq7 s a (by omega)];rw[j0,j1,j2,j3,j4,j5,jw,jl];rw[f8 (x:=bE s a 6) (by omega) (by omega)]
 exact o7 (λh=>absurd h (by omega)) λ_=>o7 (λh=>absurd h (by omega)) λ_=>o7 (λh=>absurd h (by omega)) λ_=>x0 rfl (x0 (qh (by omega)) (x0 rfl (x0 (qh (by omega)) (x0 rfl (x0 (qh (by omega)) (x0 rfl (x0 (qh (by omega)) (x0 rfl (x0 (qh (by omega)) (x0 rfl (x0 (qh (by omega)) (o7 (λh=>absurd h (by omega)) λ_=>rfl))))))))))))
def x33(s:List UInt8)(a:Nat)(h:a+6<=s.length)(hs:s.length<=100000):SCall pP 321 [.str s,J (a:Int),J 6] (.tuple [J (tk s a 6),J ((a+6:Nat):Int),J 0]):=by
 refine s8 rfl rfl (by kernel_rfl) (o6 L2 (n:=1000) (hint:=.unit) (keep:=x6 31 []) (p:=jv1) (boxes:=[]) rfl ?_);have e:=jv0 s (a:Int);unfold v6 v7 at e;erw [e]
 have n0:((a:Int)).toNat=a:=by omega
 have jw:i64.wrap ((a:Int)+6)=((a+6:Nat):Int):=by rw[f8 (by omega) (by omega)];omega
 have jl:i64.wrap ((s.length:Int)-(a:Int))=(s.length:Int)-(a:Int):=f8 (by omega) (by omega);have tl:=jq1 s a;rw[zY];rw[jw,jl,n0,show((a+6:Nat):Int).toNat=a+6 by omega,nk6 h];rw[f8 (x:=bE s a 6) (by omega) (by omega)]
 exact o7 (λh=>absurd h (by omega)) λ_=>o7 (λh=>absurd h (by omega)) λ_=>o7 (λh=>absurd h (by omega)) λ_=>x0 (by simp<;>omega) (x0 (bn (by rw[dk6 h];simp)) (o7 (λh=>absurd h (by omega)) λ_=>rfl))
def x29(s:List UInt8)(a:Nat)(h:a+4<=s.length)(hs:s.length<=100000):SCall pP 282 [.str s,J (a:Int),J 4] (.tuple [J (tk s a 4),J ((a+4:Nat):Int),J 0]):=by
 refine s8 rfl rfl (by kernel_rfl) (o6 eH (n:=1000) (hint:=.unit) (keep:=x6 30 []) (p:=ju4) (boxes:=[]) rfl ?_);have e:=tw4 s (a:Int);unfold v6 v7 at e;erw [e]
 have n0:((a:Int)).toNat=a:=by omega
 have jw:i64.wrap ((a:Int)+4)=((a+4:Nat):Int):=by rw[f8 (by omega) (by omega)];omega
 have jl:i64.wrap ((s.length:Int)-(a:Int))=(s.length:Int)-(a:Int):=f8 (by omega) (by omega);have tl:=Mr s a;rw[zY]
 have j0:i64.wrap ((a:Int)+0)=((a+0:Nat):Int):=by rw[f8 (by omega) (by omega)];omega
 have k0:((a+0:Nat):Int).toNat=a+0:=by omega
 have q0:=m6 s (a+0)
 have j1:i64.wrap ((a:Int)+1)=((a+1:Nat):Int):=by rw[f8 (by omega) (by omega)];omega
 have k1:((a+1:Nat):Int).toNat=a+1:=by omega
 have q1:=m6 s (a+1)
 have j2:i64.wrap ((a:Int)+2)=((a+2:Nat):Int):=by rw[f8 (by omega) (by omega)];omega
 have k2:((a+2:Nat):Int).toNat=a+2:=by omega
 have q2:=m6 s (a+2)
 have j3:i64.wrap ((a:Int)+3)=((a+3:Nat):Int):=by rw[f8 (by omega) (by omega)];omega
 have k3:((a+3:Nat):Int).toNat=a+3:=by omega
 have q3:=m6 s (a+3);rw[jq5 s a (by omega)];rw[j0,j1,j2,j3,jw,jl];rw[f8 (x:=bE s a 4) (by omega) (by omega)]
 exact o7 (λh=>absurd h (by omega)) λ_=>o7 (λh=>absurd h (by omega)) λ_=>o7 (λh=>absurd h (by omega)) λ_=>x0 rfl (x0 (qh (by omega)) (x0 rfl (x0 (qh (by omega)) (x0 rfl (x0 (qh (by omega)) (x0 rfl (x0 (qh (by omega)) (o7 (λh=>absurd h (by omega)) λ_=>rfl))))))))
def x32(s:List UInt8)(a:Nat)(h:a+4<=s.length)(hs:s.length<=100000):SCall pP 321 [.str s,J (a:Int),J 4] (.tuple [J (tk s a 4),J ((a+4:Nat):Int),J 0]):=by
 refine s8 rfl rfl (by kernel_rfl) (o6 L2 (n:=1000) (hint:=.unit) (keep:=x6 31 []) (p:=ju9) (boxes:=[]) rfl ?_);have e:=ju8 s (a:Int);unfold v6 v7 at e;erw [e]
 have n0:((a:Int)).toNat=a:=by omega
 have jw:i64.wrap ((a:Int)+4)=((a+4:Nat):Int):=by rw[f8 (by omega) (by omega)];omega
 have jl:i64.wrap ((s.length:Int)-(a:Int))=(s.length:Int)-(a:Int):=f8 (by omega) (by omega);have tl:=Mr s a;rw[zY];rw[jw,jl,n0,show((a+4:Nat):Int).toNat=a+4 by omega,nk4 h];rw[f8 (x:=bE s a 4) (by omega) (by omega)]
 exact o7 (λh=>absurd h (by omega)) λ_=>o7 (λh=>absurd h (by omega)) λ_=>o7 (λh=>absurd h (by omega)) λ_=>x0 (by simp<;>omega) (x0 (bn (by rw[Ut h];simp)) (o7 (λh=>absurd h (by omega)) λ_=>rfl))
def x18(s:List UInt8)(a:Nat)(h:a+4<=s.length)(hs:s.length<=100000):SCall pP 284 [.str s,J (a:Int),J 4] (.tuple [J (sg (tk s a 4)),J ((a+4:Nat):Int),J 0]):=by
 refine s8 rfl rfl (by kernel_rfl) (o6 eH (n:=1000) (hint:=.unit) (keep:=x6 34 []) (p:=jm2) (boxes:=[]) rfl ?_);have e:=ti4 s (a:Int);unfold v6 v7 at e;erw [e]
 have n0:((a:Int)).toNat=a:=by omega
 have jw:i64.wrap ((a:Int)+4)=((a+4:Nat):Int):=by rw[f8 (by omega) (by omega)];omega
 have jl:i64.wrap ((s.length:Int)-(a:Int))=(s.length:Int)-(a:Int):=f8 (by omega) (by omega);have tl:=Mr s a;rw[zY]
 have j0:i64.wrap ((a:Int)+0)=((a+0:Nat):Int):=by rw[f8 (by omega) (by omega)];omega
 have k0:((a+0:Nat):Int).toNat=a+0:=by omega
 have q0:=m6 s (a+0)
 have j1:i64.wrap ((a:Int)+1)=((a+1:Nat):Int):=by rw[f8 (by omega) (by omega)];omega
 have k1:((a+1:Nat):Int).toNat=a+1:=by omega
 have q1:=m6 s (a+1)
 have j2:i64.wrap ((a:Int)+2)=((a+2:Nat):Int):=by rw[f8 (by omega) (by omega)];omega
 have k2:((a+2:Nat):Int).toNat=a+2:=by omega
 have q2:=m6 s (a+2)
 have j3:i64.wrap ((a:Int)+3)=((a+3:Nat):Int):=by rw[f8 (by omega) (by omega)];omega
 have k3:((a+3:Nat):Int).toNat=a+3:=by omega
 have q3:=m6 s (a+3);rw[jq5 s a (by omega)];rw[j0,j1,j2,j3,jw,jl];rw[ja0 tl.1 tl.2]
 exact o7 (λh=>absurd h (by omega)) λ_=>o7 (λh=>absurd h (by omega)) λ_=>o7 (λh=>absurd h (by omega)) λ_=>x0 rfl (x0 (qh (by omega)) (x0 rfl (x0 (qh (by omega)) (x0 rfl (x0 (qh (by omega)) (x0 rfl (x0 (qh (by omega)) (x0 rfl (x0 rfl rfl)))))))))
def x19(s:List UInt8)(a:Nat)(h:a+4<=s.length)(hs:s.length<=100000):SCall pP 322 [.str s,J (a:Int),J 4] (.tuple [J (sg (tk s a 4)),J ((a+4:Nat):Int),J 0]):=by
 refine s8 rfl rfl (by kernel_rfl) (o6 L2 (n:=1000) (hint:=.unit) (keep:=x6 46 []) (p:=jm4) (boxes:=[]) rfl ?_);have e:=jm3 s (a:Int);unfold v6 v7 at e;erw [e]
 have n0:((a:Int)).toNat=a:=by omega
 have jw:i64.wrap ((a:Int)+4)=((a+4:Nat):Int):=by rw[f8 (by omega) (by omega)];omega
 have jl:i64.wrap ((s.length:Int)-(a:Int))=(s.length:Int)-(a:Int):=f8 (by omega) (by omega);have tl:=Mr s a;rw[zY];rw[jw,jl,n0,show((a+4:Nat):Int).toNat=a+4 by omega,nk4 h];rw[Ut h,f8 (x:=bE s a 4) (by omega) (by omega),f8 (x:=bE s a 4-4294967296) (by omega) (by omega)];have q0:=m6 s a;have q1:=m6 s (a+1);have q2:=m6 s (a+2);have q3:=m6 s (a+3)
 have hb:((s.getD a 0).toNat:Int)>=128↔¬bE s a 4<2147483648:=by simp only[bE,wq];omega
 refine o7 (λh=>absurd h (by omega)) (λ_=>o7 (λh=>absurd h (by omega)) (λ_=>o7 (λh=>absurd h (by omega)) (λ_=>?_)))
 refine x0 (by simp<;>omega) (x0 (bn (by simp<;>omega)) (x0 (by simp) (o7 (λh=>?_) λh=>?_)))
 .have h:¬bE s a 4<2147483648:=hb.1 h
  refine x0 rfl ?_;rw[show sg (bE s a 4)=bE s a 4-4294967296 from au h];rfl
 .have h:bE s a 4<2147483648:=by
   rcases UX (bE s a 4) 2147483648 with h'|h'
   .exact h'
   .exact absurd (hb.2 (by omega)) h
  rw[show sg (bE s a 4)=bE s a 4 from ay h];rfl
structure Rc where
 kind:Int
 seq:Int
 line:Int
 done:Int
 src:V4
 dst:V4
def Rc.cells(r:Rc):List SV:=[J r.kind,J r.seq,J r.line,J r.done,J r.src.1,J r.src.2.1,J r.src.2.2.1,J r.src.2.2.2,J r.dst.1,J r.dst.2.1,J r.dst.2.2.1,J r.dst.2.2.2]
def Rc.sv(r:Rc):SV:=.agg r.cells
def zL(c:V4):Bool:=az c.1 (-2147483648) 2147483647&& (az c.2.1 (-2147483648) 2147483647&& (az c.2.2.1 (-2147483648) 2147483647&&az c.2.2.2 (-2147483648) 2147483647))
def fB(r:Rc):Bool:=az r.kind 1 3&& (az r.seq 1 1099511627776&& (az r.line 0 1099511627776&& (az r.done 0 16777216&& (zL r.src&&zL r.dst))))
def zt{r:Rc}:fB r=true↔(1<=r.kind/\r.kind<=3)/\(1<=r.seq/\r.seq<=1099511627776)/\(0<=r.line/\r.line<=1099511627776)/\(0<=r.done/\r.done<=16777216)/\((-2147483648<=r.src.1/\r.src.1<=2147483647)/\(-2147483648<=r.src.2.1/\r.src.2.1<=2147483647)/\(-2147483648<=r.src.2.2.1/\r.src.2.2.1<=2147483647)/\-2147483648<=r.src.2.2.2/\r.src.2.2.2<=2147483647)/\(-2147483648<=r.dst.1/\r.dst.1<=2147483647)/\(-2147483648<=r.dst.2.1/\r.dst.2.1<=2147483647)/\(-2147483648<=r.dst.2.2.1/\r.dst.2.2.1<=2147483647)/\-2147483648<=r.dst.2.2.2/\r.dst.2.2.2<=2147483647:=by
 simp only[fB,zL,aH,v5]
def xU1(r:Rc):SCall pP 296 [r.sv] (.bool (fB r)):=
 aY aL [] trivial 1000 (let z0:ax:=.ar (.ar pA);.ah (.ln 27 pA) (.ln 3 (.ah (.ln 23 pA) (.ln 3 (.ah (.ln 19 pA) (.ln 3 (.ah (.ln 15 pA) (.ln 3 (.ah (.ln 11 pA) (.ln 3 (.ah (.ln 7 pA) (.ln 3 (.ah (.ln 3 pA) (.ln 3 (.ah .all (.go (.ar (.go (.ar (.ah z0 (.ar (.ar (.ah .all (.go (.ar (.ah z0 (.ar (.ar (.ah .all (.go (.ar (.ah z0 (.ar (.ar (.ah .all (.go (.ar (.ah z0 (.ar (.ar (.ah .all (.go (.ar (.go (.ar (.go (.ar (.ah z0 (.ar (.ar (.ah .all (.go (.ar (.ah z0 (.ar (.ar (.ah .all (.go (.ar (.ah z0 (.ar (.ar (.ah .all (.go (.ar (.ah z0 (.ar (.ar (.ah .all (.go (.ar (.go pA))))))))))))))))))))))))))))))))))))))))))))))))))))))))))))))))))))))))
  (t:=let y0:ak SV:=.ai (.bool false);.ag (r.kind<1) y0 (.ag (r.kind>3) y0 (.ag (r.seq<1) y0 (.ag (r.seq>1099511627776) y0 (.ag (r.line<0) y0 (.ag (r.line>1099511627776) y0 (.ag (r.done<0) y0 (.ag (r.done>16777216) y0 (rT (rT (.ag (r.src.1 < -2147483648) y0 (.ag (r.src.1>=2147483648) y0 (rT (.ag (r.src.2.1 < -2147483648) y0 (.ag (r.src.2.1>=2147483648) y0 (rT (.ag (r.src.2.2.1 < -2147483648) y0 (.ag (r.src.2.2.1>=2147483648) y0 (rT (.ag (r.src.2.2.2 < -2147483648) y0 (.ag (r.src.2.2.2>=2147483648) y0 (rT (rT (.ag (r.dst.1 < -2147483648) y0 (.ag (r.dst.1>=2147483648) y0 (rT (.ag (r.dst.2.1 < -2147483648) y0 (.ag (r.dst.2.1>=2147483648) y0 (rT (.ag (r.dst.2.2.1 < -2147483648) y0 (.ag (r.dst.2.2.1>=2147483648) y0 (rT (.ag (r.dst.2.2.2 < -2147483648) y0 (.ag (r.dst.2.2.2>=2147483648) y0 (.ai (.bool true))))))))))))))))))))))))))))))))))))
  (by kernel_rfl) (by
   have q:∀b:Bool,(b=true↔fB r=true)->SV.bool b=SV.bool (fB r):=λb h=>by rw[uQ.2 h]
   repeat' first|refine o7 (λ_=>?_) (λ_=>?_)|refine x0 rfl ?_|refine q _ ?_
   all_goals(rw[zt];simp only[aV,eY,vW,true_iff];omega)) (by kernel_rfl)
def xU2(r:Rc):SCall pP 250 [r.sv] (.bool (fB r)):=
 aY aL [] trivial 1000 (let z0:ax:=.ln 9 pA;let z1:ax:=.ln 4 pA;let z2:ax:=.ln 5 pA;.ah (.ln 3 (.ah (.ln 3 (.ah (.ln 3 (.ah (.ln 3 (.ah (.ln 3 (.ah (.ln 3 (.ah (.ln 3 (.ah (.ar (.ar (.go (.ar (.ah z0 (.ln 4 (.ah z1 (.go (.ar (.ah z0 (.ln 4 (.ah z1 (.go (.ar (.ah z0 (.ln 4 (.ah z1 (.go (.ar (.ah z0 (.ln 4 (.ah z1 (.go (.ln 5 (.go (.ar (.ah z2 (.ln 4 (.ah pA (.go (.ar (.ah z2 (.ln 4 (.ah pA (.go (.ar (.ah z2 (.ln 4 (.ah pA (.go (.ar (.ah z2 (.ln 4 (.ah pA (.go (.ar pA)))))))))))))))))))))))))))))))))))))))))))))) (.ln 6 pA))) (.ln 10 pA))) (.ln 14 pA))) (.ln 18 pA))) (.ln 22 pA))) (.ln 26 pA))) (.ln 30 pA))) (.ln 34 pA))
  (t:=let y0:ak SV:=.ai (.bool false);.ag (r.kind>=1) (.ag (r.kind<=3) (.ag (r.seq>=1) (.ag (r.seq<=1099511627776) (.ag (r.line>=0) (.ag (r.line<=1099511627776) (.ag (r.done>=0) (.ag (r.done<=16777216) (rT (.ag (r.src.1 < -2147483648) y0 (rT (.ag (r.src.1>=2147483648) y0 (rT (.ag (r.src.2.1 < -2147483648) y0 (rT (.ag (r.src.2.1>=2147483648) y0 (rT (.ag (r.src.2.2.1 < -2147483648) y0 (rT (.ag (r.src.2.2.1>=2147483648) y0 (rT (.ag (r.src.2.2.2 < -2147483648) y0 (rT (.ag (r.src.2.2.2>=2147483648) y0 (rT (.ag (r.dst.1 < -2147483648) y0 (rT (.ag (r.dst.1>=2147483648) y0 (rT (.ag (r.dst.2.1 < -2147483648) y0 (rT (.ag (r.dst.2.1>=2147483648) y0 (rT (.ag (r.dst.2.2.1 < -2147483648) y0 (rT (.ag (r.dst.2.2.1>=2147483648) y0 (rT (.ag (r.dst.2.2.2 < -2147483648) y0 (rT (.ag (r.dst.2.2.2>=2147483648) y0 (.ai (.bool true)))))))))))))))))))))))))))))))))) y0) y0) y0) y0) y0) y0) y0) y0)
  (by kernel_rfl) (by
   have q:∀b:Bool,(b=true↔fB r=true)->SV.bool b=SV.bool (fB r):=λb h=>by rw[uQ.2 h]
   repeat' first|refine o7 (λ_=>?_) (λ_=>?_)|refine x0 rfl ?_|refine q _ ?_
   all_goals(rw[zt];simp only[aV,eY,vW,true_iff];omega)) (by kernel_rfl)
end Go.Proofs.YtnkaepnblikcdaaGreat
